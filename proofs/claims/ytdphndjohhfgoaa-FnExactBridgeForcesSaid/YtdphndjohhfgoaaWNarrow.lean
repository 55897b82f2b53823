/-
  Contract: narrowing a range of forces through its pointer.
-/
import Derived.Test.YtdphndjohhfgoaaProg
import Derived.Test.YtdphndjohhfgoaaRow
import Derived.RegionTactic
import Derived.BigRegion
namespace Go.Proofs.Ytdphndjohhfgoaa
open Go.RowKit

set_option maxRecDepth 100000 in
set_option maxHeartbeats 1000000 in
theorem narrow_any (g i : Nat) (lo hi tl th p X Y : Int) (w : World) (c0 : w.cell? ⟨g, i, none⟩ = some (.int .i64 lo)) (c1 : w.cell? ⟨g, i + 1, none⟩ = some (.int .i64 hi)) (f0 : w.frozen? ⟨g, i, none⟩ = false) (f1 : w.frozen? ⟨g, i + 1, none⟩ = false)
    (hg : g < w.heap.size) (b1 : 0 ≤ lo ∧ lo ≤ 10000) (b2 : 0 ≤ hi ∧ hi ≤ 10000) (b3 : 0 ≤ tl ∧ tl ≤ 10000) (b4 : 0 ≤ th ∧ th ≤ 10000) (b5 : 0 ≤ p ∧ p ≤ 10000) (hX : X = max lo (tl - p)) (hY : Y = min hi (th + p)) :
    Calls Try.prog 70 #[.pointer (some ⟨g, i, none⟩), .agg #[.int .i64 tl, .int .i64 th], .int .i64 p] w fun e w' => e = .returned (.tuple #[]) ∧
      w' = (((w.setCell ⟨g, i, none⟩ (.int .i64 X)).setCell ⟨g, i + 1, none⟩ (.int .i64 Y)).alloc (.cells #[.int .i64 tl, .int .i64 th] 90)).drew := by
  obtain ⟨b11, b12⟩ := b1
  obtain ⟨b21, b22⟩ := b2
  obtain ⟨b31, b32⟩ := b3
  obtain ⟨b41, b42⟩ := b4
  obtain ⟨b51, b52⟩ := b5
  have hgn : g ≠ w.heap.size := by omega
  by_cases hm : lo < tl - p
  · by_cases hM : th + p < hi
    · have HX := Lib.hid (show X = tl - p by omega)
      have HY := Lib.hid (show Y = th + p by omega)
      clear hX hY
      go_enter Try.func70, Try.ntmps70
      go_wp2
      go_region
      go_end0
      exact ⟨rfl, by rw [HX.out, HY.out]⟩
    · have HX := Lib.hid (show X = tl - p by omega)
      have HY := Lib.hid (show Y = hi by omega)
      clear hX hY
      go_enter Try.func70, Try.ntmps70
      go_wp2
      go_region
      go_end0
      exact ⟨rfl, by rw [HX.out, HY.out]⟩
  · by_cases hM : th + p < hi
    · have HX := Lib.hid (show X = lo by omega)
      have HY := Lib.hid (show Y = th + p by omega)
      clear hX hY
      go_enter Try.func70, Try.ntmps70
      go_wp2
      go_region
      go_end0
      exact ⟨rfl, by rw [HX.out, HY.out]⟩
    · have HX := Lib.hid (show X = lo by omega)
      have HY := Lib.hid (show Y = hi by omega)
      clear hX hY
      go_enter Try.func70, Try.ntmps70
      go_wp2
      go_region
      go_end0
      exact ⟨rfl, by rw [HX.out, HY.out]⟩
/-- The same, said of a row. -/
theorem narrow_row (g i mm : Nat) (f : Nat → Value) (lo hi tl th p X Y : Int) (w : World) (hrow : RowF w g 90 mm f) (hi1 : i + 1 < mm) (e0 : f i = .int .i64 lo) (e1 : f (i + 1) = .int .i64 hi)
    (b1 : 0 ≤ lo ∧ lo ≤ 10000) (b2 : 0 ≤ hi ∧ hi ≤ 10000) (b3 : 0 ≤ tl ∧ tl ≤ 10000) (b4 : 0 ≤ th ∧ th ≤ 10000) (b5 : 0 ≤ p ∧ p ≤ 10000) (hX : X = max lo (tl - p)) (hY : Y = min hi (th + p)) :
    Calls Try.prog 70 #[.pointer (some ⟨g, i, none⟩), .agg #[.int .i64 tl, .int .i64 th], .int .i64 p] w fun e w' => e = .returned (.tuple #[]) ∧
      RowF w' g 90 mm (fun j => if j = i + 1 then .int .i64 Y else if j = i then .int .i64 X else f j) ∧ w.grownBy w' (some g) := by
  refine (narrow_any g i lo hi tl th p X Y w (by rw [hrow.cell (by omega), e0]) (by rw [hrow.cell hi1, e1]) (hrow.frozen _) (hrow.frozen _) hrow.lt b1 b2 b3 b4 b5 hX hY).mono ?_
  rintro e w' ⟨rfl, rfl⟩
  refine ⟨rfl, ((hrow.set i (.int .i64 X)).set (i + 1) (.int .i64 Y)).alloc _, rfl, rfl, rfl, (by first | (simp; done) | (simp; omega)), fun k hk hne => ?_⟩
  have hne' : k ≠ g := fun e => hne (by rw [e])
  show ((((w.setCell ⟨g, i, none⟩ (.int .i64 X)).setCell ⟨g, i + 1, none⟩ (.int .i64 Y)).alloc _).heap)[k]? = _
  rw [Below.heap_alloc _ _ k (by simp; omega), Below.heap_setCell _ _ _ k hne', Below.heap_setCell _ _ _ k hne']
end Go.Proofs.Ytdphndjohhfgoaa
