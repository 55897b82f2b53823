/-
  Contracts: the iterator over the sides of an order of laying; how many numbers can be laid.
-/
import Derived.RangeFuncNested
import Derived.RangeFuncBound
import Derived.RangeFuncCalls
import Derived.RangeFuncLeaves
import Derived.RangeFuncBox
import Derived.Shelf.Abstract
import Derived.WalkKit
import Derived.OwnWalkIn
import Derived.TacticsInMore
import Derived.LoopNIn
import Derived.LoopIn
import Derived.Outline
import Derived.Test.YtgaafmcmcalaoaaProg
import Derived.Test.YtgaafmcmcalaoaaWSmall
import Derived.Test.YtgaafmcmcalaoaaPSides
namespace Go.Proofs.Ytgaafmcmcalaoaa
open Go.RowKit Go.Shelf
attribute [local go_sem] Oper.semAt_some

/-- Below n₀, and in block Bn, nothing has turned. -/
def KeepB (n₀ Bn : Nat) (W W' : World) : Prop := Below n₀ W W' ∧ W'.heap[Bn]? = W.heap[Bn]?
theorem KeepB.t {n₀ Bn : Nat} {A B C : World} (h : KeepB n₀ Bn A B) (k : KeepB n₀ Bn B C) : KeepB n₀ Bn A C := ⟨h.1.trans k.1, k.2.trans h.2⟩
theorem KeepB.b {n₀ Bn : Nat} {w : World} (hn : n₀ ≤ w.heap.size) (hB : Bn < w.heap.size) (W : World) (l : Nat) (o o' : Obj) (hl : w.heap.size ≤ l) (h : W.heap[l]? = some o) (h1 : o.isCells = false) (h2 : o.isWalk = false) : KeepB n₀ Bn W (W.putObj l o') := by
  refine ⟨belowK_b hn W l o o' hl h h1 h2, ?_⟩
  obtain ⟨_, _, _, _, hg⟩ := grownBy_putObj' W l o'
  exact hg Bn (by have := (Array.getElem?_eq_some_iff.1 h).1; omega) (by simp; omega)

set_option maxRecDepth 100000 in
set_option maxHeartbeats 2000000 in
theorem sides1_in (F : Fence) (n : Nat) (hf : F.fn 52) (hro : F.round = none) (hn : 1 ≤ n) (l Bo Bn n₀ : Nat) (m : Int) (A : Option Addr) (len cap : Nat) (zs : List Int) (hm : 1 ≤ m ∧ m ≤ 8) (hlen : len ≤ 8) (J Jx : List (Int × Int) → World → Prop)
    (hY : ∀ pre x W, J pre W → pre.length < len → YieldAt F (n - 1) Try.prog l #[.int .i64 x.1, .int .i64 x.2] W fun e W' =>
      (e = .returned (.bool true) ∧ J (pre ++ [x]) W' ∧ KeepB n₀ Bn W W') ∨ (e = .returned (.bool false) ∧ Jx (pre ++ [x]) W'))
    (W : World) (hBo : W.cell? ⟨Bo, 0, none⟩ = some (.slice A len cap)) (hBn : W.cell? ⟨Bn, 0, none⟩ = some (.int .i64 m)) (hc : IntsAt W n₀ A len zs) (h0 : J [] W) :
    CallsIn F n Try.prog 52 #[.func (.yield l) #[] #[], .pointer (some ⟨Bo, 0, none⟩), .pointer (some ⟨Bn, 0, none⟩)] W fun e W' => (∃ v, e = .returned v) ∧
      ((∃ ys, ys = sidesL m zs ∧ J ys W') ∨ (∃ pre, True ∧ Jx pre W')) := by
  have HC := Lib.hid hc
  have hzl := Lib.hid hc.1
  clear hc
  refine callsIn_of_wp Try.func52 rfl hf ?_ hro
  simp only [Try.ntmps52, List.size_toArray, List.length_cons, List.length_nil, Nat.reduceAdd, Nat.reduceSub, Array.replicate_succ, Array.replicate_zero, List.push_toArray, List.append_toArray, List.nil_append, List.cons_append]
  gi_wp2
  gi_loopw [4, 5, 10] (fun a b i wr => ∃ (k : Nat) (lf rt : Int) (pre : List (Int × Int)), k ≤ len ∧ i = .int .i64 k ∧ a = .int .i64 lf ∧ b = .int .i64 rt ∧ 0 ≤ lf ∧ 0 ≤ rt ∧ lf + rt = k ∧ pre.length = k ∧ Hid (pre ++ layGo m (zs.drop k) lf rt = sidesL m zs) ∧ J pre wr ∧ KeepB n₀ Bn W wr)
    (fun _ _ i _ => len - (intOf i).toNat)
  case atStart => exact ⟨0, 0, 0, [], Nat.zero_le _, rfl, rfl, rfl, by omega, by omega, rfl, rfl, rfl, h0, Below.refl _ _, rfl⟩
  case round =>
    obtain ⟨k, lf, rt, pre, hk, rfl, rfl, rfl, hl0, hr0, hsum, hpl, HP, hJs, hnx⟩ := hrel
    have HS := Lib.hid hsum
    have HPL := Lib.hid hpl
    have hb1 : lf ≤ k := by omega
    have hb2 : rt ≤ k := by omega
    have hs1 : lf + rt ≤ 8 := by omega
    have hs2 : (k : Int) ≤ lf + rt := by omega
    clear hsum hpl
    by_cases hlt : k < len
    · obtain ⟨b, off, rfl, hbB, hcc⟩ := HC.out.2 (by omega)
      have hcx : wr.cell? ⟨b, off + k, none⟩ = some (.int .i64 (nth zs k)) := (hnx.1.cell (p := ⟨b, off + k, none⟩) hbB).trans (hcc k hlt)
      have hcn : wr.cell? ⟨Bn, 0, none⟩ = some (.int .i64 m) := (World.cell?_of_block (w := W) (a := ⟨Bn, 0, none⟩) hnx.2).trans hBn
      have hkz : k < zs.length := by rw [hzl.out]; exact hlt
      clear hcc
      by_cases e : lf + rt = m
      · have t1 : (lf + rt == m) = true := by simp [e]
        have HF := Lib.hid (layGo_full hkz e)
        clear e
        gi_wp2
        refine bodyPost_ret (results_none rfl _ _ _) rfl ?_
        exact ⟨⟨_, rfl⟩, .inl ⟨pre, by have h := HP.out; rw [HF.out, List.append_nil] at h; exact h, hJs⟩⟩
      · have t1 : (lf + rt == m) = false := by simp [e]
        by_cases e1 : nth zs k = lf
        · have t2 : (nth zs k == lf) = true := by simp [e1]
          have HF := Lib.hid (layGo_left (r := rt) hkz e e1)
          obtain ⟨fn, tmps, assign, body, hy, hR⟩ := hY pre (lf + 1, rt) wr hJs (by rw [HPL.out]; exact hlt)
          dsimp only at hy
          clear e e1
          gi_wp2
          refine hR.mono ?_
          rintro e W3 (⟨rfl, hJ3, hk3⟩ | ⟨rfl, hJx3⟩)
          · gi_wp2
            go_roundw
            case rel => exact ⟨k + 1, lf + 1, rt, pre ++ [(lf + 1, rt)], by omega, by simp, rfl, rfl, by omega, hr0, by have := HS.out; omega, by have := HPL.out; simp; omega, by have h := HP.out; rw [HF.out] at h; show _ = _; simpa using h, hJ3, hnx.t hk3⟩
            case measure => simp [intOf]; omega
          · gi_wp2
            refine bodyPost_ret (results_none rfl _ _ _) rfl ?_
            exact ⟨⟨_, rfl⟩, .inr ⟨_, trivial, hJx3⟩⟩
        · have t2 : (nth zs k == lf) = false := by simp [e1]
          by_cases e2 : nth zs k = m - 1 - rt
          · have t3 : (nth zs k == m - 1 - rt) = true := by simp [e2]
            have HF := Lib.hid (layGo_right (l := lf) hkz e e1 e2)
            obtain ⟨fn, tmps, assign, body, hy, hR⟩ := hY pre (lf, rt + 1) wr hJs (by rw [HPL.out]; exact hlt)
            dsimp only at hy
            clear e e1 e2
            gi_wp2
            refine hR.mono ?_
            rintro e W3 (⟨rfl, hJ3, hk3⟩ | ⟨rfl, hJx3⟩)
            · gi_wp2
              go_roundw
              case rel => exact ⟨k + 1, lf, rt + 1, pre ++ [(lf, rt + 1)], by omega, by simp, rfl, rfl, hl0, by omega, by have := HS.out; omega, by have := HPL.out; simp; omega, by have h := HP.out; rw [HF.out] at h; show _ = _; simpa using h, hJ3, hnx.t hk3⟩
              case measure => simp [intOf]; omega
            · gi_wp2
              refine bodyPost_ret (results_none rfl _ _ _) rfl ?_
              exact ⟨⟨_, rfl⟩, .inr ⟨_, trivial, hJx3⟩⟩
          · have t3 : (nth zs k == m - 1 - rt) = false := by simp [e2]
            have HF := Lib.hid (layGo_no hkz e e1 e2)
            clear e e1 e2
            gi_wp2
            refine bodyPost_ret (results_none rfl _ _ _) rfl ?_
            exact ⟨⟨_, rfl⟩, .inl ⟨pre, by have h := HP.out; rw [HF.out, List.append_nil] at h; exact h, hJs⟩⟩
    · obtain rfl : k = len := by omega
      have HF := Lib.hid (layGo_end (n := m) (l := lf) (r := rt) (zs := zs) (k := k) (by rw [hzl.out]; exact Nat.le_refl _))
      gi_wp2
      go_end0
      exact ⟨⟨_, rfl⟩, .inl ⟨pre, by have h := HP.out; rw [HF.out, List.append_nil] at h; exact h, hJs⟩⟩

theorem sides_stops (F : Fence) (n : Nat) (hf : F.fn 52) (hro : F.round = none) (hn : 1 ≤ n) (Bo Bn n₀ : Nat) (m : Int) (A : Option Addr) (len cap : Nat) (zs : List Int) (hm : 1 ≤ m ∧ m ≤ 8) (hlen : len ≤ 8) (w : World) (hBo' : Bo < w.heap.size) (hBn' : Bn < w.heap.size) (hn₀ : n₀ ≤ w.heap.size)
    (hBo : w.cell? ⟨Bo, 0, none⟩ = some (.slice A len cap)) (hBn : w.cell? ⟨Bn, 0, none⟩ = some (.int .i64 m)) (hc : IntsAt w n₀ A len zs) :
    SeqStopsK F n Try.prog 52 #[.pointer (some ⟨Bo, 0, none⟩), .pointer (some ⟨Bn, 0, none⟩)] (fun x : Int × Int => #[Value.int .i64 x.1, Value.int .i64 x.2]) (KeepB n₀ Bn) (fun ys => ys = sidesL m zs) (fun _ => True) len w := fun l J Jx W hW _ _ hY h0 =>
  sides1_in F n hf hro hn l Bo Bn n₀ m A len cap zs hm hlen J Jx hY W ((hW.cell (p := ⟨Bo, 0, none⟩) hBo').trans hBo) ((hW.cell (p := ⟨Bn, 0, none⟩) hBn').trans hBn) (hc.keep fun p hp => hW.cell (by omega)) h0

theorem sides_in (F : Fence) (n : Nat) (hf : F.fn 36) (hro : F.round = none) (m : Int) (A : Option Addr) (len cap : Nat) (w : World) :
    CallsIn F n Try.prog 36 #[.int .i64 m, .slice A len cap] w fun e w' => e = .returned (.func (.func 52) #[] #[.pointer (some ⟨w.heap.size + 1, 0, none⟩), .pointer (some ⟨w.heap.size, 0, none⟩)]) ∧ w' = (w.alloc (.cells #[.int .i64 m] 3)).alloc (.cells #[.slice A len cap] 22) := by
  refine callsIn_of_wp Try.func36 rfl hf ?_ hro
  simp only [Try.ntmps36, List.size_toArray, List.length_cons, List.length_nil, Nat.reduceAdd, Nat.reduceSub, Array.replicate_succ, Array.replicate_zero, List.push_toArray, List.append_toArray, List.nil_append, List.cons_append]
  gi_wp2
  go_ret
  exact ⟨rfl, rfl⟩

set_option maxRecDepth 100000 in
set_option maxHeartbeats 2000000 in
theorem laidOf_in (F : Fence) (n : Nat) (h1' : F.fn 35) (h2' : F.fn 36) (h3' : F.fn 52) (hro : F.round = none) (hn : 3 ≤ n) (m : Int) (A : Option Addr) (len cap : Nat) (zs : List Int) (hm : 1 ≤ m ∧ m ≤ 8) (hlen : len ≤ 8) (w : World) (hc : IntsAt w w.heap.size A len zs) :
    CallsIn F n Try.prog 35 #[.int .i64 m, .slice A len cap] w fun e W' => e = .returned (.int .i64 ((sidesL m zs).length : Nat)) ∧ Below w.heap.size w W' := by
  have h1 : 1 ≤ n := by omega
  refine callsIn_of_wp_marks Try.func35 rfl h1' ?_ hro
  simp only [Try.ntmps35, List.size_toArray, List.length_cons, List.length_nil, Nat.reduceAdd, Nat.reduceSub, Array.replicate_succ, Array.replicate_zero, List.push_toArray, List.append_toArray, List.nil_append, List.cons_append]
  gi_wp2_with (gi_at_call 36; refine (sides_in F (n - 1) h2' hro _ _ _ _ _).mono ?_; rintro e w' ⟨rfl, rfl⟩)
  have bS := Boxed.new w 3 (.int .i64 0)
  have bN := Boxed.new (w.alloc (.cells #[.int .i64 0] 3)) 3 (.int .i64 m)
  have bO := Boxed.new ((w.alloc (.cells #[.int .i64 0] 3)).alloc (.cells #[.int .i64 m] 3)) 22 (.slice A len cap)
  have hB0 : Below w.heap.size w (((w.alloc (.cells #[.int .i64 0] 3)).alloc (.cells #[.int .i64 m] 3)).alloc (.cells #[.slice A len cap] 22)) := (((Below.refl _ w).alloc (Nat.le_refl _) _).alloc (by simp) _).alloc (by simp; omega) _
  have bN' := (bN.alloc (.cells #[.slice A len cap] 22))
  simp only [World.size_alloc] at bN' bO
  refine wpIn_rangeFunc_ownG hro h1 (gf := 52) (lb := #[.pointer (some ⟨w.heap.size + 1 + 1, 0, none⟩), .pointer (some ⟨w.heap.size + 1, 0, none⟩)]) rfl h3' (enters_of Try.func52 (by kernel_rfl) rfl)
    (sides_stops F (n - 1) h3' hro (by omega) (w.heap.size + 1 + 1) (w.heap.size + 1) w.heap.size m A len cap zs hm hlen _ (by simp <;> omega) (by simp <;> omega) (by simp <;> omega) bO.cell bN'.cell (hc.below hB0)) KeepB.t (KeepB.b (by simp <;> omega) (by simp <;> omega)) (Below.refl _ _) (fun _ => rfl)
    (fun pre W => (W.cell? ⟨w.heap.size, 0, none⟩ = some (.int .i64 (pre.length : Nat)) ∧ W.frozen? ⟨w.heap.size, 0, none⟩ = false) ∧ Below w.heap.size w W)
    (fun _ _ _ => False)
    (OwnFrom.and (Own.from (fun s A B row hs hg hr => ⟨cell_kept hs.1 hg hr, (frozen_kept hs.1 hg hr).trans hs.2⟩) _) (ownFrom_below (Nat.le_refl _) (by simp; omega)))
    (fun _ _ _ _ _ hs _ _ => hs)
    ⟨⟨((bS.alloc _).alloc _).cell, ((bS.alloc _).alloc _).frozen⟩, hB0⟩
    (fun x => { tmps := #[.int .i64 m, .slice A len cap, undef, undef, .int .i64 0, .pointer (some ⟨w.heap.size, 0, none⟩), .int .i64 m, .slice A len cap, .func (.func 52) #[] #[.pointer (some ⟨w.heap.size + 1 + 1, 0, none⟩), .pointer (some ⟨w.heap.size + 1, 0, none⟩)], .int .i64 x.1, .int .i64 x.2, undef, undef, undef], defers := [] }) ?assign ?body ?done ?stop
  case assign =>
    intro l x W K hK
    gi_wp2
    simpa using hK
  case body =>
    rintro l pre x W ⟨⟨hcc, hff⟩, hB⟩ hpl
    have hp8 : pre.length < 8 := by omega
    gi_wp2
    refine ⟨(KeepsOthers.setCell _ _ _).from _, ⟨(Below.refl w.heap.size W).setCell (p := ⟨w.heap.size, 0, none⟩) (Nat.le_refl _) _, Below.heap_setCell _ _ _ _ (by simp)⟩, ⟨?_, by rw [World.frozen?_setCell]; exact hff⟩, hB.setCell (p := ⟨w.heap.size, 0, none⟩) (Nat.le_refl _) _⟩
    rw [List.length_append]
    exact World.cell?_setCell_same' _ _ _ (by rw [hcc]; rfl)
  case done =>
    rintro D ys W hD rfl ⟨⟨hcc, _⟩, hB⟩ hK
    gi_wp2
    refine ⟨by simp, .inl ⟨_, _, rfl, run_takeDeferred hK, ?_⟩⟩
    exact ⟨_, results_tmp rfl _ _ _, rfl, hB.trans (belowK_b (w := w) (Nat.le_refl _) W D _ _ (by simp at hD; omega) hK rfl rfl)⟩
  case stop =>
    rintro D c pre W _ _ h _
    exact h.elim
theorem laidOf_any (m : Int) (A : Option Addr) (len cap : Nat) (zs : List Int) (hm : 1 ≤ m ∧ m ≤ 8) (hlen : len ≤ 8) (w : World) (hc : IntsAt w w.heap.size A len zs) :
    Calls Try.prog 35 #[.int .i64 m, .slice A len cap] w fun e W' => e = .returned (.int .i64 ((sidesL m zs).length : Nat)) ∧ Below w.heap.size w W' :=
  (callsIn_wide (n := 3)).1 (laidOf_in Fence.wide 3 trivial trivial trivial rfl (by omega) m A len cap zs hm hlen w hc)
end Go.Proofs.Ytgaafmcmcalaoaa
