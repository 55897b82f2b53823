/-
  Contracts: the copy of a slice of ints as a row of its own; marks written over such a row.
-/
import Derived.Test.YtplabaneihjcoaaWInts
import Derived.Test.YtplabaneihjcoaaWithin
namespace Go.Proofs.Ytplabaneihjcoaa
open Go.RowKit

theorem RowI.set {w : World} {lo hi g : Nat} {E : TypeId} {m : Nat} (h : RowI w lo hi g E m) (j : Nat) (z : Int) : RowI (w.setCell ⟨g, j, none⟩ (.int .i64 z)) lo hi g E m := by
  obtain ⟨f, h1, h2, h3⟩ := h
  refine ⟨_, h1.set j _, fun i => ?_, h3⟩
  by_cases e : i = j
  · exact ⟨z, by simp [e]⟩
  · obtain ⟨y, hy⟩ := h2 i
    exact ⟨y, by simp [e, hy]⟩
theorem RowI.get {w : World} {lo hi g : Nat} {E : TypeId} {m : Nat} (h : RowI w lo hi g E m) {j : Nat} (hj : j < m) : ∃ z, w.cell? ⟨g, j, none⟩ = some (.int .i64 z) := by
  obtain ⟨f, h1, h2, h3⟩ := h
  obtain ⟨z, hz⟩ := h2 j
  exact ⟨z, by rw [h1.cell hj, hz]⟩
theorem RowI.frozen {w : World} {lo hi g : Nat} {E : TypeId} {m : Nat} (h : RowI w lo hi g E m) (j : Nat) : w.frozen? ⟨g, j, none⟩ = false := by
  obtain ⟨f, h1, _⟩ := h
  exact h1.frozen j
theorem RowI.in {w : World} {lo hi g : Nat} {E : TypeId} {m : Nat} (h : RowI w lo hi g E m) : lo ≤ g ∧ g < hi := by
  obtain ⟨f, _, _, h3⟩ := h
  exact h3
theorem Within.setCell {lo hi g j : Nat} {w w' : World} {v : Value} (h : Within lo hi w w') (hg : lo ≤ g ∧ g < hi) : Within lo hi w (w'.setCell ⟨g, j, none⟩ v) :=
  h.trans ⟨rfl, rfl, rfl, by simp [World.setCell], fun k hk => Below.heap_setCell w' ⟨g, j, none⟩ v k (by simp; omega)⟩

set_option maxHeartbeats 400000 in
theorem markIntS_row (lo hi g n c : Nat) (k0 : Int) (w : World) (h : RowI w lo hi g 3 n) (hn : n ≤ 1048576) (h0 : 0 ≤ k0) (h1 : k0 ≤ 1000000000) :
    Calls Try.prog 55 #[.slice (some ⟨g, 0, none⟩) n c, .int .i64 k0] w fun e w' => e = .returned (.int .i64 (k0 + n)) ∧ Within lo hi w w' := by
  have H := Lib.hid h
  clear h
  go_enter Try.func55, Try.ntmps55
  go_wp2
  go_loopw [1, 5] (fun m i wr => ∃ k : Nat, k ≤ n ∧ i = .int .i64 k ∧ m = .int .i64 (k0 + (k : Int)) ∧ RowI wr lo hi g 3 n ∧ Within lo hi w wr) (fun _ i _ => n - (intOf i).toNat)
  case atStart => exact ⟨0, Nat.zero_le _, rfl, by simp, H.out, Within.refl _ _ _⟩
  case round =>
    obtain ⟨k, hk, rfl, rfl, hrow, hw⟩ := hrel
    have HR := Lib.hid hrow
    have HW := Lib.hid hw
    by_cases hlt : k < n
    · obtain ⟨z, hc⟩ := hrow.get hlt
      have hf := hrow.frozen k
      have HN := Lib.hid (hrow.set k (k0 + (k : Int)))
      have HN2 := Lib.hid (hw.setCell (j := k) (v := .int .i64 (k0 + (k : Int))) hrow.in)
      clear hrow hw
      go_wp2
      go_roundw
      case rel => exact ⟨k + 1, by omega, by go_num, by go_num, HN.out, HN2.out⟩
      case measure => simp [intOf]; omega
    · obtain rfl : k = n := by omega
      clear hrow hw
      go_wp2
      go_ret
      exact ⟨rfl, HW.out⟩
end Go.Proofs.Ytplabaneihjcoaa
