/-
  Contracts: the laws' small helpers on the code.
-/
import Derived.Test.YtplabaneihjcoaaBytes
import Derived.Test.YtplabaneihjcoaaProg
import Derived.WalkKit
import Derived.IntWalk
namespace Go.Proofs.Ytplabaneihjcoaa
open Go.RowKit
set_option linter.unusedSimpArgs false

theorem big_any (A : Option Addr) (n c : Nat) (w : World) : Calls Try.prog 6 #[.slice A n c] w fun e w' => e = .returned (.bool (decide ((1048576 : Int) < (n : Int)))) ∧ w = w' := by
  go_enter Try.func6, Try.ntmps6
  go_wp2
  go_ret
  exact ⟨rfl, rfl⟩
/-- What 'at' reads. -/
def atV (zs : List Int) (n : Nat) (i : Int) : Int := if n = 0 then 0 else nth zs ((i * 5 + 1) % (n : Int)).toNat
theorem atV_bd {zs : List Int} (h : ∀ k, 0 ≤ nth zs k ∧ nth zs k ≤ 255) (n : Nat) (i : Int) : 0 ≤ atV zs n i ∧ atV zs n i ≤ 255 := by
  unfold atV
  split
  · omega
  · exact h _
set_option maxHeartbeats 800000 in
theorem at_any (A : Option Addr) (n c : Nat) (zs : List Int) (i : Int) (w : World) (h : BytesAt w w.heap.size A n zs) (hn : n ≤ 1048576) (hi : 0 ≤ i ∧ i ≤ 1000) :
    Calls Try.prog 8 #[.slice A n c, .int .i64 i] w fun e w' => e = .returned (.int .i64 (atV zs n i)) ∧ w = w' := by
  by_cases h0 : n = 0
  · have ht : ((n : Int) == 0) = true := by simp [h0]
    have HV := Lib.hid (show atV zs n i = 0 by simp [atV, h0])
    go_enter Try.func8, Try.ntmps8
    go_wp2
    go_ret
    exact ⟨ret_int HV.out.symm, rfl⟩
  · have ht : ((n : Int) == 0) = false := by simp; omega
    have hn0 : ¬ (n : Int) = 0 := by omega
    have HV := Lib.hid (show atV zs n i = nth zs ((i * 5 + 1) % (n : Int)).toNat by simp [atV, h0])
    obtain ⟨b, off, rfl, hb, hc⟩ := h.2 (by omega)
    have q0 : 0 ≤ (i * 5 + 1) % (n : Int) := Int.emod_nonneg _ hn0
    have q1 : (i * 5 + 1) % (n : Int) < (n : Int) := Int.emod_lt_of_pos _ (by omega)
    obtain ⟨j, hj⟩ := Int.eq_ofNat_of_zero_le q0
    have hx := hc j (by omega)
    rw [hj, Int.toNat_natCast] at HV
    have e5 : IntKind.i64.wrap (i * 5 + 1) = i * 5 + 1 := IntWalk.i64_in _ (by omega)
    have hq : Int.tmod (i * 5 + 1) (n : Int) = (i * 5 + 1) % (n : Int) := Int.tmod_eq_emod_of_nonneg (by omega)
    have HZ := Lib.hid (show wrap64 (nth zs j) = atV zs n i by rw [HV.out]; have := h.1.2 j; exact IntWalk.wrap64_in _ (by omega))
    clear hc h h0
    go_enter Try.func8, Try.ntmps8
    go_wp2
    go_ret
    exact ⟨ret_int HZ.out, rfl⟩
end Go.Proofs.Ytplabaneihjcoaa
