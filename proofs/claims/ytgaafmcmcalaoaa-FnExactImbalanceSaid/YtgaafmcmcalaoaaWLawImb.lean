/-
  The law Imbalance: the call returns true.
-/
import Derived.Test.YtgaafmcmcalaoaaWImb
import Derived.Test.YtgaafmcmcalaoaaLawKit
namespace Go.Proofs.Ytgaafmcmcalaoaa
open Go.RowKit
set_option linter.unusedVariables false

set_option maxRecDepth 100000 in
set_option maxHeartbeats 1600000 in
theorem fnExactImbalance.walk (A0 : Option Addr) (n0 c0 : Nat) (z0 : List Int) (q1 : Int) (hq1 : -9223372036854775808 ≤ q1) (hq1' : q1 ≤ 9223372036854775807) (w : World) (a0_ : IntsAt w w.heap.size A0 n0 z0) :
    Calls Try.prog 4 #[.slice A0 n0 c0, .int .i64 q1] w fun e w' => e = .returned (.bool true) ∧ Below w.heap.size w w' := by
  have b_0 : Below w.heap.size w w := Below.refl _ _
  have a0_0 := a0_
  by_cases hn0 : n0 ≤ 1048576
  · have ht0 : ¬ (1048576 : Int) < (n0 : Int) := by omega
    go_enter Try.func4, Try.ntmps4
    go_wp2_with fail
    refine (toIntS_ex A0 n0 c0 z0 _ a0_0 hn0).mono ?_
    rintro e w1 ⟨g1, rfl, _, s0_1, hb_1⟩
    have b_1 := below_then b_0 hb_1
    clear b_0
    have a0_1 := a0_0.after hb_1
    clear a0_0
    clear hb_1
    go_wp2_with fail
    refine (calls_below (sImbalance_any _ _ _ _ z0 _ s0_1)).mono ?_
    rintro e w2 ⟨rfl, hb_2⟩
    have b_2 := below_then b_1 hb_2
    clear b_1
    have a0_2 := a0_1.after hb_2
    clear a0_1
    have s0_2 := s0_1.after hb_2
    clear s0_1
    clear hb_2
    clear s0_2
    go_wp2_with fail
    refine (toIntS_ex A0 n0 c0 z0 _ a0_2 hn0).mono ?_
    rintro e w3 ⟨g3, rfl, _, s0_3, hb_3⟩
    have b_3 := below_then b_2 hb_3
    clear b_2
    have a0_3 := a0_2.after hb_3
    clear a0_2
    clear hb_3
    go_wp2_with fail
    refine (iImbalance_any _ _ _ _ z0 _ s0_3 (Nat.le_refl _)).mono ?_
    rintro e w4 ⟨rfl, hb_4⟩
    have b_4 := below_then b_3 hb_4
    clear b_3
    have a0_4 := a0_3.after hb_4
    clear a0_3
    have s0_4 := s0_3.after hb_4
    clear s0_3
    clear hb_4
    go_wp2_with fail
    refine (toIntS_ex A0 n0 c0 z0 _ a0_4 hn0).mono ?_
    rintro e w5 ⟨g5, rfl, _, t0_5, hb_5⟩
    have b_5 := below_then b_4 hb_5
    clear b_4
    have a0_5 := a0_4.after hb_5
    clear a0_4
    have s0_5 := s0_4.after hb_5
    clear s0_4
    clear hb_5
    go_wp2_with fail
    refine (eqIntS_any _ _ _ _ _ _ z0 z0 _ s0_5 t0_5 hn0 hn0).mono ?_
    rintro e w6 ⟨e6, hb_6⟩
    rw [eqL_refl] at e6
    subst e6
    have b_6 := below_then b_5 hb_6
    clear b_5
    have a0_6 := a0_5.after hb_6
    clear a0_5
    have s0_6 := s0_5.after hb_6
    clear s0_5
    have t0_6 := t0_5.after hb_6
    clear t0_5
    clear hb_6
    go_wp2
    go_ret
    exact ⟨rfl, b_6⟩
  · have ht0 : (1048576 : Int) < (n0 : Int) := by omega
    go_enter Try.func4, Try.ntmps4
    go_wp2
    go_ret
    exact ⟨rfl, b_0⟩
end Go.Proofs.Ytgaafmcmcalaoaa
