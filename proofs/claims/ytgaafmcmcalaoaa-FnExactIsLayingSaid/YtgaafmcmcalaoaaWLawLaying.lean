/-
  The law IsLaying: the call returns true.
-/
import Derived.Test.YtgaafmcmcalaoaaWLaying
import Derived.Test.YtgaafmcmcalaoaaLawKit
namespace Go.Proofs.Ytgaafmcmcalaoaa
open Go.RowKit
set_option linter.unusedVariables false

set_option maxRecDepth 100000 in
set_option maxHeartbeats 1600000 in
theorem fnExactIsLaying.walk (q0 : Int) (hq0 : -9223372036854775808 ≤ q0) (hq0' : q0 ≤ 9223372036854775807) (A1 : Option Addr) (n1 c1 : Nat) (z1 : List Int) (w : World) (a1_ : IntsAt w w.heap.size A1 n1 z1) :
    Calls Try.prog 3 #[.int .i64 q0, .slice A1 n1 c1] w fun e w' => e = .returned (.bool true) ∧ Below w.heap.size w w' := by
  have b_0 : Below w.heap.size w w := Below.refl _ _
  have a1_0 := a1_
  by_cases hn1 : n1 ≤ 1048576
  · have ht1 : ¬ (1048576 : Int) < (n1 : Int) := by omega
    go_enter Try.func3, Try.ntmps3
    go_wp2_with fail
    refine (toIntS_ex A1 n1 c1 z1 _ a1_0 hn1).mono ?_
    rintro e w1 ⟨g1, rfl, _, s1_1, hb_1⟩
    have b_1 := below_then b_0 hb_1
    clear b_0
    have a1_1 := a1_0.after hb_1
    clear a1_0
    clear hb_1
    go_wp2_with fail
    refine (calls_below (sIsLaying_any _ _ _ _ z1 _ s1_1)).mono ?_
    rintro e w2 ⟨rfl, hb_2⟩
    have b_2 := below_then b_1 hb_2
    clear b_1
    have a1_2 := a1_1.after hb_2
    clear a1_1
    have s1_2 := s1_1.after hb_2
    clear s1_1
    clear hb_2
    clear s1_2
    go_wp2_with fail
    refine (toIntS_ex A1 n1 c1 z1 _ a1_2 hn1).mono ?_
    rintro e w3 ⟨g3, rfl, _, s1_3, hb_3⟩
    have b_3 := below_then b_2 hb_3
    clear b_2
    have a1_3 := a1_2.after hb_3
    clear a1_2
    clear hb_3
    go_wp2_with fail
    refine (iIsLaying_any _ _ _ _ z1 _ s1_3).mono ?_
    rintro e w4 ⟨rfl, hb_4⟩
    have b_4 := below_then b_3 hb_4
    clear b_3
    have a1_4 := a1_3.after hb_4
    clear a1_3
    have s1_4 := s1_3.after hb_4
    clear s1_3
    clear hb_4
    go_wp2_with fail
    refine (toIntS_ex A1 n1 c1 z1 _ a1_4 hn1).mono ?_
    rintro e w5 ⟨g5, rfl, _, t1_5, hb_5⟩
    have b_5 := below_then b_4 hb_5
    clear b_4
    have a1_5 := a1_4.after hb_5
    clear a1_4
    have s1_5 := s1_4.after hb_5
    clear s1_4
    clear hb_5
    go_wp2_with fail
    refine (eqIntS_any _ _ _ _ _ _ z1 z1 _ s1_5 t1_5 hn1 hn1).mono ?_
    rintro e w6 ⟨e6, hb_6⟩
    rw [eqL_refl] at e6
    subst e6
    have b_6 := below_then b_5 hb_6
    clear b_5
    have a1_6 := a1_5.after hb_6
    clear a1_5
    have s1_6 := s1_5.after hb_6
    clear s1_5
    have t1_6 := t1_5.after hb_6
    clear t1_5
    clear hb_6
    go_wp2
    go_ret
    exact ⟨rfl, b_6⟩
  · have ht1 : (1048576 : Int) < (n1 : Int) := by omega
    go_enter Try.func3, Try.ntmps3
    go_wp2
    go_ret
    exact ⟨rfl, b_0⟩
end Go.Proofs.Ytgaafmcmcalaoaa
