/-
  The law FairMarks: the call returns true.
-/
import Derived.Test.YtgaafmcmcalaoaaWFairK
import Derived.Test.YtgaafmcmcalaoaaLawKit
import Derived.Test.YtgaafmcmcalaoaaWMarkI
import Derived.Test.YtgaafmcmcalaoaaWMark
namespace Go.Proofs.Ytgaafmcmcalaoaa
open Go.RowKit
set_option linter.unusedVariables false

set_option maxRecDepth 100000 in
set_option maxHeartbeats 3200000 in
theorem fnExactFairMarks.walk (A0 : Option Addr) (n0 c0 : Nat) (z0 : List Int) (q1 : Int) (hq1 : -9223372036854775808 ≤ q1) (hq1' : q1 ≤ 9223372036854775807) (w : World) (a0_ : IntsAt w w.heap.size A0 n0 z0) :
    Calls Try.prog 5 #[.slice A0 n0 c0, .int .i64 q1] w fun e w' => e = .returned (.bool true) ∧ Below w.heap.size w w' := by
  have b_0 : Below w.heap.size w w := Below.refl _ _
  have a0_0 := a0_
  by_cases hn0 : n0 ≤ 1048576
  · have ht0 : ¬ (1048576 : Int) < (n0 : Int) := by omega
    go_enter Try.func5, Try.ntmps5
    go_wp2_with fail
    refine (toIntS_row A0 n0 c0 z0 _ a0_0 hn0).mono ?_
    rintro e w1 ⟨g1, rfl, hg1, r_1, hb_1⟩
    have b_1 := below_then b_0 hb_1
    clear b_0
    have a0_1 := a0_0.after hb_1
    clear a0_0
    have hz_1 := hb_1.size
    clear hb_1
    have s0_1 := intsAt_row r_1 a0_.1 (fun k _ => rfl)
    clear r_1
    go_wp2_with fail
    refine (sFair_any _ _ _ z0 q1 _ s0_1 hn0).mono ?_
    rintro e w2 ⟨A_2, l_2, c_2, rfl, os_2, hb_2⟩
    have b_2 := below_then b_1 hb_2
    clear b_1
    have a0_2 := a0_1.after hb_2
    clear a0_1
    have s0_2 := s0_1.after hb_2
    clear s0_1
    have hz_2 := hb_2.size
    clear hb_2
    generalize hLL : (if fairOk z0 q1 = true then fairL z0 q1.toNat else []) = LL at *
    have HLL := Lib.hid hLL
    clear hLL
    have hk : LL.length ≤ 1048576 := by have h := fair_len z0 q1; rw [HLL.out] at h; omega
    obtain rfl := os_2.len
    have iw_2 := os_2.intsAt
    have d_2 : Below w2.heap.size w2 w2 := Below.refl _ _
    clear s0_2
    have bD := b_2
    clear b_2
    have aD0 := a0_2
    have iD := iw_2
    go_wp2_with fail
    refine (toIntS_row A0 n0 c0 z0 _ a0_2 hn0).mono ?_
    rintro e w3 ⟨g3, rfl, hg3, r_3, hb_3⟩
    have a0_3 := a0_2.after hb_3
    clear a0_2
    have iw_3 := iw_2.after hb_3
    clear iw_2
    have d_3 := below_then d_2 hb_3
    clear d_2
    have hz_3 := hb_3.size
    clear hb_3
    have s0_3 := intsAt_row r_3 a0_.1 (fun k _ => rfl)
    have hgl0 : g3 < w3.heap.size := r_3.lt
    have m0_3 := RowI.of_row (lo := w2.heap.size) (hi := w3.heap.size) r_3 (intRow_ints _) hg3 (Nat.le_refl _)
    clear r_3
    go_wp2_with fail
    refine (iFair_any _ _ _ z0 q1 _ s0_3 hn0).mono ?_
    rintro e w4 ⟨A_4, l_4, c_4, rfl, o_4, hb_4⟩
    have a0_4 := a0_3.after hb_4
    clear a0_3
    have iw_4 := iw_3.after hb_4
    clear iw_3
    have d_4 := below_then d_3 hb_4
    clear d_3
    have s0_4 := s0_3.after hb_4
    clear s0_3
    have m0_4 := m0_3.after hb_4
    clear m0_3
    have hz_4 := hb_4.size
    clear hb_4
    rw [HLL.out] at o_4
    obtain rfl := o_4.len
    go_wp2_with fail
    refine (eqIntS_any _ _ _ _ _ _ LL LL _ o_4.intsAt iw_4 hk hk).mono ?_
    rintro e w5 ⟨e5, hb_5⟩
    rw [eqL_refl] at e5
    subst e5
    have a0_5 := a0_4.after hb_5
    clear a0_4
    have iw_5 := iw_4.after hb_5
    clear iw_4
    have d_5 := below_then d_4 hb_5
    clear d_4
    have s0_5 := s0_4.after hb_5
    clear s0_4
    have m0_5 := m0_4.after hb_5
    clear m0_4
    have o_5 := o_4.below hb_5
    clear o_4
    have hz_5 := hb_5.size
    clear hb_5
    go_wp2_with fail
    refine (toIntS_row A0 n0 c0 z0 _ a0_5 hn0).mono ?_
    rintro e w6 ⟨g6, rfl, hg6, r_6, hb_6⟩
    have a0_6 := a0_5.after hb_6
    clear a0_5
    have iw_6 := iw_5.after hb_6
    clear iw_5
    have d_6 := below_then d_5 hb_6
    clear d_5
    have s0_6 := s0_5.after hb_6
    clear s0_5
    have m0_6 := m0_5.after hb_6
    clear m0_5
    have o_6 := o_5.below hb_6
    clear o_5
    have hz_6 := hb_6.size
    clear hb_6
    have t0_6 := intsAt_row r_6 a0_.1 (fun k _ => rfl)
    clear r_6
    go_wp2_with fail
    refine (eqIntS_any _ _ _ _ _ _ z0 z0 _ s0_6 t0_6 hn0 hn0).mono ?_
    rintro e w7 ⟨e7, hb_7⟩
    rw [eqL_refl] at e7
    subst e7
    have a0_7 := a0_6.after hb_7
    clear a0_6
    have iw_7 := iw_6.after hb_7
    clear iw_6
    have d_7 := below_then d_6 hb_7
    clear d_6
    have s0_7 := s0_6.after hb_7
    clear s0_6
    have m0_7 := m0_6.after hb_7
    clear m0_6
    have o_7 := o_6.below hb_7
    clear o_6
    have t0_7 := t0_6.after hb_7
    clear t0_6
    have hz_7 := hb_7.size
    clear hb_7
    clear t0_7
    clear s0_7
    clear a0_7
    clear iw_7
    go_wp2_with fail
    refine (markIntS_row w2.heap.size w3.heap.size g3 n0 _ _ _ m0_7 hn0 (by omega) (by omega)).mono ?_
    rintro e w8 ⟨rfl, wt_8⟩
    clear m0_7
    have d_8 := d_7.trans (wt_8.below.mono (by omega))
    clear d_7
    have o_8 := wt_8.own o_7 (by omega)
    clear o_7
    have hy_8 := wt_8.size
    clear wt_8
    have hkk : ¬ (1 + (n0 : Int)) < 0 := by omega
    have a0_8 := (aD0.below d_8).mono d_8.size
    have iw_8 := (iD.below d_8).mono d_8.size
    go_wp2_with fail
    refine (eqIntS_any _ _ _ _ _ _ LL LL _ o_8.intsAt iw_8 hk hk).mono ?_
    rintro e w9 ⟨e9, hb_9⟩
    rw [eqL_refl] at e9
    subst e9
    have d_9 := below_then d_8 hb_9
    clear d_8
    have o_9 := o_8.below hb_9
    clear o_8
    have iw_9 := iw_8.after hb_9
    clear iw_8
    have a0_9 := a0_8.after hb_9
    clear a0_8
    have hz_9 := hb_9.size
    clear hb_9
    go_wp2_with fail
    refine (markIntS_any _ _ _ LL 1 w3.heap.size _ o_9 hk (by omega) (by omega)).mono ?_
    rintro e w10 ⟨rfl, o_10, hb_10, hs_10⟩
    clear hs_10
    have d_10 := d_9.trans (hb_10.mono (by omega))
    clear d_9 o_9
    clear a0_9
    clear iw_9
    have a0_10 := (aD0.below d_10).mono d_10.size
    have iw_10 := (iD.below d_10).mono d_10.size
    clear hb_10
    go_wp2_with fail
    refine (heldIntS_any _ _ _ 1 _ o_10.intsAt hk (by omega) (by omega)).mono ?_
    rintro e w11 ⟨rfl, rfl⟩
    have hnn : ¬ (1 + (LL.length : Int)) < 0 := by omega
    have hw_11 : Below w10.heap.size w10 w10 := Below.refl _ _
    go_wp2_with fail
    refine (toIntS_row A0 n0 c0 z0 _ a0_10 hn0).mono ?_
    rintro e w11 ⟨g11, rfl, hg11, r_11, hb_11⟩
    have d_11 := below_then d_10 hb_11
    clear d_10
    have o_11 := o_10.below hb_11
    clear o_10
    have iw_11 := iw_10.after hb_11
    clear iw_10
    have a0_11 := a0_10.after hb_11
    clear a0_10
    have hz_11 := hb_11.size
    clear hb_11
    have s0_11 := intsAt_row r_11 a0_.1 (fun k _ => rfl)
    clear r_11
    go_wp2_with fail
    refine (iFair_any _ _ _ z0 q1 _ s0_11 hn0).mono ?_
    rintro e w12 ⟨A_12, l_12, c_12, rfl, oo_12, hb_12⟩
    have d_12 := below_then d_11 hb_12
    clear d_11
    have o_12 := o_11.below hb_12
    clear o_11
    have iw_12 := iw_11.after hb_12
    clear iw_11
    have a0_12 := a0_11.after hb_12
    clear a0_11
    have s0_12 := s0_11.after hb_12
    clear s0_11
    have hz_12 := hb_12.size
    clear hb_12
    rw [HLL.out] at oo_12
    obtain rfl := oo_12.len
    go_wp2_with fail
    refine (eqIntS_any _ _ _ _ _ _ LL LL _ oo_12.intsAt iw_12 hk hk).mono ?_
    rintro e w13 ⟨e13, hb_13⟩
    rw [eqL_refl] at e13
    subst e13
    have d_13 := below_then d_12 hb_13
    clear d_12
    have o_13 := o_12.below hb_13
    clear o_12
    have iw_13 := iw_12.after hb_13
    clear iw_12
    have a0_13 := a0_12.after hb_13
    clear a0_12
    have s0_13 := s0_12.after hb_13
    clear s0_12
    have hz_13 := hb_13.size
    clear hb_13
    go_wp2_with fail
    refine (heldIntS_any _ _ _ 1 _ o_13.intsAt hk (by omega) (by omega)).mono ?_
    rintro e w14 ⟨rfl, rfl⟩
    go_wp2
    go_ret
    exact ⟨rfl, below_then bD d_13⟩
  · have ht0 : (1048576 : Int) < (n0 : Int) := by omega
    go_enter Try.func5, Try.ntmps5
    go_wp2
    go_ret
    exact ⟨rfl, b_0⟩
end Go.Proofs.Ytgaafmcmcalaoaa
