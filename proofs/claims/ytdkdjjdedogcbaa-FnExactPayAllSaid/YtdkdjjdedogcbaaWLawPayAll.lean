/-
  The law PayAll: the call returns true.
-/
import Derived.Test.YtdkdjjdedogcbaaWPayAll
import Derived.Test.YtdkdjjdedogcbaaNStone
import Derived.Test.YtdkdjjdedogcbaaLawKit
import Derived.Test.YtdkdjjdedogcbaaWMarkI
import Derived.Test.YtdkdjjdedogcbaaWMark
namespace Go.Proofs.Ytdkdjjdedogcbaa
open Go.RowKit
set_option linter.unusedVariables false

set_option maxRecDepth 100000 in
set_option maxHeartbeats 3200000 in
theorem fnExactPayAll.walk (A0 : Option Addr) (n0 c0 : Nat) (L0 : List (Nat × List Int)) (hm0 : n0 ≤ maxLen) (A1 : Option Addr) (n1 c1 : Nat) (z1 : List Int) (q2 : Int) (hq2 : -9223372036854775808 ≤ q2) (hq2' : q2 ≤ 9223372036854775807) (w : World) (a0_ : NestAt w w.heap.size 2 A0 n0 L0) (a1_ : IntsAt w w.heap.size A1 n1 z1) :
    Calls Try.prog 10 #[.slice A0 n0 c0, .slice A1 n1 c1, .int .i64 q2] w fun e w' => e = .returned (.bool true) ∧ Below w.heap.size w w' := by
  have hm0' : n0 ≤ 9223372036854775807 := by unfold maxLen at hm0; omega
  have b_0 : Below w.heap.size w w := Below.refl _ _
  have a0_0 := a0_
  have a1_0 := a1_
  by_cases hn1 : n1 ≤ 1048576
  · have ht1 : ¬ (1048576 : Int) < (n1 : Int) := by omega
    go_enter Try.func10, Try.ntmps10
    go_wp2_with fail
    refine (szStoneS_any A0 n0 c0 L0 _ _ a0_0 (by omega) (by omega) hm0').mono ?_
    rintro e w1 ⟨r1, rfl, hb_1, hr1⟩
    have b_1 := below_then b_0 hb_1
    clear b_0
    have a0_1 := a0_0.after hb_1
    clear a0_0
    have a1_1 := a1_0.after hb_1
    clear a1_0
    have hz_1 := hb_1.size
    clear hb_1
    rcases hr1 with rfl | hr1
    · go_wp2
      go_ret
      exact ⟨rfl, b_1⟩
    obtain ⟨hr1a, hr1b, hr1c, hr1d, hr1e⟩ := hr1
    have hS0 : sumN L0 n0 ≤ 1048576 := by omega
    have hN0 : ∀ i, i < n0 → rowN L0 i ≤ 1048576 := fun i hi => by have := hr1d i hi; omega
    have HN0 := Lib.hid hN0
    clear hN0 hr1d
    have hn0 : n0 ≤ 1048576 := by omega
    have ht0 : ¬ r1 < 0 := by omega
    go_wp2_with fail
    refine (toStoneS_any A0 n0 c0 L0 _ a0_1 hn0 HN0.out).mono ?_
    rintro e w2 ⟨g2, rfl, hg2, r_2, hb_2⟩
    have b_2 := below_then b_1 hb_2
    clear b_1
    have a0_2 := a0_1.after hb_2
    clear a0_1
    have a1_2 := a1_1.after hb_2
    clear a1_1
    have hz_2 := hb_2.size
    clear hb_2
    have s0_2 := r_2.nestAt a0_.1 a0_.lens HN0.out
    clear r_2
    go_wp2_with fail
    refine (toIntS_row A1 n1 c1 z1 _ a1_2 hn1).mono ?_
    rintro e w3 ⟨g3, rfl, hg3, r_3, hb_3⟩
    have b_3 := below_then b_2 hb_3
    clear b_2
    have a0_3 := a0_2.after hb_3
    clear a0_2
    have a1_3 := a1_2.after hb_3
    clear a1_2
    have s0_3 := s0_2.after hb_3
    clear s0_2
    have hz_3 := hb_3.size
    clear hb_3
    have s1_3 := intsAt_row r_3 a1_.1 (fun k _ => rfl)
    clear r_3
    go_wp2_with fail
    refine (sPayAll_any _ _ _ L0 _ _ _ z1 _ _ s0_3 s1_3 hn1 hn0 HN0.out).mono ?_
    rintro e w4 ⟨A_4, l_4, c_4, rfl, os_4, hb_4⟩
    have b_4 := below_then b_3 hb_4
    clear b_3
    have a0_4 := a0_3.after hb_4
    clear a0_3
    have a1_4 := a1_3.after hb_4
    clear a1_3
    have s0_4 := s0_3.after hb_4
    clear s0_3
    have s1_4 := s1_3.after hb_4
    clear s1_3
    have hz_4 := hb_4.size
    clear hb_4
    generalize hLL : payAllL L0 n0 z1 n1 q2 = LL at *
    have HLL := Lib.hid hLL
    clear hLL
    have hk : LL.length ≤ 1048576 := by have h := payAllL_len L0 n0 z1 n1 q2; rw [HLL.out] at h; omega
    obtain rfl := os_4.len
    have iw_4 := os_4.intsAt
    have d_4 : Below w4.heap.size w4 w4 := Below.refl _ _
    clear s0_4
    clear s1_4
    have bD := b_4
    clear b_4
    have aD0 := a0_4
    have aD1 := a1_4
    have iD := iw_4
    go_wp2_with fail
    refine (toStoneS_any A0 n0 c0 L0 _ a0_4 hn0 HN0.out).mono ?_
    rintro e w5 ⟨g5, rfl, hg5, r_5, hb_5⟩
    have a0_5 := a0_4.after hb_5
    clear a0_4
    have a1_5 := a1_4.after hb_5
    clear a1_4
    have iw_5 := iw_4.after hb_5
    clear iw_4
    have d_5 := below_then d_4 hb_5
    clear d_4
    have hz_5 := hb_5.size
    clear hb_5
    have s0_5 := r_5.nestAt a0_.1 a0_.lens HN0.out
    have hgl0 : g5 < w5.heap.size := r_5.lt
    have m0_5 := NestInts.of_row (lo := w4.heap.size) (hi := w5.heap.size) r_5 hg5 (Nat.le_refl _)
    clear r_5
    go_wp2_with fail
    refine (toIntS_row A1 n1 c1 z1 _ a1_5 hn1).mono ?_
    rintro e w6 ⟨g6, rfl, hg6, r_6, hb_6⟩
    have a0_6 := a0_5.after hb_6
    clear a0_5
    have a1_6 := a1_5.after hb_6
    clear a1_5
    have iw_6 := iw_5.after hb_6
    clear iw_5
    have d_6 := below_then d_5 hb_6
    clear d_5
    have s0_6 := s0_5.after hb_6
    clear s0_5
    have m0_6 := m0_5.after hb_6
    clear m0_5
    have hz_6 := hb_6.size
    clear hb_6
    have s1_6 := intsAt_row r_6 a1_.1 (fun k _ => rfl)
    have hgl1 : g6 < w6.heap.size := r_6.lt
    have m1_6 := RowI.of_row (lo := w5.heap.size) (hi := w6.heap.size) r_6 (intRow_ints _) hg6 (Nat.le_refl _)
    clear r_6
    go_wp2_with fail
    refine (iPayAll_any _ _ _ L0 _ _ _ z1 _ _ s0_6 s1_6 hn1 hn0).mono ?_
    rintro e w7 ⟨A_7, l_7, c_7, rfl, o_7, hb_7⟩
    have a0_7 := a0_6.after hb_7
    clear a0_6
    have a1_7 := a1_6.after hb_7
    clear a1_6
    have iw_7 := iw_6.after hb_7
    clear iw_6
    have d_7 := below_then d_6 hb_7
    clear d_6
    have s0_7 := s0_6.after hb_7
    clear s0_6
    have m0_7 := m0_6.after hb_7
    clear m0_6
    have s1_7 := s1_6.after hb_7
    clear s1_6
    have m1_7 := m1_6.after hb_7
    clear m1_6
    have hz_7 := hb_7.size
    clear hb_7
    rw [HLL.out] at o_7
    obtain rfl := o_7.len
    go_wp2_with fail
    refine (eqIntS_any _ _ _ _ _ _ LL LL _ o_7.intsAt iw_7 hk hk).mono ?_
    rintro e w8 ⟨e8, hb_8⟩
    rw [eqL_refl] at e8
    subst e8
    have a0_8 := a0_7.after hb_8
    clear a0_7
    have a1_8 := a1_7.after hb_8
    clear a1_7
    have iw_8 := iw_7.after hb_8
    clear iw_7
    have d_8 := below_then d_7 hb_8
    clear d_7
    have s0_8 := s0_7.after hb_8
    clear s0_7
    have m0_8 := m0_7.after hb_8
    clear m0_7
    have s1_8 := s1_7.after hb_8
    clear s1_7
    have m1_8 := m1_7.after hb_8
    clear m1_7
    have o_8 := o_7.below hb_8
    clear o_7
    have hz_8 := hb_8.size
    clear hb_8
    go_wp2_with fail
    refine (toStoneS_any A0 n0 c0 L0 _ a0_8 hn0 HN0.out).mono ?_
    rintro e w9 ⟨g9, rfl, hg9, r_9, hb_9⟩
    have a0_9 := a0_8.after hb_9
    clear a0_8
    have a1_9 := a1_8.after hb_9
    clear a1_8
    have iw_9 := iw_8.after hb_9
    clear iw_8
    have d_9 := below_then d_8 hb_9
    clear d_8
    have s0_9 := s0_8.after hb_9
    clear s0_8
    have m0_9 := m0_8.after hb_9
    clear m0_8
    have s1_9 := s1_8.after hb_9
    clear s1_8
    have m1_9 := m1_8.after hb_9
    clear m1_8
    have o_9 := o_8.below hb_9
    clear o_8
    have hz_9 := hb_9.size
    clear hb_9
    have t0_9 := r_9.nestAt a0_.1 a0_.lens HN0.out
    clear r_9
    go_wp2_with fail
    refine (eqStoneS_same _ _ _ _ _ L0 _ s0_9 t0_9 hn0 HN0.out).mono ?_
    rintro e w10 ⟨rfl, hb_10⟩
    have a0_10 := a0_9.after hb_10
    clear a0_9
    have a1_10 := a1_9.after hb_10
    clear a1_9
    have iw_10 := iw_9.after hb_10
    clear iw_9
    have d_10 := below_then d_9 hb_10
    clear d_9
    have s0_10 := s0_9.after hb_10
    clear s0_9
    have m0_10 := m0_9.after hb_10
    clear m0_9
    have s1_10 := s1_9.after hb_10
    clear s1_9
    have m1_10 := m1_9.after hb_10
    clear m1_9
    have o_10 := o_9.below hb_10
    clear o_9
    have t0_10 := t0_9.after hb_10
    clear t0_9
    have hz_10 := hb_10.size
    clear hb_10
    clear t0_10
    go_wp2_with fail
    refine (toIntS_row A1 n1 c1 z1 _ a1_10 hn1).mono ?_
    rintro e w11 ⟨g11, rfl, hg11, r_11, hb_11⟩
    have a0_11 := a0_10.after hb_11
    clear a0_10
    have a1_11 := a1_10.after hb_11
    clear a1_10
    have iw_11 := iw_10.after hb_11
    clear iw_10
    have d_11 := below_then d_10 hb_11
    clear d_10
    have s0_11 := s0_10.after hb_11
    clear s0_10
    have m0_11 := m0_10.after hb_11
    clear m0_10
    have s1_11 := s1_10.after hb_11
    clear s1_10
    have m1_11 := m1_10.after hb_11
    clear m1_10
    have o_11 := o_10.below hb_11
    clear o_10
    have hz_11 := hb_11.size
    clear hb_11
    have t1_11 := intsAt_row r_11 a1_.1 (fun k _ => rfl)
    clear r_11
    go_wp2_with fail
    refine (eqIntS_any _ _ _ _ _ _ z1 z1 _ s1_11 t1_11 hn1 hn1).mono ?_
    rintro e w12 ⟨e12, hb_12⟩
    rw [eqL_refl] at e12
    subst e12
    have a0_12 := a0_11.after hb_12
    clear a0_11
    have a1_12 := a1_11.after hb_12
    clear a1_11
    have iw_12 := iw_11.after hb_12
    clear iw_11
    have d_12 := below_then d_11 hb_12
    clear d_11
    have s0_12 := s0_11.after hb_12
    clear s0_11
    have m0_12 := m0_11.after hb_12
    clear m0_11
    have s1_12 := s1_11.after hb_12
    clear s1_11
    have m1_12 := m1_11.after hb_12
    clear m1_11
    have o_12 := o_11.below hb_12
    clear o_11
    have t1_12 := t1_11.after hb_12
    clear t1_11
    have hz_12 := hb_12.size
    clear hb_12
    clear t1_12
    clear s0_12
    clear s1_12
    clear a0_12
    clear a1_12
    clear iw_12
    go_wp2_with fail
    refine (markStoneS_any w4.heap.size w5.heap.size g5 n0 _ L0 _ _ m0_12 hn0 hS0 HN0.out (by omega) (by omega)).mono ?_
    rintro e w13 ⟨rfl, wt_13⟩
    clear m0_12
    have d_13 := d_12.trans (wt_13.below.mono (by omega))
    clear d_12
    have o_13 := wt_13.own o_12 (by omega)
    clear o_12
    have m1_13 := m1_12.within wt_13 (by omega)
    clear m1_12
    have hz_13 := wt_13.size
    have hy_13 := Nat.le_of_eq hz_13.symm
    clear hz_13 wt_13
    go_wp2_with fail
    refine (markIntS_row w5.heap.size w6.heap.size g6 n1 _ _ _ m1_13 hn1 (by omega) (by omega)).mono ?_
    rintro e w14 ⟨rfl, wt_14⟩
    clear m1_13
    have d_14 := d_13.trans (wt_14.below.mono (by omega))
    clear d_13
    have o_14 := wt_14.own o_13 (by omega)
    clear o_13
    have hz_14 := wt_14.size
    have hy_14 := Nat.le_of_eq hz_14.symm
    clear hz_14 wt_14
    have hkk : ¬ ((1 + ((sumN L0 n0 * 2 : Nat) : Int)) + (n1 : Int)) < 0 := by omega
    have a0_14 := (aD0.below d_14).mono d_14.size
    have a1_14 := (aD1.below d_14).mono d_14.size
    have iw_14 := (iD.below d_14).mono d_14.size
    go_wp2_with fail
    refine (eqIntS_any _ _ _ _ _ _ LL LL _ o_14.intsAt iw_14 hk hk).mono ?_
    rintro e w15 ⟨e15, hb_15⟩
    rw [eqL_refl] at e15
    subst e15
    have d_15 := below_then d_14 hb_15
    clear d_14
    have o_15 := o_14.below hb_15
    clear o_14
    have iw_15 := iw_14.after hb_15
    clear iw_14
    have a0_15 := a0_14.after hb_15
    clear a0_14
    have a1_15 := a1_14.after hb_15
    clear a1_14
    have hz_15 := hb_15.size
    clear hb_15
    go_wp2_with fail
    refine (markIntS_any _ _ _ LL 1 w6.heap.size _ o_15 hk (by omega) (by omega)).mono ?_
    rintro e w16 ⟨rfl, o_16, hb_16, hs_16⟩
    clear hs_16
    have d_16 := d_15.trans (hb_16.mono (by omega))
    clear d_15 o_15
    clear a0_15
    clear a1_15
    clear iw_15
    have a0_16 := (aD0.below d_16).mono d_16.size
    have a1_16 := (aD1.below d_16).mono d_16.size
    have iw_16 := (iD.below d_16).mono d_16.size
    clear hb_16
    go_wp2_with fail
    refine (heldIntS_any _ _ _ 1 _ o_16.intsAt hk (by omega) (by omega)).mono ?_
    rintro e w17 ⟨rfl, rfl⟩
    have hnn : ¬ (1 + (LL.length : Int)) < 0 := by omega
    have hw_17 : Below w16.heap.size w16 w16 := Below.refl _ _
    go_wp2_with fail
    refine (toStoneS_any A0 n0 c0 L0 _ a0_16 hn0 HN0.out).mono ?_
    rintro e w17 ⟨g17, rfl, hg17, r_17, hb_17⟩
    have d_17 := below_then d_16 hb_17
    clear d_16
    have o_17 := o_16.below hb_17
    clear o_16
    have iw_17 := iw_16.after hb_17
    clear iw_16
    have a0_17 := a0_16.after hb_17
    clear a0_16
    have a1_17 := a1_16.after hb_17
    clear a1_16
    have hz_17 := hb_17.size
    clear hb_17
    have s0_17 := r_17.nestAt a0_.1 a0_.lens HN0.out
    clear r_17
    go_wp2_with fail
    refine (toIntS_row A1 n1 c1 z1 _ a1_17 hn1).mono ?_
    rintro e w18 ⟨g18, rfl, hg18, r_18, hb_18⟩
    have d_18 := below_then d_17 hb_18
    clear d_17
    have o_18 := o_17.below hb_18
    clear o_17
    have iw_18 := iw_17.after hb_18
    clear iw_17
    have a0_18 := a0_17.after hb_18
    clear a0_17
    have a1_18 := a1_17.after hb_18
    clear a1_17
    have s0_18 := s0_17.after hb_18
    clear s0_17
    have hz_18 := hb_18.size
    clear hb_18
    have s1_18 := intsAt_row r_18 a1_.1 (fun k _ => rfl)
    clear r_18
    go_wp2_with fail
    refine (iPayAll_any _ _ _ L0 _ _ _ z1 _ _ s0_18 s1_18 hn1 hn0).mono ?_
    rintro e w19 ⟨A_19, l_19, c_19, rfl, oo_19, hb_19⟩
    have d_19 := below_then d_18 hb_19
    clear d_18
    have o_19 := o_18.below hb_19
    clear o_18
    have iw_19 := iw_18.after hb_19
    clear iw_18
    have a0_19 := a0_18.after hb_19
    clear a0_18
    have a1_19 := a1_18.after hb_19
    clear a1_18
    have s0_19 := s0_18.after hb_19
    clear s0_18
    have s1_19 := s1_18.after hb_19
    clear s1_18
    have hz_19 := hb_19.size
    clear hb_19
    rw [HLL.out] at oo_19
    obtain rfl := oo_19.len
    go_wp2_with fail
    refine (eqIntS_any _ _ _ _ _ _ LL LL _ oo_19.intsAt iw_19 hk hk).mono ?_
    rintro e w20 ⟨e20, hb_20⟩
    rw [eqL_refl] at e20
    subst e20
    have d_20 := below_then d_19 hb_20
    clear d_19
    have o_20 := o_19.below hb_20
    clear o_19
    have iw_20 := iw_19.after hb_20
    clear iw_19
    have a0_20 := a0_19.after hb_20
    clear a0_19
    have a1_20 := a1_19.after hb_20
    clear a1_19
    have s0_20 := s0_19.after hb_20
    clear s0_19
    have s1_20 := s1_19.after hb_20
    clear s1_19
    have hz_20 := hb_20.size
    clear hb_20
    go_wp2_with fail
    refine (heldIntS_any _ _ _ 1 _ o_20.intsAt hk (by omega) (by omega)).mono ?_
    rintro e w21 ⟨rfl, rfl⟩
    go_wp2
    go_ret
    exact ⟨rfl, below_then bD d_20⟩
  · have ht1 : (1048576 : Int) < (n1 : Int) := by omega
    go_enter Try.func10, Try.ntmps10
    go_wp2
    go_ret
    exact ⟨rfl, b_0⟩
end Go.Proofs.Ytdkdjjdedogcbaa
