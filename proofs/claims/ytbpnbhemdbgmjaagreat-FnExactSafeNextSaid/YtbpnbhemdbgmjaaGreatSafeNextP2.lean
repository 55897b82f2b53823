/-
  Texts that the law stands on, part 2.
-/
import Derived.Test.YtbpnbhemdbgmjaaGreatSafeNextP1
import Derived.Test.YtbpnbhemdbgmjaaGreatC19
import Derived.Test.YtbpnbhemdbgmjaaGreatC22
import Derived.Test.YtbpnbhemdbgmjaaGreatC24
import Derived.Test.YtbpnbhemdbgmjaaGreatF1
import Derived.Test.YtbpnbhemdbgmjaaGreatF3
set_option linter.unusedVariables false
set_option linter.unusedSimpArgs false
namespace Go.Proofs.YtbpnbhemdbgmjaaGreat
namespace X
open Go.RowKit
set_option maxRecDepth 100000 in
set_option maxHeartbeats 3200000 in
theorem fnExactSafeNext.walk (A0 : Option Addr) (n0 c0 : Nat) (z0 : List Int) (hm0 : n0 ≤ maxLen) (A1 : Option Addr) (n1 c1 : Nat) (z1 : List Int) (w : World) (a0_ : RecsAt w w.heap.size 4 A0 n0 z0) (a1_ : IntsAt w w.heap.size A1 n1 z1) :
  Calls Tryzx.prog 11 #[.agg #[.slice A0 n0 c0], .slice A1 n1 c1] w fun e w' => e = .returned (.bool true) ∧ Below w.heap.size w w' := by
 have hm0' : n0 ≤ 9223372036854775807 := by unfold maxLen at hm0; omega
 have b_0 : Below w.heap.size w w := Below.refl _ _
 have a0_0 := a0_
 have a1_0 := a1_
 by_cases hn1 : n1 ≤ 1048576
 ·have ht1 : ¬ (1048576 : Int) < (n1 : Int) := by omega
  have hb_1 : Below w.heap.size w (w.alloc (.cells #[.slice A0 n0 c0] 49)) := (Below.refl _ _).alloc (Nat.le_refl _) _
  have b_1 := below_then b_0 hb_1
  clear b_0
  have a0_1 := a0_0.after hb_1
  clear a0_0
  have a1_1 := a1_0.after hb_1
  clear a1_0
  have hz_1 := hb_1.size
  clear hb_1
  have bx0_1 : Box (w.alloc (.cells #[.slice A0 n0 c0] 49)) w.heap.size (.slice A0 n0 c0) := Box.new _ _ _
  have cbx0_1 := bx0_1.1
  go_enter Tryzx.func11, Tryz.ntmps11
  go_wp2_with fail
  refine (sz1_any (n := n0) (by omega) (fun h => szArch_ok A0 n0 c0 _ _ (by omega) (by omega) hm0' h) (fun h => szArch_no A0 n0 c0 _ _ (by omega) (by omega) hm0' h)).mono ?_
  rintro e w2 ⟨r2, rfl, hb_2, hr2⟩
  have b_2 := below_then b_1 hb_2
  clear b_1
  have a0_2 := a0_1.after hb_2
  clear a0_1
  have a1_2 := a1_1.after hb_2
  clear a1_1
  have bx0_2 := bx0_1.after hb_2
  clear bx0_1
  clear cbx0_1
  have cbx0_2 := bx0_2.1
  have hz_2 := hb_2.size
  clear hb_2
  rcases hr2 with rfl | hr2
  ·go_wp2
   go_ret
   exact ⟨rfl, b_2⟩
  obtain ⟨hr2a, hr2b, hr2c⟩ := hr2
  have hn0 : n0 ≤ 1048576 := by omega
  have ht0 : ¬ r2 < 0 := by omega
  go_wp2_with fail
  refine (toArch_any A0 n0 c0 z0 _ a0_2 hn0).mono ?_
  rintro e w3 ⟨g3, rfl, hg3, r_3, hb_3⟩
  have b_3 := below_then b_2 hb_3
  clear b_2
  have a0_3 := a0_2.after hb_3
  clear a0_2
  have a1_3 := a1_2.after hb_3
  clear a1_2
  have bx0_3 := bx0_2.after hb_3
  clear bx0_2
  clear cbx0_2
  have cbx0_3 := bx0_3.1
  have hz_3 := hb_3.size
  clear hb_3
  have s0_3 := recsAt_row r_3 a0_.1 (fun k _ => rfl)
  clear r_3
  go_wp2_with fail
  refine (toIntS_row A1 n1 c1 z1 _ a1_3 hn1).mono ?_
  rintro e w4 ⟨g4, rfl, hg4, r_4, hb_4⟩
  have b_4 := below_then b_3 hb_4
  clear b_3
  have a0_4 := a0_3.after hb_4
  clear a0_3
  have a1_4 := a1_3.after hb_4
  clear a1_3
  have bx0_4 := bx0_3.after hb_4
  clear bx0_3
  have s0_4 := s0_3.after hb_4
  clear s0_3
  clear cbx0_3
  have cbx0_4 := bx0_4.1
  have hz_4 := hb_4.size
  clear hb_4
  have s1_4 := intsAt_row r_4 a1_.1 (fun k _ => rfl)
  clear r_4
  go_wp2_with fail
  refine ((sSafe_at _ _ _ z0 _ _ _ z1 _ (by exact s0_4) hn0 (by exact s1_4) hn1).mono fun e w h => safePost h).mono ?_
  rintro e w5 ⟨A_5, l_5, c_5, rfl, os_5, hb_5⟩
  have b_5 := below_then b_4 hb_5
  clear b_4
  have a0_5 := a0_4.after hb_5
  clear a0_4
  have a1_5 := a1_4.after hb_5
  clear a1_4
  have bx0_5 := bx0_4.after hb_5
  clear bx0_4
  have s0_5 := s0_4.after hb_5
  clear s0_4
  have s1_5 := s1_4.after hb_5
  clear s1_4
  clear cbx0_4
  have cbx0_5 := bx0_5.1
  have hz_5 := hb_5.size
  clear hb_5
  generalize hLL : safeL z0 n0 z1 = LL at *
  have HLL := Lib.hid hLL
  clear hLL
  have hk : LL.length ≤ 1048576 := by have h := Nat.le_trans (safeL_len z0 n0 z1) (by rw [a1_.1]; exact hn1); rw [HLL.out] at h; omega
  obtain rfl := os_5.len
  have iw_5 := os_5.intsAt
  have d_5 : Below w5.heap.size w5 w5 := Below.refl _ _
  clear s0_5
  clear s1_5
  have bD := b_5
  clear b_5
  have aD0 := a0_5
  have aD1 := a1_5
  have iD := iw_5
  have bxD0 := bx0_5
  go_wp2_with fail
  refine (toArch_any A0 n0 c0 z0 _ a0_5 hn0).mono ?_
  rintro e w6 ⟨g6, rfl, hg6, r_6, hb_6⟩
  have a0_6 := a0_5.after hb_6
  clear a0_5
  have a1_6 := a1_5.after hb_6
  clear a1_5
  have bx0_6 := bx0_5.after hb_6
  clear bx0_5
  have iw_6 := iw_5.after hb_6
  clear iw_5
  have d_6 := below_then d_5 hb_6
  clear d_5
  clear cbx0_5
  have cbx0_6 := bx0_6.1
  have hz_6 := hb_6.size
  clear hb_6
  have s0_6 := recsAt_row r_6 a0_.1 (fun k _ => rfl)
  have hgl0 : g6 < w6.heap.size := r_6.lt
  have m0_6 := RowI.of_row (lo := w5.heap.size) (hi := w6.heap.size) r_6 (intRow_ints _) hg6 (Nat.le_refl _)
  clear r_6
  have hb_7 : Below w6.heap.size w6 (w6.alloc (.cells #[.slice (some ⟨g6, 0, none⟩) n0 n0] 26)) := (Below.refl _ _).alloc (Nat.le_refl _) _
  have a0_7 := a0_6.after hb_7
  clear a0_6
  have a1_7 := a1_6.after hb_7
  clear a1_6
  have bx0_7 := bx0_6.after hb_7
  clear bx0_6
  have iw_7 := iw_6.after hb_7
  clear iw_6
  have d_7 := below_then d_6 hb_7
  clear d_6
  have s0_7 := s0_6.after hb_7
  clear s0_6
  have m0_7 := m0_6.after hb_7
  clear m0_6
  clear cbx0_6
  have cbx0_7 := bx0_7.1
  have hz_7 := hb_7.size
  clear hb_7
  have by0_7 : Box (w6.alloc (.cells #[.slice (some ⟨g6, 0, none⟩) n0 n0] 26)) w6.heap.size (.slice (some ⟨g6, 0, none⟩) n0 n0) := Box.new _ _ _
  have cby0_7 := by0_7.1
  go_wp2_with fail
  refine (toIntS_row A1 n1 c1 z1 _ a1_7 hn1).mono ?_
  rintro e w8 ⟨g8, rfl, hg8, r_8, hb_8⟩
  have a0_8 := a0_7.after hb_8
  clear a0_7
  have a1_8 := a1_7.after hb_8
  clear a1_7
  have bx0_8 := bx0_7.after hb_8
  clear bx0_7
  have iw_8 := iw_7.after hb_8
  clear iw_7
  have d_8 := below_then d_7 hb_8
  clear d_7
  have s0_8 := s0_7.after hb_8
  clear s0_7
  have m0_8 := m0_7.after hb_8
  clear m0_7
  have by0_8 := by0_7.after hb_8
  clear by0_7
  clear cbx0_7
  have cbx0_8 := bx0_8.1
  clear cby0_7
  have cby0_8 := by0_8.1
  have hz_8 := hb_8.size
  clear hb_8
  have s1_8 := intsAt_row r_8 a1_.1 (fun k _ => rfl)
  have hgl1 : g8 < w8.heap.size := r_8.lt
  have m1_8 := RowI.of_row (lo := (w6.alloc (.cells #[.slice (some ⟨g6, 0, none⟩) n0 n0] 26)).heap.size) (hi := w8.heap.size) r_8 (intRow_ints _) hg8 (Nat.le_refl _)
  clear r_8
  go_wp2_with fail
  refine ((iSafe_at _ _ _ z0 _ _ _ z1 _ (by exact s0_8) hn0 (by exact s1_8) hn1).mono fun e w h => safePost h).mono ?_
  rintro e w9 ⟨A_9, l_9, c_9, rfl, o_9, hb_9⟩
  have a0_9 := a0_8.after hb_9
  clear a0_8
  have a1_9 := a1_8.after hb_9
  clear a1_8
  have bx0_9 := bx0_8.after hb_9
  clear bx0_8
  have iw_9 := iw_8.after hb_9
  clear iw_8
  have d_9 := below_then d_8 hb_9
  clear d_8
  have s0_9 := s0_8.after hb_9
  clear s0_8
  have m0_9 := m0_8.after hb_9
  clear m0_8
  have by0_9 := by0_8.after hb_9
  clear by0_8
  have s1_9 := s1_8.after hb_9
  clear s1_8
  have m1_9 := m1_8.after hb_9
  clear m1_8
  clear cbx0_8
  have cbx0_9 := bx0_9.1
  clear cby0_8
  have cby0_9 := by0_9.1
  have hz_9 := hb_9.size
  clear hb_9
  rw [HLL.out] at o_9
  obtain rfl := o_9.len
  go_wp2_with fail
  refine (eqIntS_any _ _ _ _ _ _ LL LL _ o_9.intsAt iw_9 hk hk).mono ?_
  rintro e w10 ⟨e10, hb_10⟩
  rw [eqL_refl] at e10
  subst e10
  have a0_10 := a0_9.after hb_10
  clear a0_9
  have a1_10 := a1_9.after hb_10
  clear a1_9
  have bx0_10 := bx0_9.after hb_10
  clear bx0_9
  have iw_10 := iw_9.after hb_10
  clear iw_9
  have d_10 := below_then d_9 hb_10
  clear d_9
  have s0_10 := s0_9.after hb_10
  clear s0_9
  have m0_10 := m0_9.after hb_10
  clear m0_9
  have by0_10 := by0_9.after hb_10
  clear by0_9
  have s1_10 := s1_9.after hb_10
  clear s1_9
  have m1_10 := m1_9.after hb_10
  clear m1_9
  have o_10 := o_9.below hb_10
  clear o_9
  clear cbx0_9
  have cbx0_10 := bx0_10.1
  clear cby0_9
  have cby0_10 := by0_10.1
  have hz_10 := hb_10.size
  clear hb_10
  go_wp2_with fail
  go_region_held3 (fun w' => w'.cell? ⟨w6.heap.size, 0, none⟩ = some (.slice (some ⟨g6, 0, none⟩) n0 n0) ∧ w'.cell? ⟨w.heap.size, 0, none⟩ = some (.slice A0 n0 c0)) (first | exact ⟨cby0_10, cbx0_10⟩ | exact ⟨dy0_1, dx0_1⟩ | exact ⟨dy0_2, dx0_2⟩) ((first | (go_at_call 28; refine (toArch_any A0 n0 c0 z0 _ (by exact a0_10) hn0).mono ?_; rintro e w11 ⟨g11, rfl, _, r_11, hbx11⟩; have hb_11 := below_undrew hbx11; have e0_1 := s0_10.after hb_11; have v0_1 := recsAt_row r_11 a0_.1 (fun k _ => rfl); have dy0_1 := (by0_10.after hb_11).1; have dx0_1 := (bx0_10.after hb_11).1) | (go_at_call 30; refine (eqArch_same _ _ _ _ _ z0 _ (by exact e0_1) (by exact v0_1) hn0).mono ?_; rintro e w12 ⟨rfl, hb_12⟩; have dy0_2 := ((by0_10.after hb_11).after hb_12).1; have dx0_2 := ((bx0_10.after hb_11).after hb_12).1)))
  clear dy0_1 dx0_1 dy0_2 dx0_2 e0_1 v0_1 hbx11
  have a0_11 := a0_10.after hb_11
  clear a0_10
  have a1_11 := a1_10.after hb_11
  clear a1_10
  have bx0_11 := bx0_10.after hb_11
  clear bx0_10
  have iw_11 := iw_10.after hb_11
  clear iw_10
  have d_11 := below_then d_10 hb_11
  clear d_10
  have s0_11 := s0_10.after hb_11
  clear s0_10
  have m0_11 := m0_10.after hb_11
  clear m0_10
  have by0_11 := by0_10.after hb_11
  clear by0_10
  have s1_11 := s1_10.after hb_11
  clear s1_10
  have m1_11 := m1_10.after hb_11
  clear m1_10
  have o_11 := o_10.below hb_11
  clear o_10
  clear cbx0_10
  have cbx0_11 := bx0_11.1
  clear cby0_10
  have cby0_11 := by0_11.1
  have hz_11 := hb_11.size
  have a0_12 := a0_11.after hb_12
  clear a0_11
  have a1_12 := a1_11.after hb_12
  clear a1_11
  have bx0_12 := bx0_11.after hb_12
  clear bx0_11
  have iw_12 := iw_11.after hb_12
  clear iw_11
  have d_12 := below_then d_11 hb_12
  clear d_11
  have s0_12 := s0_11.after hb_12
  clear s0_11
  have m0_12 := m0_11.after hb_12
  clear m0_11
  have by0_12 := by0_11.after hb_12
  clear by0_11
  have s1_12 := s1_11.after hb_12
  clear s1_11
  have m1_12 := m1_11.after hb_12
  clear m1_11
  have o_12 := o_11.below hb_12
  clear o_11
  clear cbx0_11
  have cbx0_12 := bx0_12.1
  clear cby0_11
  have cby0_12 := by0_12.1
  have hz_12 := hb_12.size
  clear hb_11 hb_12
  go_wp2_with fail
  refine (toIntS_row A1 n1 c1 z1 _ a1_12 hn1).mono ?_
  rintro e w13 ⟨g13, rfl, hg13, r_13, hb_13⟩
  have a0_13 := a0_12.after hb_13
  clear a0_12
  have a1_13 := a1_12.after hb_13
  clear a1_12
  have bx0_13 := bx0_12.after hb_13
  clear bx0_12
  have iw_13 := iw_12.after hb_13
  clear iw_12
  have d_13 := below_then d_12 hb_13
  clear d_12
  have s0_13 := s0_12.after hb_13
  clear s0_12
  have m0_13 := m0_12.after hb_13
  clear m0_12
  have by0_13 := by0_12.after hb_13
  clear by0_12
  have s1_13 := s1_12.after hb_13
  clear s1_12
  have m1_13 := m1_12.after hb_13
  clear m1_12
  have o_13 := o_12.below hb_13
  clear o_12
  clear cbx0_12
  have cbx0_13 := bx0_13.1
  clear cby0_12
  have cby0_13 := by0_13.1
  have hz_13 := hb_13.size
  clear hb_13
  have t1_13 := intsAt_row r_13 a1_.1 (fun k _ => rfl)
  clear r_13
  go_wp2_with fail
  refine (eqIntS_any _ _ _ _ _ _ z1 z1 _ s1_13 t1_13 hn1 hn1).mono ?_
  rintro e w14 ⟨e14, hb_14⟩
  rw [eqL_refl] at e14
  subst e14
  have a0_14 := a0_13.after hb_14
  clear a0_13
  have a1_14 := a1_13.after hb_14
  clear a1_13
  have bx0_14 := bx0_13.after hb_14
  clear bx0_13
  have iw_14 := iw_13.after hb_14
  clear iw_13
  have d_14 := below_then d_13 hb_14
  clear d_13
  have s0_14 := s0_13.after hb_14
  clear s0_13
  have m0_14 := m0_13.after hb_14
  clear m0_13
  have by0_14 := by0_13.after hb_14
  clear by0_13
  have s1_14 := s1_13.after hb_14
  clear s1_13
  have m1_14 := m1_13.after hb_14
  clear m1_13
  have o_14 := o_13.below hb_14
  clear o_13
  have t1_14 := t1_13.after hb_14
  clear t1_13
  clear cbx0_13
  have cbx0_14 := bx0_14.1
  clear cby0_13
  have cby0_14 := by0_14.1
  have hz_14 := hb_14.size
  clear hb_14
  clear t1_14
  clear s0_14
  clear s1_14
  clear a0_14
  clear a1_14
  clear iw_14
  clear bx0_14
  clear cbx0_14
  go_wp2_with fail
  refine (markArch_row w5.heap.size w6.heap.size g6 n0 _ _ _ m0_14 hn0 (by omega) (by omega)).mono ?_
  rintro e w15 ⟨rfl, wt_15⟩
  clear m0_14
  have d_15 := d_14.trans ((wt_15.below (by omega)).mono (by omega))
  clear d_14
  have o_15 := wt_15.own o_14 (by omega)
  clear o_14
  have m1_15 := m1_14.inside wt_15 (by omega)
  clear m1_14
  clear cby0_14
  clear by0_14
  have hy_15 := wt_15.size
  clear wt_15
  go_wp2_with fail
  refine (markIntS_rowI (w6.alloc (.cells #[.slice (some ⟨g6, 0, none⟩) n0 n0] 26)).heap.size w8.heap.size g8 n1 _ _ _ m1_15 hn1 (by omega) (by omega)).mono ?_
  rintro e w16 ⟨rfl, wt_16⟩
  clear m1_15
  have d_16 := d_15.trans ((wt_16.below (by omega)).mono (by omega))
  clear d_15
  have o_16 := wt_16.own o_15 (by omega)
  clear o_15
  have hy_16 := wt_16.size
  clear wt_16
  have hkk : ¬ ((1 + ((n0 * 4 : Nat) : Int)) + (n1 : Int)) < 0 := by omega
  have a0_16 := (aD0.below d_16).mono d_16.size
  have a1_16 := (aD1.below d_16).mono d_16.size
  have iw_16 := (iD.below d_16).mono d_16.size
  have bx0_16 := bxD0.after d_16
  have cbx0_16 := bx0_16.1
  go_wp2_with fail
  refine (eqIntS_any _ _ _ _ _ _ LL LL _ o_16.intsAt iw_16 hk hk).mono ?_
  rintro e w17 ⟨e17, hb_17⟩
  rw [eqL_refl] at e17
  subst e17
  have d_17 := below_then d_16 hb_17
  clear d_16
  have o_17 := o_16.below hb_17
  clear o_16
  have iw_17 := iw_16.after hb_17
  clear iw_16
  have a0_17 := a0_16.after hb_17
  clear a0_16
  have a1_17 := a1_16.after hb_17
  clear a1_16
  have bx0_17 := bx0_16.after hb_17
  clear bx0_16
  clear cbx0_16
  have cbx0_17 := bx0_17.1
  have hz_17 := hb_17.size
  clear hb_17
  go_wp2_with fail
  refine (markIntS_any _ _ _ LL 1 w8.heap.size _ o_17 hk (by omega) (by omega)).mono ?_
  rintro e w18 ⟨rfl, o_18, hb_18, hs_18⟩
  clear hs_18
  have d_18 := d_17.trans (hb_18.mono (by omega))
  clear d_17 o_17
  clear a0_17
  clear a1_17
  clear iw_17
  clear bx0_17
  have a0_18 := (aD0.below d_18).mono d_18.size
  have a1_18 := (aD1.below d_18).mono d_18.size
  have iw_18 := (iD.below d_18).mono d_18.size
  have bx0_18 := bxD0.after d_18
  clear cbx0_17
  have cbx0_18 := bx0_18.1
  clear hb_18
  go_wp2_with fail
  refine (heldIntS_any _ _ _ 1 _ o_18.intsAt hk (by omega) (by omega)).mono ?_
  rintro e w19 ⟨rfl, rfl⟩
  have hnn : ¬ (1 + (LL.length : Int)) < 0 := by omega
  have hw_19 : Below w18.heap.size w18 w18 := Below.refl _ _
  go_wp2_with fail
  refine (toArch_any A0 n0 c0 z0 _ a0_18 hn0).mono ?_
  rintro e w19 ⟨g19, rfl, hg19, r_19, hb_19⟩
  have d_19 := below_then d_18 hb_19
  clear d_18
  have o_19 := o_18.below hb_19
  clear o_18
  have iw_19 := iw_18.after hb_19
  clear iw_18
  have a0_19 := a0_18.after hb_19
  clear a0_18
  have a1_19 := a1_18.after hb_19
  clear a1_18
  have bx0_19 := bx0_18.after hb_19
  clear bx0_18
  clear cbx0_18
  have cbx0_19 := bx0_19.1
  have hz_19 := hb_19.size
  clear hb_19
  have s0_19 := recsAt_row r_19 a0_.1 (fun k _ => rfl)
  clear r_19
  go_wp2_with fail
  refine (toIntS_row A1 n1 c1 z1 _ a1_19 hn1).mono ?_
  rintro e w20 ⟨g20, rfl, hg20, r_20, hb_20⟩
  have d_20 := below_then d_19 hb_20
  clear d_19
  have o_20 := o_19.below hb_20
  clear o_19
  have iw_20 := iw_19.after hb_20
  clear iw_19
  have a0_20 := a0_19.after hb_20
  clear a0_19
  have a1_20 := a1_19.after hb_20
  clear a1_19
  have bx0_20 := bx0_19.after hb_20
  clear bx0_19
  have s0_20 := s0_19.after hb_20
  clear s0_19
  clear cbx0_19
  have cbx0_20 := bx0_20.1
  have hz_20 := hb_20.size
  clear hb_20
  have s1_20 := intsAt_row r_20 a1_.1 (fun k _ => rfl)
  clear r_20
  go_wp2_with fail
  refine ((iSafe_at _ _ _ z0 _ _ _ z1 _ (by exact s0_20) hn0 (by exact s1_20) hn1).mono fun e w h => safePost h).mono ?_
  rintro e w21 ⟨A_21, l_21, c_21, rfl, oo_21, hb_21⟩
  have d_21 := below_then d_20 hb_21
  clear d_20
  have o_21 := o_20.below hb_21
  clear o_20
  have iw_21 := iw_20.after hb_21
  clear iw_20
  have a0_21 := a0_20.after hb_21
  clear a0_20
  have a1_21 := a1_20.after hb_21
  clear a1_20
  have bx0_21 := bx0_20.after hb_21
  clear bx0_20
  have s0_21 := s0_20.after hb_21
  clear s0_20
  have s1_21 := s1_20.after hb_21
  clear s1_20
  clear cbx0_20
  have cbx0_21 := bx0_21.1
  have hz_21 := hb_21.size
  clear hb_21
  rw [HLL.out] at oo_21
  obtain rfl := oo_21.len
  go_wp2_with fail
  refine (eqIntS_any _ _ _ _ _ _ LL LL _ oo_21.intsAt iw_21 hk hk).mono ?_
  rintro e w22 ⟨e22, hb_22⟩
  rw [eqL_refl] at e22
  subst e22
  have d_22 := below_then d_21 hb_22
  clear d_21
  have o_22 := o_21.below hb_22
  clear o_21
  have iw_22 := iw_21.after hb_22
  clear iw_21
  have a0_22 := a0_21.after hb_22
  clear a0_21
  have a1_22 := a1_21.after hb_22
  clear a1_21
  have bx0_22 := bx0_21.after hb_22
  clear bx0_21
  have s0_22 := s0_21.after hb_22
  clear s0_21
  have s1_22 := s1_21.after hb_22
  clear s1_21
  clear cbx0_21
  have cbx0_22 := bx0_22.1
  have hz_22 := hb_22.size
  clear hb_22
  go_wp2_with fail
  refine (heldIntS_any _ _ _ 1 _ o_22.intsAt hk (by omega) (by omega)).mono ?_
  rintro e w23 ⟨rfl, rfl⟩
  go_wp2
  go_ret
  exact ⟨rfl, below_then bD d_22⟩
 ·have ht1 : (1048576 : Int) < (n1 : Int) := by omega
  go_enter Tryzx.func11, Tryz.ntmps11
  go_wp2
  go_ret
  exact ⟨rfl, (below_box b_0)⟩
end X
end Go.Proofs.YtbpnbhemdbgmjaaGreat
