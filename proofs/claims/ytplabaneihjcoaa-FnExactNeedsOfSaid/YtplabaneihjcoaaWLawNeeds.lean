/-
  The law NeedsOf: the call returns true.
-/
import Derived.Test.YtplabaneihjcoaaWNeeds
import Derived.Test.YtplabaneihjcoaaWIntSS
import Derived.Test.YtplabaneihjcoaaRArch
import Derived.Test.YtplabaneihjcoaaInside
import Derived.Test.YtplabaneihjcoaaLawKit
import Derived.Test.YtplabaneihjcoaaWMarkI
import Derived.Test.YtplabaneihjcoaaWMark
namespace Go.Proofs.Ytplabaneihjcoaa
open Go.RowKit
set_option linter.unusedVariables false

set_option maxRecDepth 100000 in
set_option maxHeartbeats 3200000 in
theorem fnExactNeedsOf.walk (A0 : Option Addr) (n0 c0 : Nat) (z0 : List Int) (hm0 : n0 ≤ maxLen) (w : World) (a0_ : RecsAt w w.heap.size 4 A0 n0 z0) :
    Calls Try.prog 4 #[.agg #[.slice A0 n0 c0]] w fun e w' => e = .returned (.bool true) ∧ Below w.heap.size w w' := by
  have hm0' : n0 ≤ 9223372036854775807 := by unfold maxLen at hm0; omega
  have b_0 : Below w.heap.size w w := Below.refl _ _
  have a0_0 := a0_
  have hb_1 : Below w.heap.size w (w.alloc (.cells #[.slice A0 n0 c0] 42)) := (Below.refl _ _).alloc (Nat.le_refl _) _
  have b_1 := below_then b_0 hb_1
  clear b_0
  have a0_1 := a0_0.after hb_1
  clear a0_0
  have hz_1 := hb_1.size
  clear hb_1
  have bx0_1 : Box (w.alloc (.cells #[.slice A0 n0 c0] 42)) w.heap.size (.slice A0 n0 c0) := Box.new _ _ _
  have cbx0_1 := bx0_1.1
  go_enter Try.func4, Try.ntmps4
  go_wp2_with fail
  refine (sz1_any (n := n0) (by omega) (fun h => szArch_ok A0 n0 c0 _ _ (by omega) (by omega) hm0' h) (fun h => szArch_no A0 n0 c0 _ _ (by omega) (by omega) hm0' h)).mono ?_
  rintro e w2 ⟨r2, rfl, hb_2, hr2⟩
  have b_2 := below_then b_1 hb_2
  clear b_1
  have a0_2 := a0_1.after hb_2
  clear a0_1
  have bx0_2 := bx0_1.after hb_2
  clear bx0_1
  clear cbx0_1
  have cbx0_2 := bx0_2.1
  have hz_2 := hb_2.size
  clear hb_2
  rcases hr2 with rfl | hr2
  · go_wp2
    go_ret
    exact ⟨rfl, b_2⟩
  obtain ⟨hr2a, hr2b, hr2c⟩ := hr2
  have hn0 : n0 ≤ 1048576 := by omega
  have ht0 : ¬ r2 < 0 := by omega
  generalize hNN : ndN z0 n0 = NN at *
  generalize hLL : ndF z0 = LL at *
  have HNN := Lib.hid hNN
  have HLL := Lib.hid hLL
  have hk : NN ≤ 262144 := by have h := ndN_le z0 n0; rw [HNN.out] at h; omega
  clear hNN hLL
  go_wp2_with fail
  refine (toArch_any A0 n0 c0 z0 _ a0_2 hn0).mono ?_
  rintro e w3 ⟨g3, rfl, hg3, r_3, hb_3⟩
  have b_3 := below_then b_2 hb_3
  clear b_2
  have a0_3 := a0_2.after hb_3
  clear a0_2
  have bx0_3 := bx0_2.after hb_3
  clear bx0_2
  clear cbx0_2
  have cbx0_3 := bx0_3.1
  have hz_3 := hb_3.size
  clear hb_3
  have s0_3 := recsAt_row r_3 a0_.1 (fun k _ => rfl)
  clear r_3
  go_wp2_with fail
  refine (sNeedsOf_any _ n0 _ z0 _ s0_3 hn0).mono ?_
  rw [HNN.out, HLL.out]
  rintro e w4 ⟨v_4, rfl, os_4, hb_4⟩
  obtain ⟨A_4, c_4, rfl, _⟩ := os_4.slice
  have b_4 := below_then b_3 hb_4
  clear b_3
  have a0_4 := a0_3.after hb_4
  clear a0_3
  have bx0_4 := bx0_3.after hb_4
  clear bx0_3
  have s0_4 := s0_3.after hb_4
  clear s0_3
  clear cbx0_3
  have cbx0_4 := bx0_4.1
  have hz_4 := hb_4.size
  clear hb_4
  have iw_4 := os_4.recs
  have d_4 : Below w4.heap.size w4 w4 := Below.refl _ _
  clear s0_4
  have bD := b_4
  clear b_4
  have aD0 := a0_4
  have iD := iw_4
  have bxD0 := bx0_4
  go_wp2_with fail
  refine (toArch_any A0 n0 c0 z0 _ a0_4 hn0).mono ?_
  rintro e w5 ⟨g5, rfl, hg5, r_5, hb_5⟩
  have a0_5 := a0_4.after hb_5
  clear a0_4
  have bx0_5 := bx0_4.after hb_5
  clear bx0_4
  have iw_5 := iw_4.after hb_5
  clear iw_4
  have d_5 := below_then d_4 hb_5
  clear d_4
  clear cbx0_4
  have cbx0_5 := bx0_5.1
  have hz_5 := hb_5.size
  clear hb_5
  have s0_5 := recsAt_row r_5 a0_.1 (fun k _ => rfl)
  have hgl0 : g5 < w5.heap.size := r_5.lt
  have m0_5 := RowI.of_row (lo := w4.heap.size) (hi := w5.heap.size) r_5 (intRow_ints _) hg5 (Nat.le_refl _)
  clear r_5
  have hb_6 : Below w5.heap.size w5 (w5.alloc (.cells #[.slice (some ⟨g5, 0, none⟩) n0 n0] 48)) := (Below.refl _ _).alloc (Nat.le_refl _) _
  have a0_6 := a0_5.after hb_6
  clear a0_5
  have bx0_6 := bx0_5.after hb_6
  clear bx0_5
  have iw_6 := iw_5.after hb_6
  clear iw_5
  have d_6 := below_then d_5 hb_6
  clear d_5
  have s0_6 := s0_5.after hb_6
  clear s0_5
  have m0_6 := m0_5.after hb_6
  clear m0_5
  clear cbx0_5
  have cbx0_6 := bx0_6.1
  have hz_6 := hb_6.size
  clear hb_6
  have by0_6 : Box (w5.alloc (.cells #[.slice (some ⟨g5, 0, none⟩) n0 n0] 48)) w5.heap.size (.slice (some ⟨g5, 0, none⟩) n0 n0) := Box.new _ _ _
  have cby0_6 := by0_6.1
  go_wp2_with fail
  refine (iNeedsOf_any _ n0 _ z0 _ s0_6 hn0).mono ?_
  rw [HNN.out, HLL.out]
  rintro e w7 ⟨v_7, rfl, o_7, hb_7⟩
  obtain ⟨A_7, c_7, rfl, _⟩ := o_7.slice
  have a0_7 := a0_6.after hb_7
  clear a0_6
  have bx0_7 := bx0_6.after hb_7
  clear bx0_6
  have iw_7 := iw_6.after hb_7
  clear iw_6
  have d_7 := below_then d_6 hb_7
  clear d_6
  have s0_7 := s0_6.after hb_7
  clear s0_6
  have m0_7 := m0_6.after hb_7
  clear m0_6
  have by0_7 := by0_6.after hb_7
  clear by0_6
  clear cbx0_6
  have cbx0_7 := bx0_7.1
  clear cby0_6
  have cby0_7 := by0_7.1
  have hz_7 := hb_7.size
  clear hb_7
  go_wp2_with fail
  refine (eqIntSS_same _ _ _ _ _ LL _ o_7.recs iw_7 (by omega)).mono ?_
  rintro e w8 ⟨rfl, hb_8⟩
  have a0_8 := a0_7.after hb_8
  clear a0_7
  have bx0_8 := bx0_7.after hb_8
  clear bx0_7
  have iw_8 := iw_7.after hb_8
  clear iw_7
  have d_8 := below_then d_7 hb_8
  clear d_7
  have s0_8 := s0_7.after hb_8
  clear s0_7
  have m0_8 := m0_7.after hb_8
  clear m0_7
  have by0_8 := by0_7.after hb_8
  clear by0_7
  have o_8 := o_7.below hb_8
  clear o_7
  clear cbx0_7
  have cbx0_8 := bx0_8.1
  clear cby0_7
  have cby0_8 := by0_8.1
  have hz_8 := hb_8.size
  clear hb_8
  go_wp2_with fail
  go_region_held3 (fun w' => w'.cell? ⟨w5.heap.size, 0, none⟩ = some (.slice (some ⟨g5, 0, none⟩) n0 n0) ∧ w'.cell? ⟨w.heap.size, 0, none⟩ = some (.slice A0 n0 c0)) (first | exact ⟨cby0_8, cbx0_8⟩ | exact ⟨dy0_1, dx0_1⟩ | exact ⟨dy0_2, dx0_2⟩) ((first | (go_at_call 18; refine (toArch_any A0 n0 c0 z0 _ (by exact a0_8) hn0).mono ?_; rintro e w9 ⟨g9, rfl, _, r_9, hbx9⟩; have hb_9 := below_undrew hbx9; have e0_1 := s0_8.after hb_9; have v0_1 := recsAt_row r_9 a0_.1 (fun k _ => rfl); have dy0_1 := (by0_8.after hb_9).1; have dx0_1 := (bx0_8.after hb_9).1) | (go_at_call 21; refine (eqArch_same _ _ _ _ _ z0 _ (by exact e0_1) (by exact v0_1) hn0).mono ?_; rintro e w10 ⟨rfl, hb_10⟩; have dy0_2 := ((by0_8.after hb_9).after hb_10).1; have dx0_2 := ((bx0_8.after hb_9).after hb_10).1)))
  clear dy0_1 dx0_1 dy0_2 dx0_2 e0_1 v0_1 hbx9
  have a0_9 := a0_8.after hb_9
  clear a0_8
  have bx0_9 := bx0_8.after hb_9
  clear bx0_8
  have iw_9 := iw_8.after hb_9
  clear iw_8
  have d_9 := below_then d_8 hb_9
  clear d_8
  have s0_9 := s0_8.after hb_9
  clear s0_8
  have m0_9 := m0_8.after hb_9
  clear m0_8
  have by0_9 := by0_8.after hb_9
  clear by0_8
  have o_9 := o_8.below hb_9
  clear o_8
  clear cbx0_8
  have cbx0_9 := bx0_9.1
  clear cby0_8
  have cby0_9 := by0_9.1
  have hz_9 := hb_9.size
  have a0_10 := a0_9.after hb_10
  clear a0_9
  have bx0_10 := bx0_9.after hb_10
  clear bx0_9
  have iw_10 := iw_9.after hb_10
  clear iw_9
  have d_10 := below_then d_9 hb_10
  clear d_9
  have s0_10 := s0_9.after hb_10
  clear s0_9
  have m0_10 := m0_9.after hb_10
  clear m0_9
  have by0_10 := by0_9.after hb_10
  clear by0_9
  have o_10 := o_9.below hb_10
  clear o_9
  clear cbx0_9
  have cbx0_10 := bx0_10.1
  clear cby0_9
  have cby0_10 := by0_10.1
  have hz_10 := hb_10.size
  clear hb_9 hb_10
  clear s0_10
  clear a0_10
  clear iw_10
  clear bx0_10
  clear cbx0_10
  go_wp2_with fail
  refine (markArch_row w4.heap.size w5.heap.size g5 n0 _ _ _ m0_10 hn0 (by omega) (by omega)).mono ?_
  rintro e w11 ⟨rfl, wt_11⟩
  clear m0_10
  have d_11 := d_10.trans ((wt_11.below (by omega)).mono (by omega))
  clear d_10
  have o_11 := wt_11.ownSS o_10 (by omega)
  clear o_10
  clear cby0_10
  clear by0_10
  have hy_11 := wt_11.size
  clear wt_11
  have hkk : ¬ (1 + ((n0 * 4 : Nat) : Int)) < 0 := by omega
  have a0_11 := (aD0.below d_11).mono d_11.size
  have iw_11 := (iD.below d_11).mono d_11.size
  have bx0_11 := bxD0.after d_11
  have cbx0_11 := bx0_11.1
  go_wp2_with fail
  refine (eqIntSS_same _ _ _ _ _ LL _ o_11.recs iw_11 (by omega)).mono ?_
  rintro e w12 ⟨rfl, hb_12⟩
  have d_12 := below_then d_11 hb_12
  clear d_11
  have o_12 := o_11.below hb_12
  clear o_11
  have iw_12 := iw_11.after hb_12
  clear iw_11
  have a0_12 := a0_11.after hb_12
  clear a0_11
  have bx0_12 := bx0_11.after hb_12
  clear bx0_11
  clear cbx0_11
  have cbx0_12 := bx0_12.1
  have hz_12 := hb_12.size
  clear hb_12
  go_wp2_with fail
  refine (markIntSS_own _ _ _ LL 1 (w5.alloc (.cells #[.slice (some ⟨g5, 0, none⟩) n0 n0] 48)).heap.size _ o_12 hk (by omega) (by omega)).mono ?_
  rintro e w13 ⟨rfl, o_13, hb_13, _⟩
  have d_13 := d_12.trans (hb_13.mono (by omega))
  clear d_12 o_12
  clear a0_12
  clear iw_12
  clear bx0_12
  have a0_13 := (aD0.below d_13).mono d_13.size
  have iw_13 := (iD.below d_13).mono d_13.size
  have bx0_13 := bxD0.after d_13
  clear cbx0_12
  have cbx0_13 := bx0_13.1
  clear hb_13
  go_wp2_with fail
  refine (heldIntSS_any _ _ _ 1 _ o_13 hk (by omega) (by omega)).mono ?_
  rintro e w14 ⟨rfl, rfl⟩
  have hnn : ¬ (1 + ((NN * 2 : Nat) : Int)) < 0 := by omega
  have hw_14 : Below w13.heap.size w13 w13 := Below.refl _ _
  go_wp2_with fail
  refine (toArch_any A0 n0 c0 z0 _ a0_13 hn0).mono ?_
  rintro e w14 ⟨g14, rfl, hg14, r_14, hb_14⟩
  have d_14 := below_then d_13 hb_14
  clear d_13
  have o_14 := o_13.after hb_14
  clear o_13
  have iw_14 := iw_13.after hb_14
  clear iw_13
  have a0_14 := a0_13.after hb_14
  clear a0_13
  have bx0_14 := bx0_13.after hb_14
  clear bx0_13
  clear cbx0_13
  have cbx0_14 := bx0_14.1
  have hz_14 := hb_14.size
  clear hb_14
  have s0_14 := recsAt_row r_14 a0_.1 (fun k _ => rfl)
  clear r_14
  go_wp2_with fail
  refine (iNeedsOf_any _ n0 _ z0 _ s0_14 hn0).mono ?_
  rw [HNN.out, HLL.out]
  rintro e w15 ⟨v_15, rfl, oo_15, hb_15⟩
  obtain ⟨A_15, c_15, rfl, _⟩ := oo_15.slice
  have d_15 := below_then d_14 hb_15
  clear d_14
  have o_15 := o_14.after hb_15
  clear o_14
  have iw_15 := iw_14.after hb_15
  clear iw_14
  have a0_15 := a0_14.after hb_15
  clear a0_14
  have bx0_15 := bx0_14.after hb_15
  clear bx0_14
  have s0_15 := s0_14.after hb_15
  clear s0_14
  clear cbx0_14
  have cbx0_15 := bx0_15.1
  have hz_15 := hb_15.size
  clear hb_15
  go_wp2_with fail
  refine (eqIntSS_same _ _ _ _ _ LL _ oo_15.recs iw_15 (by omega)).mono ?_
  rintro e w16 ⟨rfl, hb_16⟩
  have d_16 := below_then d_15 hb_16
  clear d_15
  have o_16 := o_15.after hb_16
  clear o_15
  have iw_16 := iw_15.after hb_16
  clear iw_15
  have a0_16 := a0_15.after hb_16
  clear a0_15
  have bx0_16 := bx0_15.after hb_16
  clear bx0_15
  have s0_16 := s0_15.after hb_16
  clear s0_15
  clear cbx0_15
  have cbx0_16 := bx0_16.1
  have hz_16 := hb_16.size
  clear hb_16
  go_wp2_with fail
  refine (heldIntSS_any _ _ _ 1 _ o_16 hk (by omega) (by omega)).mono ?_
  rintro e w17 ⟨rfl, rfl⟩
  go_wp2
  go_ret
  exact ⟨rfl, below_then bD d_16⟩
end Go.Proofs.Ytplabaneihjcoaa
