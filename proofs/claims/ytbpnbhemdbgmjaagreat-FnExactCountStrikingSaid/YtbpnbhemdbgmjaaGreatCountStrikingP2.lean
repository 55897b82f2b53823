/-
  Texts that the law stands on, part 2.
-/
import Derived.Test.YtbpnbhemdbgmjaaGreatCountStrikingP1
import Derived.Test.YtbpnbhemdbgmjaaGreatC19
import Derived.Test.YtbpnbhemdbgmjaaGreatC22
import Derived.Test.YtbpnbhemdbgmjaaGreatC24
import Derived.Test.YtbpnbhemdbgmjaaGreatF1
set_option maxRecDepth 100000
set_option linter.unusedVariables false
set_option linter.unusedSimpArgs false
namespace Go.Proofs.YtbpnbhemdbgmjaaGreat
namespace X
open Go.RowKit
set_option maxRecDepth 100000 in
set_option maxHeartbeats 1600000 in
theorem fnExactCountStriking.walk (A0 : Option Addr) (n0 c0 : Nat) (z0 : List Int) (hm0 : n0 ≤ maxLen) (w : World) (a0_ : RecsAt w w.heap.size 4 A0 n0 z0) :
  Calls Tryzx.prog 9 #[.agg #[.slice A0 n0 c0]] w fun e w' => e = .returned (.bool true) ∧ Below w.heap.size w w' := by
 have hm0' : n0 ≤ 9223372036854775807 := by unfold maxLen at hm0; omega
 have b_0 : Below w.heap.size w w := Below.refl _ _
 have a0_0 := a0_
 have hb_1 : Below w.heap.size w (w.alloc (.cells #[.slice A0 n0 c0] 49)) := (Below.refl _ _).alloc (Nat.le_refl _) _
 have b_1 := below_then b_0 hb_1
 clear b_0
 have a0_1 := a0_0.after hb_1
 clear a0_0
 clear hb_1
 have bx0_1 : Box (w.alloc (.cells #[.slice A0 n0 c0] 49)) w.heap.size (.slice A0 n0 c0) := Box.new _ _ _
 go_enter Tryzx.func9, Tryz.ntmps9
 go_wp2_with fail
 refine (sz1_any (n := n0) (by omega) (fun h => szArch_ok A0 n0 c0 _ _ (by omega) (by omega) hm0' h) (fun h => szArch_no A0 n0 c0 _ _ (by omega) (by omega) hm0' h)).mono ?_
 rintro e w2 ⟨r2, rfl, hb_2, hr2⟩
 have b_2 := below_then b_1 hb_2
 clear b_1
 have a0_2 := a0_1.after hb_2
 clear a0_1
 have bx0_2 := bx0_1.after hb_2
 clear bx0_1
 have cbx0_2 := bx0_2.1
 clear hb_2
 rcases hr2 with rfl | hr2
 ·go_wp2
  go_ret
  exact ⟨rfl, b_2⟩
 obtain ⟨hr2a, hr2b, hr2c⟩ := hr2
 have hn0 : n0 ≤ 1048576 := by omega
 have ht0 : ¬ r2 < 0 := by omega
 go_wp2_with fail
 refine (toArch_any A0 n0 c0 z0 _ a0_2 hn0).mono ?_
 rintro e w3 ⟨g3, rfl, _, r_3, hb_3⟩
 have b_3 := below_then b_2 hb_3
 clear b_2
 have a0_3 := a0_2.after hb_3
 clear a0_2
 have bx0_3 := bx0_2.after hb_3
 clear bx0_2
 have cbx0_3 := bx0_3.1
 clear cbx0_2
 have s0_3 := recsAt_row r_3 a0_.1 (fun k _ => rfl)
 clear r_3 hb_3
 go_wp2_with fail
 refine (sCntStr_any _ _ _ z0 _ (by exact s0_3) hn0).mono ?_
 rintro e w4 ⟨rfl, hb_4⟩
 have b_4 := below_then b_3 hb_4
 clear b_3
 have a0_4 := a0_3.after hb_4
 clear a0_3
 have bx0_4 := bx0_3.after hb_4
 clear bx0_3
 have s0_4 := s0_3.after hb_4
 clear s0_3
 have cbx0_4 := bx0_4.1
 clear cbx0_3
 clear hb_4
 clear s0_4
 go_wp2_with fail
 refine (toArch_any A0 n0 c0 z0 _ a0_4 hn0).mono ?_
 rintro e w5 ⟨g5, rfl, _, r_5, hb_5⟩
 have b_5 := below_then b_4 hb_5
 clear b_4
 have a0_5 := a0_4.after hb_5
 clear a0_4
 have bx0_5 := bx0_4.after hb_5
 clear bx0_4
 have cbx0_5 := bx0_5.1
 clear cbx0_4
 have s0_5 := recsAt_row r_5 a0_.1 (fun k _ => rfl)
 clear r_5 hb_5
 have hb_6 : Below w5.heap.size w5 (w5.alloc (.cells #[.slice (some ⟨g5, 0, none⟩) n0 n0] 26)) := (Below.refl _ _).alloc (Nat.le_refl _) _
 have b_6 := below_then b_5 hb_6
 clear b_5
 have a0_6 := a0_5.after hb_6
 clear a0_5
 have bx0_6 := bx0_5.after hb_6
 clear bx0_5
 have s0_6 := s0_5.after hb_6
 clear s0_5
 have cbx0_6 := bx0_6.1
 clear cbx0_5
 clear hb_6
 have by0_6 : Box (w5.alloc (.cells #[.slice (some ⟨g5, 0, none⟩) n0 n0] 26)) w5.heap.size (.slice (some ⟨g5, 0, none⟩) n0 n0) := Box.new _ _ _
 have cby0_6 := by0_6.1
 go_wp2_with fail
 refine (iCntStr_any _ _ _ z0 _ (by exact s0_6) hn0).mono ?_
 rintro e w7 ⟨rfl, hb_7⟩
 have b_7 := below_then b_6 hb_7
 clear b_6
 have a0_7 := a0_6.after hb_7
 clear a0_6
 have bx0_7 := bx0_6.after hb_7
 clear bx0_6
 have s0_7 := s0_6.after hb_7
 clear s0_6
 have by0_7 := by0_6.after hb_7
 clear by0_6
 have cbx0_7 := bx0_7.1
 clear cbx0_6
 have cby0_7 := by0_7.1
 clear cby0_6
 clear hb_7
 go_wp2_with fail
 go_region_held3 (fun w' => w'.cell? ⟨w5.heap.size, 0, none⟩ = some (.slice (some ⟨g5, 0, none⟩) n0 n0) ∧ w'.cell? ⟨w.heap.size, 0, none⟩ = some (.slice A0 n0 c0)) (first | exact ⟨cby0_7, cbx0_7⟩ | exact ⟨dy0_1, dx0_1⟩ | exact ⟨dy0_2, dx0_2⟩) ((first | (go_at_call 28; refine (toArch_any A0 n0 c0 z0 _ (by exact a0_7) hn0).mono ?_; rintro e w8 ⟨g8, rfl, _, r_8, hbx8⟩; have hb_8 := below_undrew hbx8; have e0_1 := s0_7.after hb_8; have v0_1 := recsAt_row r_8 a0_.1 (fun k _ => rfl); have dy0_1 := (by0_7.after hb_8).1; have dx0_1 := (bx0_7.after hb_8).1) | (go_at_call 30; refine (eqArch_same _ _ _ _ _ z0 _ (by exact e0_1) (by exact v0_1) hn0).mono ?_; rintro e w9 ⟨rfl, hb_9⟩; have dy0_2 := ((by0_7.after hb_8).after hb_9).1; have dx0_2 := ((bx0_7.after hb_8).after hb_9).1)))
 have b_8 := below_then b_7 hb_8
 clear b_7
 have a0_8 := a0_7.after hb_8
 clear a0_7
 have bx0_8 := bx0_7.after hb_8
 clear bx0_7
 have s0_8 := s0_7.after hb_8
 clear s0_7
 have by0_8 := by0_7.after hb_8
 clear by0_7
 have cbx0_8 := bx0_8.1
 clear cbx0_7
 have cby0_8 := by0_8.1
 clear cby0_7
 have b_9 := below_then b_8 hb_9
 clear b_8
 have a0_9 := a0_8.after hb_9
 clear a0_8
 have bx0_9 := bx0_8.after hb_9
 clear bx0_8
 have s0_9 := s0_8.after hb_9
 clear s0_8
 have by0_9 := by0_8.after hb_9
 clear by0_8
 have cbx0_9 := bx0_9.1
 clear cbx0_8
 have cby0_9 := by0_9.1
 clear cby0_8
 clear hb_8 hb_9
 go_wp2
 go_ret
 exact ⟨rfl, b_9⟩
end X
end Go.Proofs.YtbpnbhemdbgmjaaGreat
