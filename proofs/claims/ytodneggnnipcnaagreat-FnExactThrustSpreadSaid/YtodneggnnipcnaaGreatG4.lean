/-
  Texts that the law stands on, part 4.
-/
import Derived.Test.YtodneggnnipcnaaGreatG1
import Derived.Test.YtodneggnnipcnaaGreatG3
import Derived.Test.YtodneggnnipcnaaGreatC19
import Derived.Test.YtodneggnnipcnaaGreatC21
import Derived.Test.YtodneggnnipcnaaGreatC22
set_option maxRecDepth 100000
set_option linter.unusedVariables false
set_option linter.unusedSimpArgs false
namespace Go.Proofs.YtodneggnnipcnaaGreat
namespace X
open Go.RowKit
set_option maxRecDepth 100000 in
set_option maxHeartbeats 1600000 in
theorem fnExactThrustSpread.walk (A0 : Option Addr) (n0 c0 : Nat) (z0 : List Int) (hm0 : n0 ≤ maxLen) (A1 : Option Addr) (n1 c1 : Nat) (z1 : List Int) (hm1 : n1 ≤ maxLen) (w : World) (a0_ : RecsAt w w.heap.size 4 A0 n0 z0) (a1_ : RecsAt w w.heap.size 3 A1 n1 z1) :
  Calls Tryzx.prog 3 #[.agg #[.slice A0 n0 c0], .slice A1 n1 c1] w fun e w' => e = .returned (.bool true) ∧ Below w.heap.size w w' := by
 have hm0' : n0 ≤ 9223372036854775807 := by unfold maxLen at hm0; omega
 have hm1' : n1 ≤ 9223372036854775807 := by unfold maxLen at hm1; omega
 obtain ⟨p0, p1, p2, p3, b1, hE1, hT1⟩ := end_thr (lstB z0 n0 z1 n1) (-1) z0 n0 z1 n1 lst_pos;obtain ⟨q0, q1, q2, q3, b2, hE2, hT2⟩ := end_thr (grtB z0 n0 z1 n1) 1 z0 n0 z1 n1 grt_pos;obtain ⟨tx, ty, tb, hE⟩ := sprV_ex p0 p3 q0 q3 b1 b2;have htx : (tx != tx) = false := by simp
 have hty : (ty != ty) = false := by simp
 have htb : (tb != tb) = false := by cases tb <;> rfl
 have b_0 : Below w.heap.size w w := Below.refl _ _;have a0_0 := a0_;have a1_0 := a1_;have hb_1 : Below w.heap.size w (w.alloc (.cells #[.slice A0 n0 c0] 24)) := (Below.refl _ _).alloc (Nat.le_refl _) _;have b_1 := below_then b_0 hb_1;clear b_0;have a0_1 := a0_0.after hb_1;clear a0_0;have a1_1 := a1_0.after hb_1;clear a1_0;clear hb_1;have bx0_1 : Box (w.alloc (.cells #[.slice A0 n0 c0] 24)) w.heap.size (.slice A0 n0 c0) := Box.new _ _ _;go_enter Tryzx.func3, Tryz.ntmps3;go_wp2_with fail
 refine (sz1_any (n := n0) (by omega) (fun h => szArch_ok A0 n0 c0 _ _ (by omega) (by omega) hm0' h) (fun h => szArch_no A0 n0 c0 _ _ (by omega) (by omega) hm0' h)).mono ?_
 rintro e w2 ⟨r2, rfl, hb_2, hr2⟩;have b_2 := below_then b_1 hb_2;clear b_1;have a0_2 := a0_1.after hb_2;clear a0_1;have a1_2 := a1_1.after hb_2;clear a1_1;have bx0_2 := bx0_1.after hb_2;clear bx0_1;have cbx0_2 := bx0_2.1;clear hb_2;rcases hr2 with rfl | hr2
 ·go_wp2
  go_ret;exact ⟨rfl, b_2⟩
 obtain ⟨hr2a, hr2b, hr2c⟩ := hr2;have hn0 : n0 ≤ 1048576 := by omega
 have ht0 : ¬ r2 < 0 := by omega
 go_wp2_with fail
 refine (sz1_any (n := n1) (by omega) (fun h => calls_below (szLoadS_ok A1 n1 c1 _ _ (by omega) (by omega) hm1' h)) (fun h => calls_below (szLoadS_no A1 n1 c1 _ _ (by omega) (by omega) hm1' h))).mono ?_
 rintro e w3 ⟨r3, rfl, hb_3, hr3⟩;have b_3 := below_then b_2 hb_3;clear b_2;have a0_3 := a0_2.after hb_3;clear a0_2;have a1_3 := a1_2.after hb_3;clear a1_2;have bx0_3 := bx0_2.after hb_3;clear bx0_2;have cbx0_3 := bx0_3.1;clear cbx0_2;clear hb_3;rcases hr3 with rfl | hr3
 ·go_wp2
  go_ret;exact ⟨rfl, b_3⟩
 obtain ⟨hr3a, hr3b, hr3c⟩ := hr3;have hn1 : n1 ≤ 1048576 := by omega
 have ht1 : ¬ r3 < 0 := by omega
 go_wp2_with fail
 refine (toArch_any A0 n0 c0 z0 _ a0_3 hn0).mono ?_;rintro e w4 ⟨g4, rfl, _, r_4, hb_4⟩;have b_4 := below_then b_3 hb_4;clear b_3;have a0_4 := a0_3.after hb_4;clear a0_3;have a1_4 := a1_3.after hb_4;clear a1_3;have bx0_4 := bx0_3.after hb_4;clear bx0_3;have cbx0_4 := bx0_4.1;clear cbx0_3;have s0_4 := recsAt_row r_4 a0_.1 (fun k _ => rfl)
 clear r_4 hb_4;go_wp2_with fail
 refine (toLoadS_ex A1 n1 c1 z1 _ a1_4 hn1).mono ?_;rintro e w5 ⟨g5, rfl, _, r_5, hb_5⟩;have b_5 := below_then b_4 hb_5;clear b_4;have a0_5 := a0_4.after hb_5;clear a0_4;have a1_5 := a1_4.after hb_5;clear a1_4;have bx0_5 := bx0_4.after hb_5;clear bx0_4;have s0_5 := s0_4.after hb_5;clear s0_4;have cbx0_5 := bx0_5.1;clear cbx0_4;have s1_5 := recsAt_row r_5 a1_.1 (fun k _ => rfl)
 clear r_5 hb_5;go_wp2_with fail
 refine ((sSpread_any _ _ _ z0 _ _ _ z1 _ (by exact s0_5) hn0 (by exact s1_5) hn1 p0 p1 p2 p3 q0 q1 q2 q3 b1 b2 hE1 hE2 hT1 hT2).mono fun e w h => sprV_at hE h).mono ?_
 rintro e w6 ⟨rfl, hb_6⟩;have b_6 := below_then b_5 hb_6;clear b_5;have a0_6 := a0_5.after hb_6;clear a0_5;have a1_6 := a1_5.after hb_6;clear a1_5;have bx0_6 := bx0_5.after hb_6;clear bx0_5;have s0_6 := s0_5.after hb_6;clear s0_5;have s1_6 := s1_5.after hb_6;clear s1_5;have cbx0_6 := bx0_6.1;clear cbx0_5;clear hb_6;clear s0_6;clear s1_6;go_wp2_with fail
 refine (toArch_any A0 n0 c0 z0 _ a0_6 hn0).mono ?_;rintro e w7 ⟨g7, rfl, _, r_7, hb_7⟩;have b_7 := below_then b_6 hb_7;clear b_6;have a0_7 := a0_6.after hb_7;clear a0_6;have a1_7 := a1_6.after hb_7;clear a1_6;have bx0_7 := bx0_6.after hb_7;clear bx0_6;have cbx0_7 := bx0_7.1;clear cbx0_6;have s0_7 := recsAt_row r_7 a0_.1 (fun k _ => rfl)
 clear r_7 hb_7;have hb_8 : Below w7.heap.size w7 (w7.alloc (.cells #[.slice (some ⟨g7, 0, none⟩) n0 n0] 32)) := (Below.refl _ _).alloc (Nat.le_refl _) _;have b_8 := below_then b_7 hb_8;clear b_7;have a0_8 := a0_7.after hb_8;clear a0_7;have a1_8 := a1_7.after hb_8;clear a1_7;have bx0_8 := bx0_7.after hb_8;clear bx0_7;have s0_8 := s0_7.after hb_8;clear s0_7;have cbx0_8 := bx0_8.1;clear cbx0_7;clear hb_8;have by0_8 : Box (w7.alloc (.cells #[.slice (some ⟨g7, 0, none⟩) n0 n0] 32)) w7.heap.size (.slice (some ⟨g7, 0, none⟩) n0 n0) := Box.new _ _ _;have cby0_8 := by0_8.1;go_wp2_with fail
 refine (toLoadS_ex A1 n1 c1 z1 _ a1_8 hn1).mono ?_;rintro e w9 ⟨g9, rfl, _, r_9, hb_9⟩;have b_9 := below_then b_8 hb_9;clear b_8;have a0_9 := a0_8.after hb_9;clear a0_8;have a1_9 := a1_8.after hb_9;clear a1_8;have bx0_9 := bx0_8.after hb_9;clear bx0_8;have s0_9 := s0_8.after hb_9;clear s0_8;have by0_9 := by0_8.after hb_9;clear by0_8;have cbx0_9 := bx0_9.1;clear cbx0_8;have cby0_9 := by0_9.1;clear cby0_8;have s1_9 := recsAt_row r_9 a1_.1 (fun k _ => rfl)
 clear r_9 hb_9;go_wp2_with fail
 refine ((iSpread_any _ _ _ z0 _ _ _ z1 _ (by exact s0_9) hn0 (by exact s1_9) hn1 p0 p1 p2 p3 q0 q1 q2 q3 b1 b2 hE1 hE2 hT1 hT2).mono fun e w h => sprV_at hE h).mono ?_
 rintro e w10 ⟨rfl, hb_10⟩;have b_10 := below_then b_9 hb_10;clear b_9;have a0_10 := a0_9.after hb_10;clear a0_9;have a1_10 := a1_9.after hb_10;clear a1_9;have bx0_10 := bx0_9.after hb_10;clear bx0_9;have s0_10 := s0_9.after hb_10;clear s0_9;have by0_10 := by0_9.after hb_10;clear by0_9;have s1_10 := s1_9.after hb_10;clear s1_9;have cbx0_10 := bx0_10.1;clear cbx0_9;have cby0_10 := by0_10.1;clear cby0_9;clear hb_10;go_wp2_with fail
 go_region_held3 (fun w' => w'.cell? ⟨w7.heap.size, 0, none⟩ = some (.slice (some ⟨g7, 0, none⟩) n0 n0) ∧ w'.cell? ⟨w.heap.size, 0, none⟩ = some (.slice A0 n0 c0)) (first | exact ⟨cby0_10, cbx0_10⟩ | exact ⟨dy0_1, dx0_1⟩ | exact ⟨dy0_2, dx0_2⟩) ((first | (go_at_call 12; refine (toArch_any A0 n0 c0 z0 _ (by exact a0_10) hn0).mono ?_; rintro e w11 ⟨g11, rfl, _, r_11, hbx11⟩; have hb_11 := below_undrew hbx11; have e0_1 := s0_10.after hb_11; have v0_1 := recsAt_row r_11 a0_.1 (fun k _ => rfl); have dy0_1 := (by0_10.after hb_11).1; have dx0_1 := (bx0_10.after hb_11).1) | (go_at_call 15; refine (eqArch_same _ _ _ _ _ z0 _ (by exact e0_1) (by exact v0_1) hn0).mono ?_; rintro e w12 ⟨rfl, hb_12⟩; have dy0_2 := ((by0_10.after hb_11).after hb_12).1; have dx0_2 := ((bx0_10.after hb_11).after hb_12).1)))
 have b_11 := below_then b_10 hb_11;clear b_10;have a0_11 := a0_10.after hb_11;clear a0_10;have a1_11 := a1_10.after hb_11;clear a1_10;have bx0_11 := bx0_10.after hb_11;clear bx0_10;have s0_11 := s0_10.after hb_11;clear s0_10;have by0_11 := by0_10.after hb_11;clear by0_10;have s1_11 := s1_10.after hb_11;clear s1_10;have cbx0_11 := bx0_11.1;clear cbx0_10;have cby0_11 := by0_11.1;clear cby0_10;have b_12 := below_then b_11 hb_12;clear b_11;have a0_12 := a0_11.after hb_12;clear a0_11;have a1_12 := a1_11.after hb_12;clear a1_11;have bx0_12 := bx0_11.after hb_12;clear bx0_11;have s0_12 := s0_11.after hb_12;clear s0_11;have by0_12 := by0_11.after hb_12;clear by0_11;have s1_12 := s1_11.after hb_12;clear s1_11;have cbx0_12 := bx0_12.1;clear cbx0_11;have cby0_12 := by0_12.1;clear cby0_11;clear hb_11 hb_12;go_wp2_with fail
 refine (toLoadS_ex A1 n1 c1 z1 _ a1_12 hn1).mono ?_;rintro e w13 ⟨g13, rfl, _, r_13, hb_13⟩;have b_13 := below_then b_12 hb_13;clear b_12;have a0_13 := a0_12.after hb_13;clear a0_12;have a1_13 := a1_12.after hb_13;clear a1_12;have bx0_13 := bx0_12.after hb_13;clear bx0_12;have s0_13 := s0_12.after hb_13;clear s0_12;have by0_13 := by0_12.after hb_13;clear by0_12;have s1_13 := s1_12.after hb_13;clear s1_12;have cbx0_13 := bx0_13.1;clear cbx0_12;have cby0_13 := by0_13.1;clear cby0_12;have t1_13 := recsAt_row r_13 a1_.1 (fun k _ => rfl)
 clear r_13 hb_13;go_wp2_with fail
 refine (eqLoadS_same _ _ _ _ _ z1 _ s1_13 t1_13 hn1).mono ?_;rintro e w14 ⟨rfl, hb_14⟩;have b_14 := below_then b_13 hb_14;clear b_13;have a0_14 := a0_13.after hb_14;clear a0_13;have a1_14 := a1_13.after hb_14;clear a1_13;have bx0_14 := bx0_13.after hb_14;clear bx0_13;have s0_14 := s0_13.after hb_14;clear s0_13;have by0_14 := by0_13.after hb_14;clear by0_13;have s1_14 := s1_13.after hb_14;clear s1_13;have t1_14 := t1_13.after hb_14;clear t1_13;have cbx0_14 := bx0_14.1;clear cbx0_13;have cby0_14 := by0_14.1;clear cby0_13;clear hb_14;go_wp2;go_ret;exact ⟨rfl, b_14⟩
end X
end Go.Proofs.YtodneggnnipcnaaGreat
