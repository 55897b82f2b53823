/-
  The law InMiddle: the call returns true.
-/
import Derived.Test.YtbcgckdjbabdjaaWMid
import Derived.Test.YtbcgckdjbabdjaaRThrust
import Derived.Test.YtbcgckdjbabdjaaRArch
import Derived.Test.YtbcgckdjbabdjaaRLoad
import Derived.Test.YtbcgckdjbabdjaaLawKit
namespace Go.Proofs.Ytbcgckdjbabdjaa
open Go.RowKit
set_option linter.unusedVariables false

set_option maxRecDepth 100000 in
set_option maxHeartbeats 1600000 in
theorem fnExactInMiddle.walk (A0 : Option Addr) (n0 c0 : Nat) (z0 : List Int) (hm0 : n0 ≤ maxLen) (A1 : Option Addr) (n1 c1 : Nat) (z1 : List Int) (hm1 : n1 ≤ maxLen) (p20 : Int) (hp20 : -9223372036854775808 ≤ p20) (hp20' : p20 ≤ 9223372036854775807) (p21 : Int) (hp21 : -9223372036854775808 ≤ p21) (hp21' : p21 ≤ 9223372036854775807) (p22 : Int) (hp22 : -9223372036854775808 ≤ p22) (hp22' : p22 ≤ 9223372036854775807) (p23 : Int) (hp23 : -9223372036854775808 ≤ p23) (hp23' : p23 ≤ 9223372036854775807) (q3 : Int) (hq3 : -9223372036854775808 ≤ q3) (hq3' : q3 ≤ 9223372036854775807) (w : World) (a0_ : RecsAt w w.heap.size 4 A0 n0 z0) (a1_ : RecsAt w w.heap.size 3 A1 n1 z1) :
    Calls Try.prog 7 #[.agg #[.slice A0 n0 c0], .slice A1 n1 c1, .agg #[.int .i64 p20, .int .i64 p21, .int .i64 p22, .int .i64 p23], .int .i64 q3] w fun e w' => e = .returned (.bool true) ∧ Below w.heap.size w w' := by
  have hm0' : n0 ≤ 9223372036854775807 := by unfold maxLen at hm0; omega
  have hm1' : n1 ≤ 9223372036854775807 := by unfold maxLen at hm1; omega
  have b_0 : Below w.heap.size w w := Below.refl _ _
  have a0_0 := a0_
  have a1_0 := a1_
  have hb_1 : Below w.heap.size w (w.alloc (.cells #[.slice A0 n0 c0] 24)) := (Below.refl _ _).alloc (Nat.le_refl _) _
  have b_1 := below_then b_0 hb_1
  clear b_0
  have a0_1 := a0_0.after hb_1
  clear a0_0
  have a1_1 := a1_0.after hb_1
  clear a1_0
  clear hb_1
  have bx0_1 : Box (w.alloc (.cells #[.slice A0 n0 c0] 24)) w.heap.size (.slice A0 n0 c0) := Box.new _ _ _
  have hb_2 : Below (w.alloc (.cells #[.slice A0 n0 c0] 24)).heap.size (w.alloc (.cells #[.slice A0 n0 c0] 24)) ((w.alloc (.cells #[.slice A0 n0 c0] 24)).alloc (.cells #[.int .i64 p20, .int .i64 p21, .int .i64 p22, .int .i64 p23] 56)) := (Below.refl _ _).alloc (Nat.le_refl _) _
  have b_2 := below_then b_1 hb_2
  clear b_1
  have a0_2 := a0_1.after hb_2
  clear a0_1
  have a1_2 := a1_1.after hb_2
  clear a1_1
  have bx0_2 := bx0_1.after hb_2
  clear bx0_1
  have cbx0_2 := bx0_2.1
  clear hb_2
  have bt2_2 : Box4 ((w.alloc (.cells #[.slice A0 n0 c0] 24)).alloc (.cells #[.int .i64 p20, .int .i64 p21, .int .i64 p22, .int .i64 p23] 56)) (w.alloc (.cells #[.slice A0 n0 c0] 24)).heap.size p20 p21 p22 p23 := Box4.new _ _ _ _ _ _
  simp only [World.size_alloc] at bt2_2
  have c0bt2_2 := bt2_2.1.1
  have c1bt2_2 := bt2_2.1.2.1
  have c2bt2_2 := bt2_2.1.2.2.1
  have c3bt2_2 := bt2_2.1.2.2.2
  go_enter Try.func7, Try.ntmps7
  go_wp2_with fail
  refine (sz1_any (n := n0) (by omega) (fun h => szArch_ok A0 n0 c0 _ _ (by omega) (by omega) hm0' h) (fun h => szArch_no A0 n0 c0 _ _ (by omega) (by omega) hm0' h)).mono ?_
  rintro e w3 ⟨r3, rfl, hb_3, hr3⟩
  have b_3 := below_then b_2 hb_3
  clear b_2
  have a0_3 := a0_2.after hb_3
  clear a0_2
  have a1_3 := a1_2.after hb_3
  clear a1_2
  have bx0_3 := bx0_2.after hb_3
  clear bx0_2
  have bt2_3 := bt2_2.after hb_3
  clear bt2_2
  have cbx0_3 := bx0_3.1
  clear cbx0_2
  have cbt2_3 := bt2_3.1
  clear cbt2_3
  have c0bt2_3 := bt2_3.1.1
  have c1bt2_3 := bt2_3.1.2.1
  have c2bt2_3 := bt2_3.1.2.2.1
  have c3bt2_3 := bt2_3.1.2.2.2
  clear c0bt2_2
  clear c1bt2_2
  clear c2bt2_2
  clear c3bt2_2
  clear hb_3
  rcases hr3 with rfl | hr3
  · go_wp2
    go_ret
    exact ⟨rfl, b_3⟩
  obtain ⟨hr3a, hr3b, hr3c⟩ := hr3
  have hn0 : n0 ≤ 1048576 := by omega
  have ht0 : ¬ r3 < 0 := by omega
  go_wp2_with fail
  refine (sz1_any (n := n1) (by omega) (fun h => calls_below (szLoadS_ok A1 n1 c1 _ _ (by omega) (by omega) hm1' h)) (fun h => calls_below (szLoadS_no A1 n1 c1 _ _ (by omega) (by omega) hm1' h))).mono ?_
  rintro e w4 ⟨r4, rfl, hb_4, hr4⟩
  have b_4 := below_then b_3 hb_4
  clear b_3
  have a0_4 := a0_3.after hb_4
  clear a0_3
  have a1_4 := a1_3.after hb_4
  clear a1_3
  have bx0_4 := bx0_3.after hb_4
  clear bx0_3
  have bt2_4 := bt2_3.after hb_4
  clear bt2_3
  have cbx0_4 := bx0_4.1
  clear cbx0_3
  have cbt2_4 := bt2_4.1
  clear cbt2_4
  have c0bt2_4 := bt2_4.1.1
  have c1bt2_4 := bt2_4.1.2.1
  have c2bt2_4 := bt2_4.1.2.2.1
  have c3bt2_4 := bt2_4.1.2.2.2
  clear c0bt2_3
  clear c1bt2_3
  clear c2bt2_3
  clear c3bt2_3
  clear hb_4
  rcases hr4 with rfl | hr4
  · go_wp2
    go_ret
    exact ⟨rfl, b_4⟩
  obtain ⟨hr4a, hr4b, hr4c⟩ := hr4
  have hn1 : n1 ≤ 1048576 := by omega
  have ht1 : ¬ r4 < 0 := by omega
  go_wp2_with fail
  go_region_held3 (fun w' => w'.cell? ⟨w.heap.size, 0, none⟩ = some (.slice A0 n0 c0) ∧ (w'.cell? ⟨w.heap.size + 1, 0, none⟩ = some (.int .i64 p20) ∧ w'.cell? ⟨w.heap.size + 1, 1, none⟩ = some (.int .i64 p21) ∧ w'.cell? ⟨w.heap.size + 1, 2, none⟩ = some (.int .i64 p22) ∧ w'.cell? ⟨w.heap.size + 1, 3, none⟩ = some (.int .i64 p23))) (first | exact ⟨cbx0_4, ⟨c0bt2_4, c1bt2_4, c2bt2_4, c3bt2_4⟩⟩ | exact ⟨cbx0_5, ⟨c0bt2_5, c1bt2_5, c2bt2_5, c3bt2_5⟩⟩ | exact ⟨cbx0_6, ⟨c0bt2_6, c1bt2_6, c2bt2_6, c3bt2_6⟩⟩ | exact ⟨cbx0_7, ⟨c0bt2_7, c1bt2_7, c2bt2_7, c3bt2_7⟩⟩ | exact ⟨cbx0_8, ⟨c0bt2_8, c1bt2_8, c2bt2_8, c3bt2_8⟩⟩) ((first | (go_at_call 13; refine (toArch_any A0 n0 c0 z0 _ (by exact a0_4) hn0).mono ?_; rintro e w5 ⟨g5, rfl, _, r_5, hbx5⟩; have hb_5 := below_undrew hbx5; have b_5 := below_then b_4 hb_5; clear b_4; have a0_5 := a0_4.after hb_5; clear a0_4; have a1_5 := a1_4.after hb_5; clear a1_4; have bx0_5 := bx0_4.after hb_5; clear bx0_4; have bt2_5 := bt2_4.after hb_5; clear bt2_4; have cbx0_5 := bx0_5.1; clear cbx0_4; have cbt2_5 := bt2_5.1; clear cbt2_5; have c0bt2_5 := bt2_5.1.1; have c1bt2_5 := bt2_5.1.2.1; have c2bt2_5 := bt2_5.1.2.2.1; have c3bt2_5 := bt2_5.1.2.2.2; clear c0bt2_4; clear c1bt2_4; clear c2bt2_4; clear c3bt2_4; have s0_5 := recsAt_row r_5 a0_.1 (fun k _ => rfl); clear r_5 hb_5) | (go_at_call 30; refine (toLoadS_ex A1 n1 c1 z1 _ (by exact a1_5) hn1).mono ?_; rintro e w6 ⟨g6, rfl, _, r_6, hb_6⟩; have b_6 := below_then b_5 hb_6; clear b_5; have a0_6 := a0_5.after hb_6; clear a0_5; have a1_6 := a1_5.after hb_6; clear a1_5; have bx0_6 := bx0_5.after hb_6; clear bx0_5; have bt2_6 := bt2_5.after hb_6; clear bt2_5; have s0_6 := s0_5.after hb_6; clear s0_5; have cbx0_6 := bx0_6.1; clear cbx0_5; have cbt2_6 := bt2_6.1; clear cbt2_6; have c0bt2_6 := bt2_6.1.1; have c1bt2_6 := bt2_6.1.2.1; have c2bt2_6 := bt2_6.1.2.2.1; have c3bt2_6 := bt2_6.1.2.2.2; clear c0bt2_5; clear c1bt2_5; clear c2bt2_5; clear c3bt2_5; have s1_6 := recsAt_row r_6 a1_.1 (fun k _ => rfl); clear r_6 hb_6) | (go_at_call 31; refine (toThrust_any _ _ _ _ _).mono ?_; rintro e w7 ⟨rfl, hb_7⟩; have b_7 := below_then b_6 hb_7; clear b_6; have a0_7 := a0_6.after hb_7; clear a0_6; have a1_7 := a1_6.after hb_7; clear a1_6; have bx0_7 := bx0_6.after hb_7; clear bx0_6; have bt2_7 := bt2_6.after hb_7; clear bt2_6; have s0_7 := s0_6.after hb_7; clear s0_6; have s1_7 := s1_6.after hb_7; clear s1_6; have cbx0_7 := bx0_7.1; clear cbx0_6; have cbt2_7 := bt2_7.1; clear cbt2_7; have c0bt2_7 := bt2_7.1.1; have c1bt2_7 := bt2_7.1.2.1; have c2bt2_7 := bt2_7.1.2.2.1; have c3bt2_7 := bt2_7.1.2.2.2; clear c0bt2_6; clear c1bt2_6; clear c2bt2_6; clear c3bt2_6; clear hb_7) | (go_at_call 36; refine (sMid_any _ _ _ z0 _ _ _ z1 _ _ _ _ _ _ (by exact s0_7) hn0 (by exact s1_7) hn1).mono ?_; rintro e w8 ⟨rfl, hb_8⟩; have b_8 := below_then b_7 hb_8; clear b_7; have a0_8 := a0_7.after hb_8; clear a0_7; have a1_8 := a1_7.after hb_8; clear a1_7; have bx0_8 := bx0_7.after hb_8; clear bx0_7; have bt2_8 := bt2_7.after hb_8; clear bt2_7; have s0_8 := s0_7.after hb_8; clear s0_7; have s1_8 := s1_7.after hb_8; clear s1_7; have cbx0_8 := bx0_8.1; clear cbx0_7; have cbt2_8 := bt2_8.1; clear cbt2_8; have c0bt2_8 := bt2_8.1.1; have c1bt2_8 := bt2_8.1.2.1; have c2bt2_8 := bt2_8.1.2.2.1; have c3bt2_8 := bt2_8.1.2.2.2; clear c0bt2_7; clear c1bt2_7; clear c2bt2_7; clear c3bt2_7; clear hb_8)))
  clear s0_8
  clear s1_8
  go_wp2_with fail
  refine (toArch_any A0 n0 c0 z0 _ a0_8 hn0).mono ?_
  rintro e w9 ⟨g9, rfl, _, r_9, hb_9⟩
  have b_9 := below_then b_8 hb_9
  clear b_8
  have a0_9 := a0_8.after hb_9
  clear a0_8
  have a1_9 := a1_8.after hb_9
  clear a1_8
  have bx0_9 := bx0_8.after hb_9
  clear bx0_8
  have bt2_9 := bt2_8.after hb_9
  clear bt2_8
  have cbx0_9 := bx0_9.1
  clear cbx0_8
  have cbt2_9 := bt2_9.1
  clear cbt2_9
  have c0bt2_9 := bt2_9.1.1
  have c1bt2_9 := bt2_9.1.2.1
  have c2bt2_9 := bt2_9.1.2.2.1
  have c3bt2_9 := bt2_9.1.2.2.2
  clear c0bt2_8
  clear c1bt2_8
  clear c2bt2_8
  clear c3bt2_8
  have s0_9 := recsAt_row r_9 a0_.1 (fun k _ => rfl)
  clear r_9 hb_9
  have hb_10 : Below w9.heap.size w9 (w9.alloc (.cells #[.slice (some ⟨g9, 0, none⟩) n0 n0] 31)) := (Below.refl _ _).alloc (Nat.le_refl _) _
  have b_10 := below_then b_9 hb_10
  clear b_9
  have a0_10 := a0_9.after hb_10
  clear a0_9
  have a1_10 := a1_9.after hb_10
  clear a1_9
  have bx0_10 := bx0_9.after hb_10
  clear bx0_9
  have bt2_10 := bt2_9.after hb_10
  clear bt2_9
  have s0_10 := s0_9.after hb_10
  clear s0_9
  have cbx0_10 := bx0_10.1
  clear cbx0_9
  have cbt2_10 := bt2_10.1
  clear cbt2_10
  have c0bt2_10 := bt2_10.1.1
  have c1bt2_10 := bt2_10.1.2.1
  have c2bt2_10 := bt2_10.1.2.2.1
  have c3bt2_10 := bt2_10.1.2.2.2
  clear c0bt2_9
  clear c1bt2_9
  clear c2bt2_9
  clear c3bt2_9
  clear hb_10
  have by0_10 : Box (w9.alloc (.cells #[.slice (some ⟨g9, 0, none⟩) n0 n0] 31)) w9.heap.size (.slice (some ⟨g9, 0, none⟩) n0 n0) := Box.new _ _ _
  have cby0_10 := by0_10.1
  go_wp2_with fail
  refine (toLoadS_ex A1 n1 c1 z1 _ a1_10 hn1).mono ?_
  rintro e w11 ⟨g11, rfl, _, r_11, hb_11⟩
  have b_11 := below_then b_10 hb_11
  clear b_10
  have a0_11 := a0_10.after hb_11
  clear a0_10
  have a1_11 := a1_10.after hb_11
  clear a1_10
  have bx0_11 := bx0_10.after hb_11
  clear bx0_10
  have bt2_11 := bt2_10.after hb_11
  clear bt2_10
  have s0_11 := s0_10.after hb_11
  clear s0_10
  have by0_11 := by0_10.after hb_11
  clear by0_10
  have cbx0_11 := bx0_11.1
  clear cbx0_10
  have cbt2_11 := bt2_11.1
  clear cbt2_11
  have c0bt2_11 := bt2_11.1.1
  have c1bt2_11 := bt2_11.1.2.1
  have c2bt2_11 := bt2_11.1.2.2.1
  have c3bt2_11 := bt2_11.1.2.2.2
  clear c0bt2_10
  clear c1bt2_10
  clear c2bt2_10
  clear c3bt2_10
  have cby0_11 := by0_11.1
  clear cby0_10
  have s1_11 := recsAt_row r_11 a1_.1 (fun k _ => rfl)
  clear r_11 hb_11
  go_wp2_with fail
  go_region_held3 (fun w' => w'.cell? ⟨w9.heap.size, 0, none⟩ = some (.slice (some ⟨g9, 0, none⟩) n0 n0) ∧ (w'.cell? ⟨w.heap.size + 1, 0, none⟩ = some (.int .i64 p20) ∧ w'.cell? ⟨w.heap.size + 1, 1, none⟩ = some (.int .i64 p21) ∧ w'.cell? ⟨w.heap.size + 1, 2, none⟩ = some (.int .i64 p22) ∧ w'.cell? ⟨w.heap.size + 1, 3, none⟩ = some (.int .i64 p23))) (first | exact ⟨cby0_11, ⟨c0bt2_11, c1bt2_11, c2bt2_11, c3bt2_11⟩⟩ | exact ⟨cby0_12, ⟨c0bt2_12, c1bt2_12, c2bt2_12, c3bt2_12⟩⟩ | exact ⟨cby0_13, ⟨c0bt2_13, c1bt2_13, c2bt2_13, c3bt2_13⟩⟩) ((first | (go_at_call 31; refine (toThrust_any _ _ _ _ _).mono ?_; rintro e w12 ⟨rfl, hbx12⟩; have hb_12 := below_undrew hbx12; have b_12 := below_then b_11 hb_12; clear b_11; have a0_12 := a0_11.after hb_12; clear a0_11; have a1_12 := a1_11.after hb_12; clear a1_11; have bx0_12 := bx0_11.after hb_12; clear bx0_11; have bt2_12 := bt2_11.after hb_12; clear bt2_11; have s0_12 := s0_11.after hb_12; clear s0_11; have by0_12 := by0_11.after hb_12; clear by0_11; have s1_12 := s1_11.after hb_12; clear s1_11; have cbx0_12 := bx0_12.1; clear cbx0_11; have cbt2_12 := bt2_12.1; clear cbt2_12; have c0bt2_12 := bt2_12.1.1; have c1bt2_12 := bt2_12.1.2.1; have c2bt2_12 := bt2_12.1.2.2.1; have c3bt2_12 := bt2_12.1.2.2.2; clear c0bt2_11; clear c1bt2_11; clear c2bt2_11; clear c3bt2_11; have cby0_12 := by0_12.1; clear cby0_11; clear hb_12) | (go_at_call 37; refine (iMid_any _ _ _ z0 _ _ _ z1 _ _ _ _ _ _ (by exact s0_12) hn0 (by exact s1_12) hn1).mono ?_; rintro e w13 ⟨rfl, hb_13⟩; have b_13 := below_then b_12 hb_13; clear b_12; have a0_13 := a0_12.after hb_13; clear a0_12; have a1_13 := a1_12.after hb_13; clear a1_12; have bx0_13 := bx0_12.after hb_13; clear bx0_12; have bt2_13 := bt2_12.after hb_13; clear bt2_12; have s0_13 := s0_12.after hb_13; clear s0_12; have by0_13 := by0_12.after hb_13; clear by0_12; have s1_13 := s1_12.after hb_13; clear s1_12; have cbx0_13 := bx0_13.1; clear cbx0_12; have cbt2_13 := bt2_13.1; clear cbt2_13; have c0bt2_13 := bt2_13.1.1; have c1bt2_13 := bt2_13.1.2.1; have c2bt2_13 := bt2_13.1.2.2.1; have c3bt2_13 := bt2_13.1.2.2.2; clear c0bt2_12; clear c1bt2_12; clear c2bt2_12; clear c3bt2_12; have cby0_13 := by0_13.1; clear cby0_12; clear hb_13)))
  go_wp2_with fail
  go_region_held3 (fun w' => w'.cell? ⟨w9.heap.size, 0, none⟩ = some (.slice (some ⟨g9, 0, none⟩) n0 n0) ∧ w'.cell? ⟨w.heap.size, 0, none⟩ = some (.slice A0 n0 c0)) (first | exact ⟨cby0_13, cbx0_13⟩ | exact ⟨dy0_1, dx0_1⟩ | exact ⟨dy0_2, dx0_2⟩) ((first | (go_at_call 13; refine (toArch_any A0 n0 c0 z0 _ (by exact a0_13) hn0).mono ?_; rintro e w14 ⟨g14, rfl, _, r_14, hbx14⟩; have hb_14 := below_undrew hbx14; have e0_1 := s0_13.after hb_14; have v0_1 := recsAt_row r_14 a0_.1 (fun k _ => rfl); have dy0_1 := (by0_13.after hb_14).1; have dx0_1 := (bx0_13.after hb_14).1) | (go_at_call 17; refine (eqArch_same _ _ _ _ _ z0 _ (by exact e0_1) (by exact v0_1) hn0).mono ?_; rintro e w15 ⟨rfl, hb_15⟩; have dy0_2 := ((by0_13.after hb_14).after hb_15).1; have dx0_2 := ((bx0_13.after hb_14).after hb_15).1)))
  have b_14 := below_then b_13 hb_14
  clear b_13
  have a0_14 := a0_13.after hb_14
  clear a0_13
  have a1_14 := a1_13.after hb_14
  clear a1_13
  have bx0_14 := bx0_13.after hb_14
  clear bx0_13
  have bt2_14 := bt2_13.after hb_14
  clear bt2_13
  have s0_14 := s0_13.after hb_14
  clear s0_13
  have by0_14 := by0_13.after hb_14
  clear by0_13
  have s1_14 := s1_13.after hb_14
  clear s1_13
  have cbx0_14 := bx0_14.1
  clear cbx0_13
  have cbt2_14 := bt2_14.1
  clear cbt2_14
  have c0bt2_14 := bt2_14.1.1
  have c1bt2_14 := bt2_14.1.2.1
  have c2bt2_14 := bt2_14.1.2.2.1
  have c3bt2_14 := bt2_14.1.2.2.2
  clear c0bt2_13
  clear c1bt2_13
  clear c2bt2_13
  clear c3bt2_13
  have cby0_14 := by0_14.1
  clear cby0_13
  have b_15 := below_then b_14 hb_15
  clear b_14
  have a0_15 := a0_14.after hb_15
  clear a0_14
  have a1_15 := a1_14.after hb_15
  clear a1_14
  have bx0_15 := bx0_14.after hb_15
  clear bx0_14
  have bt2_15 := bt2_14.after hb_15
  clear bt2_14
  have s0_15 := s0_14.after hb_15
  clear s0_14
  have by0_15 := by0_14.after hb_15
  clear by0_14
  have s1_15 := s1_14.after hb_15
  clear s1_14
  have cbx0_15 := bx0_15.1
  clear cbx0_14
  have cbt2_15 := bt2_15.1
  clear cbt2_15
  have c0bt2_15 := bt2_15.1.1
  have c1bt2_15 := bt2_15.1.2.1
  have c2bt2_15 := bt2_15.1.2.2.1
  have c3bt2_15 := bt2_15.1.2.2.2
  clear c0bt2_14
  clear c1bt2_14
  clear c2bt2_14
  clear c3bt2_14
  have cby0_15 := by0_15.1
  clear cby0_14
  clear hb_14 hb_15
  go_wp2_with fail
  refine (toLoadS_ex A1 n1 c1 z1 _ a1_15 hn1).mono ?_
  rintro e w16 ⟨g16, rfl, _, r_16, hb_16⟩
  have b_16 := below_then b_15 hb_16
  clear b_15
  have a0_16 := a0_15.after hb_16
  clear a0_15
  have a1_16 := a1_15.after hb_16
  clear a1_15
  have bx0_16 := bx0_15.after hb_16
  clear bx0_15
  have bt2_16 := bt2_15.after hb_16
  clear bt2_15
  have s0_16 := s0_15.after hb_16
  clear s0_15
  have by0_16 := by0_15.after hb_16
  clear by0_15
  have s1_16 := s1_15.after hb_16
  clear s1_15
  have cbx0_16 := bx0_16.1
  clear cbx0_15
  have cbt2_16 := bt2_16.1
  clear cbt2_16
  have c0bt2_16 := bt2_16.1.1
  have c1bt2_16 := bt2_16.1.2.1
  have c2bt2_16 := bt2_16.1.2.2.1
  have c3bt2_16 := bt2_16.1.2.2.2
  clear c0bt2_15
  clear c1bt2_15
  clear c2bt2_15
  clear c3bt2_15
  have cby0_16 := by0_16.1
  clear cby0_15
  have t1_16 := recsAt_row r_16 a1_.1 (fun k _ => rfl)
  clear r_16 hb_16
  go_wp2_with fail
  refine (eqLoadS_same _ _ _ _ _ z1 _ s1_16 t1_16 hn1).mono ?_
  rintro e w17 ⟨rfl, hb_17⟩
  have b_17 := below_then b_16 hb_17
  clear b_16
  have a0_17 := a0_16.after hb_17
  clear a0_16
  have a1_17 := a1_16.after hb_17
  clear a1_16
  have bx0_17 := bx0_16.after hb_17
  clear bx0_16
  have bt2_17 := bt2_16.after hb_17
  clear bt2_16
  have s0_17 := s0_16.after hb_17
  clear s0_16
  have by0_17 := by0_16.after hb_17
  clear by0_16
  have s1_17 := s1_16.after hb_17
  clear s1_16
  have t1_17 := t1_16.after hb_17
  clear t1_16
  have cbx0_17 := bx0_17.1
  clear cbx0_16
  have cbt2_17 := bt2_17.1
  clear cbt2_17
  have c0bt2_17 := bt2_17.1.1
  have c1bt2_17 := bt2_17.1.2.1
  have c2bt2_17 := bt2_17.1.2.2.1
  have c3bt2_17 := bt2_17.1.2.2.2
  clear c0bt2_16
  clear c1bt2_16
  clear c2bt2_16
  clear c3bt2_16
  have cby0_17 := by0_17.1
  clear cby0_16
  clear hb_17
  go_wp2
  go_ret
  exact ⟨rfl, b_17⟩
end Go.Proofs.Ytbcgckdjbabdjaa
