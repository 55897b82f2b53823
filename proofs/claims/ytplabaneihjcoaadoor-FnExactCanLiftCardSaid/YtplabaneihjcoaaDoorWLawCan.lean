/-
  The law CanLift: the call returns true.
-/
import Derived.Test.YtplabaneihjcoaaDoorWIs
import Derived.Test.YtplabaneihjcoaaDoorRLift
import Derived.Test.YtplabaneihjcoaaDoorRStone
import Derived.Test.YtplabaneihjcoaaDoorLawKit
namespace Go.Proofs.YtplabaneihjcoaaDoor
open Go.RowKit
set_option linter.unusedVariables false

set_option maxRecDepth 100000 in
set_option maxHeartbeats 1600000 in
theorem fnExactCanLift.walk (p00 : Int) (hp00 : -9223372036854775808 ≤ p00) (hp00' : p00 ≤ 9223372036854775807) (p01 : Int) (hp01 : -9223372036854775808 ≤ p01) (hp01' : p01 ≤ 9223372036854775807) (p02 : Int) (hp02 : -9223372036854775808 ≤ p02) (hp02' : p02 ≤ 9223372036854775807) (A1 : Option Addr) (n1 c1 : Nat) (z1 : List Int) (hm1 : n1 ≤ maxLen) (EV : Addr) (w : World) (a1_ : RecsAt w w.heap.size 2 A1 n1 z1) (t9_ : ErrAt w 100 (.pointer (some EV))) :
    Calls Tryd.prog 4 #[.agg #[.int .i64 p00, .int .i64 p01, .int .i64 p02], .agg #[.slice A1 n1 c1]] w fun e w' => e = .returned (.bool true) ∧ Below w.heap.size w w' := by
  have hm1' : n1 ≤ 9223372036854775807 := by unfold maxLen at hm1; omega
  have b_0 : Below w.heap.size w w := Below.refl _ _
  have a1_0 := a1_
  have t9_0 := t9_
  have hb_1 : Below w.heap.size w (w.alloc (.cells #[.int .i64 p00, .int .i64 p01, .int .i64 p02] 25)) := (Below.refl _ _).alloc (Nat.le_refl _) _
  have b_1 := below_then b_0 hb_1
  clear b_0
  have a1_1 := a1_0.after hb_1
  clear a1_0
  have t9_1 := t9_0.after hb_1
  clear t9_0
  clear hb_1
  have bt0_1 : Box3 (w.alloc (.cells #[.int .i64 p00, .int .i64 p01, .int .i64 p02] 25)) w.heap.size p00 p01 p02 := Box3.new _ _ _ _ _
  have c0bt0_1 := bt0_1.1.1
  have c1bt0_1 := bt0_1.1.2.1
  have c2bt0_1 := bt0_1.1.2.2
  have hb_2 : Below (w.alloc (.cells #[.int .i64 p00, .int .i64 p01, .int .i64 p02] 25)).heap.size (w.alloc (.cells #[.int .i64 p00, .int .i64 p01, .int .i64 p02] 25)) ((w.alloc (.cells #[.int .i64 p00, .int .i64 p01, .int .i64 p02] 25)).alloc (.cells #[.slice A1 n1 c1] 28)) := (Below.refl _ _).alloc (Nat.le_refl _) _
  have b_2 := below_then b_1 hb_2
  clear b_1
  have a1_2 := a1_1.after hb_2
  clear a1_1
  have t9_2 := t9_1.after hb_2
  clear t9_1
  have bt0_2 := bt0_1.after hb_2
  clear bt0_1
  have cbt0_2 := bt0_2.1
  clear cbt0_2
  have c0bt0_2 := bt0_2.1.1
  have c1bt0_2 := bt0_2.1.2.1
  have c2bt0_2 := bt0_2.1.2.2
  clear c0bt0_1
  clear c1bt0_1
  clear c2bt0_1
  clear hb_2
  have bx1_2 : Box ((w.alloc (.cells #[.int .i64 p00, .int .i64 p01, .int .i64 p02] 25)).alloc (.cells #[.slice A1 n1 c1] 28)) (w.alloc (.cells #[.int .i64 p00, .int .i64 p01, .int .i64 p02] 25)).heap.size (.slice A1 n1 c1) := Box.new _ _ _
  simp only [World.size_alloc] at bx1_2
  go_enter Tryd.func4, Tryd.ntmps4
  go_wp2_with fail
  refine (sz1_any (n := n1) (by omega) (fun h => szStone_ok A1 n1 c1 _ _ (by omega) (by omega) hm1' h) (fun h => szStone_no A1 n1 c1 _ _ (by omega) (by omega) hm1' h)).mono ?_
  rintro e w3 ⟨r3, rfl, hb_3, hr3⟩
  have b_3 := below_then b_2 hb_3
  clear b_2
  have a1_3 := a1_2.after hb_3
  clear a1_2
  have t9_3 := t9_2.after hb_3
  clear t9_2
  have bt0_3 := bt0_2.after hb_3
  clear bt0_2
  have bx1_3 := bx1_2.after hb_3
  clear bx1_2
  have cbt0_3 := bt0_3.1
  clear cbt0_3
  have c0bt0_3 := bt0_3.1.1
  have c1bt0_3 := bt0_3.1.2.1
  have c2bt0_3 := bt0_3.1.2.2
  clear c0bt0_2
  clear c1bt0_2
  clear c2bt0_2
  have cbx1_3 := bx1_3.1
  clear hb_3
  rcases hr3 with rfl | hr3
  · go_wp2
    go_ret
    exact ⟨rfl, b_3⟩
  obtain ⟨hr3a, hr3b, hr3c⟩ := hr3
  have hn1 : n1 ≤ 1048576 := by omega
  have ht1 : ¬ r3 < 0 := by omega
  go_wp2_with fail
  go_region_held3 (fun w' => (w'.cell? ⟨w.heap.size, 0, none⟩ = some (.int .i64 p00) ∧ w'.cell? ⟨w.heap.size, 1, none⟩ = some (.int .i64 p01) ∧ w'.cell? ⟨w.heap.size, 2, none⟩ = some (.int .i64 p02)) ∧ w'.cell? ⟨w.heap.size + 1, 0, none⟩ = some (.slice A1 n1 c1)) (first | exact ⟨⟨c0bt0_3, c1bt0_3, c2bt0_3⟩, cbx1_3⟩ | exact ⟨⟨c0bt0_4, c1bt0_4, c2bt0_4⟩, cbx1_4⟩ | exact ⟨⟨c0bt0_5, c1bt0_5, c2bt0_5⟩, cbx1_5⟩ | exact ⟨⟨c0bt0_6, c1bt0_6, c2bt0_6⟩, cbx1_6⟩) ((first | (go_at_call 10; refine (toLift_any _ _ _ _).mono ?_; rintro e w4 ⟨rfl, hbx4⟩; have hb_4 := below_undrew hbx4; have b_4 := below_then b_3 hb_4; clear b_3; have a1_4 := a1_3.after hb_4; clear a1_3; have t9_4 := t9_3.after hb_4; clear t9_3; have bt0_4 := bt0_3.after hb_4; clear bt0_3; have bx1_4 := bx1_3.after hb_4; clear bx1_3; have cbt0_4 := bt0_4.1; clear cbt0_4; have c0bt0_4 := bt0_4.1.1; have c1bt0_4 := bt0_4.1.2.1; have c2bt0_4 := bt0_4.1.2.2; clear c0bt0_3; clear c1bt0_3; clear c2bt0_3; have cbx1_4 := bx1_4.1; clear cbx1_3; clear hb_4) | (go_at_call 11; refine (toStone_any A1 n1 c1 z1 _ (by exact a1_4) hn1).mono ?_; rintro e w5 ⟨g5, rfl, _, r_5, hb_5⟩; have b_5 := below_then b_4 hb_5; clear b_4; have a1_5 := a1_4.after hb_5; clear a1_4; have t9_5 := t9_4.after hb_5; clear t9_4; have bt0_5 := bt0_4.after hb_5; clear bt0_4; have bx1_5 := bx1_4.after hb_5; clear bx1_4; have cbt0_5 := bt0_5.1; clear cbt0_5; have c0bt0_5 := bt0_5.1.1; have c1bt0_5 := bt0_5.1.2.1; have c2bt0_5 := bt0_5.1.2.2; clear c0bt0_4; clear c1bt0_4; clear c2bt0_4; have cbx1_5 := bx1_5.1; clear cbx1_4; have s1_5 := recsAt_row r_5 a1_.1 (fun k _ => rfl); clear r_5 hb_5) | (go_at_call 9; refine (sCanLift_any _ _ _ _ _ _ _ _ (by exact s1_5) hn1).mono ?_; rintro e w6 ⟨rfl, hb_6⟩; have b_6 := below_then b_5 hb_6; clear b_5; have a1_6 := a1_5.after hb_6; clear a1_5; have t9_6 := t9_5.after hb_6; clear t9_5; have bt0_6 := bt0_5.after hb_6; clear bt0_5; have bx1_6 := bx1_5.after hb_6; clear bx1_5; have s1_6 := s1_5.after hb_6; clear s1_5; have cbt0_6 := bt0_6.1; clear cbt0_6; have c0bt0_6 := bt0_6.1.1; have c1bt0_6 := bt0_6.1.2.1; have c2bt0_6 := bt0_6.1.2.2; clear c0bt0_5; clear c1bt0_5; clear c2bt0_5; have cbx1_6 := bx1_6.1; clear cbx1_5; clear hb_6)))
  clear s1_6
  go_wp2_with fail
  refine (toStone_any A1 n1 c1 z1 _ a1_6 hn1).mono ?_
  rintro e w7 ⟨g7, rfl, _, r_7, hb_7⟩
  have b_7 := below_then b_6 hb_7
  clear b_6
  have a1_7 := a1_6.after hb_7
  clear a1_6
  have t9_7 := t9_6.after hb_7
  clear t9_6
  have bt0_7 := bt0_6.after hb_7
  clear bt0_6
  have bx1_7 := bx1_6.after hb_7
  clear bx1_6
  have cbt0_7 := bt0_7.1
  clear cbt0_7
  have c0bt0_7 := bt0_7.1.1
  have c1bt0_7 := bt0_7.1.2.1
  have c2bt0_7 := bt0_7.1.2.2
  clear c0bt0_6
  clear c1bt0_6
  clear c2bt0_6
  have cbx1_7 := bx1_7.1
  clear cbx1_6
  have s1_7 := recsAt_row r_7 a1_.1 (fun k _ => rfl)
  clear r_7 hb_7
  have hb_8 : Below w7.heap.size w7 (w7.alloc (.cells #[.slice (some ⟨g7, 0, none⟩) n1 n1] 35)) := (Below.refl _ _).alloc (Nat.le_refl _) _
  have b_8 := below_then b_7 hb_8
  clear b_7
  have a1_8 := a1_7.after hb_8
  clear a1_7
  have t9_8 := t9_7.after hb_8
  clear t9_7
  have bt0_8 := bt0_7.after hb_8
  clear bt0_7
  have bx1_8 := bx1_7.after hb_8
  clear bx1_7
  have s1_8 := s1_7.after hb_8
  clear s1_7
  have cbt0_8 := bt0_8.1
  clear cbt0_8
  have c0bt0_8 := bt0_8.1.1
  have c1bt0_8 := bt0_8.1.2.1
  have c2bt0_8 := bt0_8.1.2.2
  clear c0bt0_7
  clear c1bt0_7
  clear c2bt0_7
  have cbx1_8 := bx1_8.1
  clear cbx1_7
  clear hb_8
  have by1_8 : Box (w7.alloc (.cells #[.slice (some ⟨g7, 0, none⟩) n1 n1] 35)) w7.heap.size (.slice (some ⟨g7, 0, none⟩) n1 n1) := Box.new _ _ _
  have cby1_8 := by1_8.1
  go_wp2_with fail
  go_region_held3 (fun w' => (w'.cell? ⟨w.heap.size, 0, none⟩ = some (.int .i64 p00) ∧ w'.cell? ⟨w.heap.size, 1, none⟩ = some (.int .i64 p01) ∧ w'.cell? ⟨w.heap.size, 2, none⟩ = some (.int .i64 p02)) ∧ w'.cell? ⟨w7.heap.size, 0, none⟩ = some (.slice (some ⟨g7, 0, none⟩) n1 n1)) (first | exact ⟨⟨c0bt0_8, c1bt0_8, c2bt0_8⟩, cby1_8⟩ | exact ⟨⟨c0bt0_9, c1bt0_9, c2bt0_9⟩, cby1_9⟩ | exact ⟨⟨c0bt0_10, c1bt0_10, c2bt0_10⟩, cby1_10⟩) ((first | (go_at_call 10; refine (toLift_any _ _ _ _).mono ?_; rintro e w9 ⟨rfl, hbx9⟩; have hb_9 := below_undrew hbx9; have b_9 := below_then b_8 hb_9; clear b_8; have a1_9 := a1_8.after hb_9; clear a1_8; have t9_9 := t9_8.after hb_9; clear t9_8; have bt0_9 := bt0_8.after hb_9; clear bt0_8; have bx1_9 := bx1_8.after hb_9; clear bx1_8; have s1_9 := s1_8.after hb_9; clear s1_8; have by1_9 := by1_8.after hb_9; clear by1_8; have cbt0_9 := bt0_9.1; clear cbt0_9; have c0bt0_9 := bt0_9.1.1; have c1bt0_9 := bt0_9.1.2.1; have c2bt0_9 := bt0_9.1.2.2; clear c0bt0_8; clear c1bt0_8; clear c2bt0_8; have cbx1_9 := bx1_9.1; clear cbx1_8; have cby1_9 := by1_9.1; clear cby1_8; clear hb_9) | (go_at_call 12; refine (iCanLift_any _ _ _ _ _ _ _ _ _ (by exact s1_9) (by exact t9_9)).mono ?_; rintro e w10 ⟨rfl, hb_10⟩; have b_10 := below_then b_9 hb_10; clear b_9; have a1_10 := a1_9.after hb_10; clear a1_9; have t9_10 := t9_9.after hb_10; clear t9_9; have bt0_10 := bt0_9.after hb_10; clear bt0_9; have bx1_10 := bx1_9.after hb_10; clear bx1_9; have s1_10 := s1_9.after hb_10; clear s1_9; have by1_10 := by1_9.after hb_10; clear by1_9; have cbt0_10 := bt0_10.1; clear cbt0_10; have c0bt0_10 := bt0_10.1.1; have c1bt0_10 := bt0_10.1.2.1; have c2bt0_10 := bt0_10.1.2.2; clear c0bt0_9; clear c1bt0_9; clear c2bt0_9; have cbx1_10 := bx1_10.1; clear cbx1_9; have cby1_10 := by1_10.1; clear cby1_9; clear hb_10)))
  go_wp2_with fail
  go_region_held3 (fun w' => w'.cell? ⟨w7.heap.size, 0, none⟩ = some (.slice (some ⟨g7, 0, none⟩) n1 n1) ∧ w'.cell? ⟨w.heap.size + 1, 0, none⟩ = some (.slice A1 n1 c1)) (first | exact ⟨cby1_10, cbx1_10⟩ | exact ⟨dy1_1, dx1_1⟩ | exact ⟨dy1_2, dx1_2⟩) ((first | (go_at_call 11; refine (toStone_any A1 n1 c1 z1 _ (by exact a1_10) hn1).mono ?_; rintro e w11 ⟨g11, rfl, _, r_11, hbx11⟩; have hb_11 := below_undrew hbx11; have e1_1 := s1_10.after hb_11; have v1_1 := recsAt_row r_11 a1_.1 (fun k _ => rfl); have dy1_1 := (by1_10.after hb_11).1; have dx1_1 := (bx1_10.after hb_11).1) | (go_at_call 13; refine (eqStone_same _ _ _ _ _ z1 _ (by exact e1_1) (by exact v1_1) hn1).mono ?_; rintro e w12 ⟨rfl, hb_12⟩; have dy1_2 := ((by1_10.after hb_11).after hb_12).1; have dx1_2 := ((bx1_10.after hb_11).after hb_12).1)))
  have b_11 := below_then b_10 hb_11
  clear b_10
  have a1_11 := a1_10.after hb_11
  clear a1_10
  have t9_11 := t9_10.after hb_11
  clear t9_10
  have bt0_11 := bt0_10.after hb_11
  clear bt0_10
  have bx1_11 := bx1_10.after hb_11
  clear bx1_10
  have s1_11 := s1_10.after hb_11
  clear s1_10
  have by1_11 := by1_10.after hb_11
  clear by1_10
  have cbt0_11 := bt0_11.1
  clear cbt0_11
  have c0bt0_11 := bt0_11.1.1
  have c1bt0_11 := bt0_11.1.2.1
  have c2bt0_11 := bt0_11.1.2.2
  clear c0bt0_10
  clear c1bt0_10
  clear c2bt0_10
  have cbx1_11 := bx1_11.1
  clear cbx1_10
  have cby1_11 := by1_11.1
  clear cby1_10
  have b_12 := below_then b_11 hb_12
  clear b_11
  have a1_12 := a1_11.after hb_12
  clear a1_11
  have t9_12 := t9_11.after hb_12
  clear t9_11
  have bt0_12 := bt0_11.after hb_12
  clear bt0_11
  have bx1_12 := bx1_11.after hb_12
  clear bx1_11
  have s1_12 := s1_11.after hb_12
  clear s1_11
  have by1_12 := by1_11.after hb_12
  clear by1_11
  have cbt0_12 := bt0_12.1
  clear cbt0_12
  have c0bt0_12 := bt0_12.1.1
  have c1bt0_12 := bt0_12.1.2.1
  have c2bt0_12 := bt0_12.1.2.2
  clear c0bt0_11
  clear c1bt0_11
  clear c2bt0_11
  have cbx1_12 := bx1_12.1
  clear cbx1_11
  have cby1_12 := by1_12.1
  clear cby1_11
  clear hb_11 hb_12
  go_wp2
  go_ret
  exact ⟨rfl, b_12⟩
end Go.Proofs.YtplabaneihjcoaaDoor
