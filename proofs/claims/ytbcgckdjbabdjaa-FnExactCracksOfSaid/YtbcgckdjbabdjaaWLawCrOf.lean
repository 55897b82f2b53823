/-
  The law CracksOf: the call returns true.
-/
import Derived.Test.YtbcgckdjbabdjaaWCrOf
import Derived.Test.YtbcgckdjbabdjaaRThrust
import Derived.Test.YtbcgckdjbabdjaaInside
import Derived.Test.YtbcgckdjbabdjaaWMark
import Derived.Test.YtbcgckdjbabdjaaLawKit
import Derived.Test.YtbcgckdjbabdjaaWMarkI
import Derived.Test.YtbcgckdjbabdjaaWMark
namespace Go.Proofs.Ytbcgckdjbabdjaa
open Go.RowKit
set_option linter.unusedVariables false

set_option maxRecDepth 100000 in
set_option maxHeartbeats 3200000 in
theorem fnExactCracksOf.walk (A0 : Option Addr) (n0 c0 : Nat) (z0 : List Int) (hm0 : n0 ≤ maxLen) (A1 : Option Addr) (n1 c1 : Nat) (z1 : List Int) (hm1 : n1 ≤ maxLen) (p20 : Int) (hp20 : -9223372036854775808 ≤ p20) (hp20' : p20 ≤ 9223372036854775807) (p21 : Int) (hp21 : -9223372036854775808 ≤ p21) (hp21' : p21 ≤ 9223372036854775807) (p22 : Int) (hp22 : -9223372036854775808 ≤ p22) (hp22' : p22 ≤ 9223372036854775807) (p23 : Int) (hp23 : -9223372036854775808 ≤ p23) (hp23' : p23 ≤ 9223372036854775807) (w : World) (a0_ : RecsAt w w.heap.size 4 A0 n0 z0) (a1_ : RecsAt w w.heap.size 3 A1 n1 z1) :
    Calls Try.prog 9 #[.agg #[.slice A0 n0 c0], .slice A1 n1 c1, .agg #[.int .i64 p20, .int .i64 p21, .int .i64 p22, .int .i64 p23]] w fun e w' => e = .returned (.bool true) ∧ Below w.heap.size w w' := by
  have hm0' : n0 ≤ 9223372036854775807 := by unfold maxLen at hm0; omega
  have hm1' : n1 ≤ 9223372036854775807 := by unfold maxLen at hm1; omega
  have b_0 : Below w.heap.size w w := Below.refl _ _
  have a0_0 := a0_
  have a1_0 := a1_
  have hb_1 : Below w.heap.size w (w.alloc (.cells #[.slice A0 n0 c0] 24)) := (Below.refl _ _).alloc (Nat.le_refl _) _
  have b_1 := below_then b_0 hb_1
  clear b_0
  have a0_1 := a0_0.after hb_1
  clear a0_0
  have a1_1 := a1_0.after hb_1
  clear a1_0
  have hz_1 := hb_1.size
  clear hb_1
  have bx0_1 : Box (w.alloc (.cells #[.slice A0 n0 c0] 24)) w.heap.size (.slice A0 n0 c0) := Box.new _ _ _
  have cbx0_1 := bx0_1.1
  have hb_2 : Below (w.alloc (.cells #[.slice A0 n0 c0] 24)).heap.size (w.alloc (.cells #[.slice A0 n0 c0] 24)) ((w.alloc (.cells #[.slice A0 n0 c0] 24)).alloc (.cells #[.int .i64 p20, .int .i64 p21, .int .i64 p22, .int .i64 p23] 56)) := (Below.refl _ _).alloc (Nat.le_refl _) _
  have b_2 := below_then b_1 hb_2
  clear b_1
  have a0_2 := a0_1.after hb_2
  clear a0_1
  have a1_2 := a1_1.after hb_2
  clear a1_1
  have bx0_2 := bx0_1.after hb_2
  clear bx0_1
  clear cbx0_1
  have cbx0_2 := bx0_2.1
  have hz_2 := hb_2.size
  clear hb_2
  have bx2_2 : Box4 ((w.alloc (.cells #[.slice A0 n0 c0] 24)).alloc (.cells #[.int .i64 p20, .int .i64 p21, .int .i64 p22, .int .i64 p23] 56)) (w.alloc (.cells #[.slice A0 n0 c0] 24)).heap.size p20 p21 p22 p23 := Box4.new _ _ _ _ _ _
  simp only [World.size_alloc] at bx2_2
  have c0bx2_2 := bx2_2.1.1
  have c1bx2_2 := bx2_2.1.2.1
  have c2bx2_2 := bx2_2.1.2.2.1
  have c3bx2_2 := bx2_2.1.2.2.2
  go_enter Try.func9, Try.ntmps9
  go_wp2_with fail
  refine (sz1_any (n := n0) (by omega) (fun h => szArch_ok A0 n0 c0 _ _ (by omega) (by omega) hm0' h) (fun h => szArch_no A0 n0 c0 _ _ (by omega) (by omega) hm0' h)).mono ?_
  rintro e w3 ⟨r3, rfl, hb_3, hr3⟩
  have b_3 := below_then b_2 hb_3
  clear b_2
  have a0_3 := a0_2.after hb_3
  clear a0_2
  have a1_3 := a1_2.after hb_3
  clear a1_2
  have bx0_3 := bx0_2.after hb_3
  clear bx0_2
  have bx2_3 := bx2_2.after hb_3
  clear bx2_2
  clear cbx0_2
  have cbx0_3 := bx0_3.1
  clear c0bx2_2
  clear c1bx2_2
  clear c2bx2_2
  clear c3bx2_2
  have c0bx2_3 := bx2_3.1.1
  have c1bx2_3 := bx2_3.1.2.1
  have c2bx2_3 := bx2_3.1.2.2.1
  have c3bx2_3 := bx2_3.1.2.2.2
  have hz_3 := hb_3.size
  clear hb_3
  rcases hr3 with rfl | hr3
  · go_wp2
    go_ret
    exact ⟨rfl, b_3⟩
  obtain ⟨hr3a, hr3b, hr3c⟩ := hr3
  have hn0 : n0 ≤ 1048576 := by omega
  have ht0 : ¬ r3 < 0 := by omega
  go_wp2_with fail
  refine (sz1_any (n := n1) (by omega) (fun h => calls_below (szLoadS_ok A1 n1 c1 _ _ (by omega) (by omega) hm1' h)) (fun h => calls_below (szLoadS_no A1 n1 c1 _ _ (by omega) (by omega) hm1' h))).mono ?_
  rintro e w4 ⟨r4, rfl, hb_4, hr4⟩
  have b_4 := below_then b_3 hb_4
  clear b_3
  have a0_4 := a0_3.after hb_4
  clear a0_3
  have a1_4 := a1_3.after hb_4
  clear a1_3
  have bx0_4 := bx0_3.after hb_4
  clear bx0_3
  have bx2_4 := bx2_3.after hb_4
  clear bx2_3
  clear cbx0_3
  have cbx0_4 := bx0_4.1
  clear c0bx2_3
  clear c1bx2_3
  clear c2bx2_3
  clear c3bx2_3
  have c0bx2_4 := bx2_4.1.1
  have c1bx2_4 := bx2_4.1.2.1
  have c2bx2_4 := bx2_4.1.2.2.1
  have c3bx2_4 := bx2_4.1.2.2.2
  have hz_4 := hb_4.size
  clear hb_4
  rcases hr4 with rfl | hr4
  · go_wp2
    go_ret
    exact ⟨rfl, b_4⟩
  obtain ⟨hr4a, hr4b, hr4c⟩ := hr4
  have hn1 : n1 ≤ 1048576 := by omega
  have ht1 : ¬ r4 < 0 := by omega
  go_wp2_with fail
  go_region_held3 (fun w' => w'.cell? ⟨w.heap.size, 0, none⟩ = some (.slice A0 n0 c0) ∧ (w'.cell? ⟨w.heap.size + 1, 0, none⟩ = some (.int .i64 p20) ∧ w'.cell? ⟨w.heap.size + 1, 1, none⟩ = some (.int .i64 p21) ∧ w'.cell? ⟨w.heap.size + 1, 2, none⟩ = some (.int .i64 p22) ∧ w'.cell? ⟨w.heap.size + 1, 3, none⟩ = some (.int .i64 p23))) (first | exact ⟨cbx0_4, ⟨c0bx2_4, c1bx2_4, c2bx2_4, c3bx2_4⟩⟩ | exact ⟨cbx0_5, ⟨c0bx2_5, c1bx2_5, c2bx2_5, c3bx2_5⟩⟩ | exact ⟨cbx0_6, ⟨c0bx2_6, c1bx2_6, c2bx2_6, c3bx2_6⟩⟩ | exact ⟨cbx0_7, ⟨c0bx2_7, c1bx2_7, c2bx2_7, c3bx2_7⟩⟩ | exact ⟨cbx0_8, ⟨c0bx2_8, c1bx2_8, c2bx2_8, c3bx2_8⟩⟩) ((first | (go_at_call 13; refine (toArch_any A0 n0 c0 z0 _ (by exact a0_4) hn0).mono ?_; rintro e w5 ⟨g5, rfl, hg5, r_5, hbx5⟩; have hb_5 := below_undrew hbx5; clear hbx5; have b_5 := below_then b_4 hb_5; clear b_4; have a0_5 := a0_4.after hb_5; clear a0_4; have a1_5 := a1_4.after hb_5; clear a1_4; have bx0_5 := bx0_4.after hb_5; clear bx0_4; have bx2_5 := bx2_4.after hb_5; clear bx2_4; clear cbx0_4; have cbx0_5 := bx0_5.1; clear c0bx2_4; clear c1bx2_4; clear c2bx2_4; clear c3bx2_4; have c0bx2_5 := bx2_5.1.1; have c1bx2_5 := bx2_5.1.2.1; have c2bx2_5 := bx2_5.1.2.2.1; have c3bx2_5 := bx2_5.1.2.2.2; have hz_5 := hb_5.size; clear hb_5; have s0_5 := recsAt_row r_5 a0_.1 (fun k _ => rfl); clear r_5) | (go_at_call 30; refine (toLoadS_ex A1 n1 c1 z1 _ (by exact a1_5) hn1).mono ?_; rintro e w6 ⟨g6, rfl, hg6, r_6, hb_6⟩; have b_6 := below_then b_5 hb_6; clear b_5; have a0_6 := a0_5.after hb_6; clear a0_5; have a1_6 := a1_5.after hb_6; clear a1_5; have bx0_6 := bx0_5.after hb_6; clear bx0_5; have bx2_6 := bx2_5.after hb_6; clear bx2_5; have s0_6 := s0_5.after hb_6; clear s0_5; clear cbx0_5; have cbx0_6 := bx0_6.1; clear c0bx2_5; clear c1bx2_5; clear c2bx2_5; clear c3bx2_5; have c0bx2_6 := bx2_6.1.1; have c1bx2_6 := bx2_6.1.2.1; have c2bx2_6 := bx2_6.1.2.2.1; have c3bx2_6 := bx2_6.1.2.2.2; have hz_6 := hb_6.size; clear hb_6; have s1_6 := recsAt_row r_6 a1_.1 (fun k _ => rfl); clear r_6) | (go_at_call 31; refine (toThrust_any _ _ _ _ _).mono ?_; rintro e w7 ⟨rfl, hb_7⟩; have b_7 := below_then b_6 hb_7; clear b_6; have a0_7 := a0_6.after hb_7; clear a0_6; have a1_7 := a1_6.after hb_7; clear a1_6; have bx0_7 := bx0_6.after hb_7; clear bx0_6; have bx2_7 := bx2_6.after hb_7; clear bx2_6; have s0_7 := s0_6.after hb_7; clear s0_6; have s1_7 := s1_6.after hb_7; clear s1_6; clear cbx0_6; have cbx0_7 := bx0_7.1; clear c0bx2_6; clear c1bx2_6; clear c2bx2_6; clear c3bx2_6; have c0bx2_7 := bx2_7.1.1; have c1bx2_7 := bx2_7.1.2.1; have c2bx2_7 := bx2_7.1.2.2.1; have c3bx2_7 := bx2_7.1.2.2.2; have hz_7 := hb_7.size; clear hb_7) | (go_at_call 42; refine (sCracksOf_any _ _ _ z0 _ _ _ z1 _ _ _ _ _ (by exact s0_7) hn0 (by exact s1_7) hn1).mono ?_; rintro e w8 ⟨A_8, l_8, c_8, rfl, os_8, hb_8⟩; have b_8 := below_then b_7 hb_8; clear b_7; have a0_8 := a0_7.after hb_8; clear a0_7; have a1_8 := a1_7.after hb_8; clear a1_7; have bx0_8 := bx0_7.after hb_8; clear bx0_7; have bx2_8 := bx2_7.after hb_8; clear bx2_7; have s0_8 := s0_7.after hb_8; clear s0_7; have s1_8 := s1_7.after hb_8; clear s1_7; clear cbx0_7; have cbx0_8 := bx0_8.1; clear c0bx2_7; clear c1bx2_7; clear c2bx2_7; clear c3bx2_7; have c0bx2_8 := bx2_8.1.1; have c1bx2_8 := bx2_8.1.2.1; have c2bx2_8 := bx2_8.1.2.2.1; have c3bx2_8 := bx2_8.1.2.2.2; have hz_8 := hb_8.size; clear hb_8)))
  generalize hLL : crRes z0 n0 z1 n1 p20 p21 p22 p23 = LL at *
  have HLL := Lib.hid hLL
  clear hLL
  have hk : LL.length ≤ 1048576 := by have h := (Nat.le_trans (crRes_len (zs := z0) (n := n0) (ls := z1) (q := n1) (H := p20) (V := p21) (M := p22) (D := p23)) hn0); rw [HLL.out] at h; omega
  obtain rfl := os_8.len
  have iw_8 := os_8.intsAt
  have d_8 : Below w8.heap.size w8 w8 := Below.refl _ _
  clear s0_8
  clear s1_8
  have bD := b_8
  clear b_8
  have aD0 := a0_8
  have aD1 := a1_8
  have iD := iw_8
  have bxD0 := bx0_8
  have bxD2 := bx2_8
  go_wp2_with fail
  refine (toArch_any A0 n0 c0 z0 _ a0_8 hn0).mono ?_
  rintro e w9 ⟨g9, rfl, hg9, r_9, hb_9⟩
  have a0_9 := a0_8.after hb_9
  clear a0_8
  have a1_9 := a1_8.after hb_9
  clear a1_8
  have bx0_9 := bx0_8.after hb_9
  clear bx0_8
  have bx2_9 := bx2_8.after hb_9
  clear bx2_8
  have iw_9 := iw_8.after hb_9
  clear iw_8
  have d_9 := below_then d_8 hb_9
  clear d_8
  clear cbx0_8
  have cbx0_9 := bx0_9.1
  clear c0bx2_8
  clear c1bx2_8
  clear c2bx2_8
  clear c3bx2_8
  have c0bx2_9 := bx2_9.1.1
  have c1bx2_9 := bx2_9.1.2.1
  have c2bx2_9 := bx2_9.1.2.2.1
  have c3bx2_9 := bx2_9.1.2.2.2
  have hz_9 := hb_9.size
  clear hb_9
  have s0_9 := recsAt_row r_9 a0_.1 (fun k _ => rfl)
  have hgl0 : g9 < w9.heap.size := r_9.lt
  have m0_9 := RowI.of_row (lo := w8.heap.size) (hi := w9.heap.size) r_9 (intRow_ints _) hg9 (Nat.le_refl _)
  clear r_9
  have hb_10 : Below w9.heap.size w9 (w9.alloc (.cells #[.slice (some ⟨g9, 0, none⟩) n0 n0] 31)) := (Below.refl _ _).alloc (Nat.le_refl _) _
  have a0_10 := a0_9.after hb_10
  clear a0_9
  have a1_10 := a1_9.after hb_10
  clear a1_9
  have bx0_10 := bx0_9.after hb_10
  clear bx0_9
  have bx2_10 := bx2_9.after hb_10
  clear bx2_9
  have iw_10 := iw_9.after hb_10
  clear iw_9
  have d_10 := below_then d_9 hb_10
  clear d_9
  have s0_10 := s0_9.after hb_10
  clear s0_9
  have m0_10 := m0_9.after hb_10
  clear m0_9
  clear cbx0_9
  have cbx0_10 := bx0_10.1
  clear c0bx2_9
  clear c1bx2_9
  clear c2bx2_9
  clear c3bx2_9
  have c0bx2_10 := bx2_10.1.1
  have c1bx2_10 := bx2_10.1.2.1
  have c2bx2_10 := bx2_10.1.2.2.1
  have c3bx2_10 := bx2_10.1.2.2.2
  have hz_10 := hb_10.size
  clear hb_10
  have by0_10 : Box (w9.alloc (.cells #[.slice (some ⟨g9, 0, none⟩) n0 n0] 31)) w9.heap.size (.slice (some ⟨g9, 0, none⟩) n0 n0) := Box.new _ _ _
  have cby0_10 := by0_10.1
  go_wp2_with fail
  refine (toLoadS_ex A1 n1 c1 z1 _ a1_10 hn1).mono ?_
  rintro e w11 ⟨g11, rfl, hg11, r_11, hb_11⟩
  have a0_11 := a0_10.after hb_11
  clear a0_10
  have a1_11 := a1_10.after hb_11
  clear a1_10
  have bx0_11 := bx0_10.after hb_11
  clear bx0_10
  have bx2_11 := bx2_10.after hb_11
  clear bx2_10
  have iw_11 := iw_10.after hb_11
  clear iw_10
  have d_11 := below_then d_10 hb_11
  clear d_10
  have s0_11 := s0_10.after hb_11
  clear s0_10
  have m0_11 := m0_10.after hb_11
  clear m0_10
  have by0_11 := by0_10.after hb_11
  clear by0_10
  clear cbx0_10
  have cbx0_11 := bx0_11.1
  clear c0bx2_10
  clear c1bx2_10
  clear c2bx2_10
  clear c3bx2_10
  have c0bx2_11 := bx2_11.1.1
  have c1bx2_11 := bx2_11.1.2.1
  have c2bx2_11 := bx2_11.1.2.2.1
  have c3bx2_11 := bx2_11.1.2.2.2
  clear cby0_10
  have cby0_11 := by0_11.1
  have hz_11 := hb_11.size
  clear hb_11
  have s1_11 := recsAt_row r_11 a1_.1 (fun k _ => rfl)
  have hgl1 : g11 < w11.heap.size := r_11.lt
  have m1_11 := RowI.of_row (lo := (w9.alloc (.cells #[.slice (some ⟨g9, 0, none⟩) n0 n0] 31)).heap.size) (hi := w11.heap.size) r_11 (intRow_ints _) hg11 (Nat.le_refl _)
  clear r_11
  go_wp2_with fail
  go_region_held3 (fun w' => w'.cell? ⟨w9.heap.size, 0, none⟩ = some (.slice (some ⟨g9, 0, none⟩) n0 n0) ∧ (w'.cell? ⟨w.heap.size + 1, 0, none⟩ = some (.int .i64 p20) ∧ w'.cell? ⟨w.heap.size + 1, 1, none⟩ = some (.int .i64 p21) ∧ w'.cell? ⟨w.heap.size + 1, 2, none⟩ = some (.int .i64 p22) ∧ w'.cell? ⟨w.heap.size + 1, 3, none⟩ = some (.int .i64 p23))) (first | exact ⟨cby0_11, ⟨c0bx2_11, c1bx2_11, c2bx2_11, c3bx2_11⟩⟩ | exact ⟨cby0_12, ⟨c0bx2_12, c1bx2_12, c2bx2_12, c3bx2_12⟩⟩ | exact ⟨cby0_13, ⟨c0bx2_13, c1bx2_13, c2bx2_13, c3bx2_13⟩⟩) ((first | (go_at_call 31; refine (toThrust_any _ _ _ _ _).mono ?_; rintro e w12 ⟨rfl, hbx12⟩; have hb_12 := below_undrew hbx12; clear hbx12; have a0_12 := a0_11.after hb_12; clear a0_11; have a1_12 := a1_11.after hb_12; clear a1_11; have bx0_12 := bx0_11.after hb_12; clear bx0_11; have bx2_12 := bx2_11.after hb_12; clear bx2_11; have iw_12 := iw_11.after hb_12; clear iw_11; have d_12 := below_then d_11 hb_12; clear d_11; have s0_12 := s0_11.after hb_12; clear s0_11; have m0_12 := m0_11.after hb_12; clear m0_11; have by0_12 := by0_11.after hb_12; clear by0_11; have s1_12 := s1_11.after hb_12; clear s1_11; have m1_12 := m1_11.after hb_12; clear m1_11; clear cbx0_11; have cbx0_12 := bx0_12.1; clear c0bx2_11; clear c1bx2_11; clear c2bx2_11; clear c3bx2_11; have c0bx2_12 := bx2_12.1.1; have c1bx2_12 := bx2_12.1.2.1; have c2bx2_12 := bx2_12.1.2.2.1; have c3bx2_12 := bx2_12.1.2.2.2; clear cby0_11; have cby0_12 := by0_12.1; have hz_12 := hb_12.size; clear hb_12) | (go_at_call 43; refine (iCracksOf_any _ _ _ z0 _ _ _ z1 _ _ _ _ _ (by exact s0_12) hn0 (by exact s1_12) hn1).mono ?_; rintro e w13 ⟨A_13, l_13, c_13, rfl, o_13, hb_13⟩; have a0_13 := a0_12.after hb_13; clear a0_12; have a1_13 := a1_12.after hb_13; clear a1_12; have bx0_13 := bx0_12.after hb_13; clear bx0_12; have bx2_13 := bx2_12.after hb_13; clear bx2_12; have iw_13 := iw_12.after hb_13; clear iw_12; have d_13 := below_then d_12 hb_13; clear d_12; have s0_13 := s0_12.after hb_13; clear s0_12; have m0_13 := m0_12.after hb_13; clear m0_12; have by0_13 := by0_12.after hb_13; clear by0_12; have s1_13 := s1_12.after hb_13; clear s1_12; have m1_13 := m1_12.after hb_13; clear m1_12; clear cbx0_12; have cbx0_13 := bx0_13.1; clear c0bx2_12; clear c1bx2_12; clear c2bx2_12; clear c3bx2_12; have c0bx2_13 := bx2_13.1.1; have c1bx2_13 := bx2_13.1.2.1; have c2bx2_13 := bx2_13.1.2.2.1; have c3bx2_13 := bx2_13.1.2.2.2; clear cby0_12; have cby0_13 := by0_13.1; have hz_13 := hb_13.size; clear hb_13)))
  rw [HLL.out] at o_13
  obtain rfl := o_13.len
  go_wp2_with fail
  refine (eqIntS_any _ _ _ _ _ _ LL LL _ o_13.intsAt iw_13 hk hk).mono ?_
  rintro e w14 ⟨e14, hb_14⟩
  rw [eqL_refl] at e14
  subst e14
  have a0_14 := a0_13.after hb_14
  clear a0_13
  have a1_14 := a1_13.after hb_14
  clear a1_13
  have bx0_14 := bx0_13.after hb_14
  clear bx0_13
  have bx2_14 := bx2_13.after hb_14
  clear bx2_13
  have iw_14 := iw_13.after hb_14
  clear iw_13
  have d_14 := below_then d_13 hb_14
  clear d_13
  have s0_14 := s0_13.after hb_14
  clear s0_13
  have m0_14 := m0_13.after hb_14
  clear m0_13
  have by0_14 := by0_13.after hb_14
  clear by0_13
  have s1_14 := s1_13.after hb_14
  clear s1_13
  have m1_14 := m1_13.after hb_14
  clear m1_13
  have o_14 := o_13.below hb_14
  clear o_13
  clear cbx0_13
  have cbx0_14 := bx0_14.1
  clear c0bx2_13
  clear c1bx2_13
  clear c2bx2_13
  clear c3bx2_13
  have c0bx2_14 := bx2_14.1.1
  have c1bx2_14 := bx2_14.1.2.1
  have c2bx2_14 := bx2_14.1.2.2.1
  have c3bx2_14 := bx2_14.1.2.2.2
  clear cby0_13
  have cby0_14 := by0_14.1
  have hz_14 := hb_14.size
  clear hb_14
  go_wp2_with fail
  go_region_held3 (fun w' => w'.cell? ⟨w9.heap.size, 0, none⟩ = some (.slice (some ⟨g9, 0, none⟩) n0 n0) ∧ w'.cell? ⟨w.heap.size, 0, none⟩ = some (.slice A0 n0 c0)) (first | exact ⟨cby0_14, cbx0_14⟩ | exact ⟨dy0_1, dx0_1⟩ | exact ⟨dy0_2, dx0_2⟩) ((first | (go_at_call 13; refine (toArch_any A0 n0 c0 z0 _ (by exact a0_14) hn0).mono ?_; rintro e w15 ⟨g15, rfl, _, r_15, hbx15⟩; have hb_15 := below_undrew hbx15; have e0_1 := s0_14.after hb_15; have v0_1 := recsAt_row r_15 a0_.1 (fun k _ => rfl); have dy0_1 := (by0_14.after hb_15).1; have dx0_1 := (bx0_14.after hb_15).1) | (go_at_call 17; refine (eqArch_same _ _ _ _ _ z0 _ (by exact e0_1) (by exact v0_1) hn0).mono ?_; rintro e w16 ⟨rfl, hb_16⟩; have dy0_2 := ((by0_14.after hb_15).after hb_16).1; have dx0_2 := ((bx0_14.after hb_15).after hb_16).1)))
  clear dy0_1 dx0_1 dy0_2 dx0_2 e0_1 v0_1 hbx15
  have a0_15 := a0_14.after hb_15
  clear a0_14
  have a1_15 := a1_14.after hb_15
  clear a1_14
  have bx0_15 := bx0_14.after hb_15
  clear bx0_14
  have bx2_15 := bx2_14.after hb_15
  clear bx2_14
  have iw_15 := iw_14.after hb_15
  clear iw_14
  have d_15 := below_then d_14 hb_15
  clear d_14
  have s0_15 := s0_14.after hb_15
  clear s0_14
  have m0_15 := m0_14.after hb_15
  clear m0_14
  have by0_15 := by0_14.after hb_15
  clear by0_14
  have s1_15 := s1_14.after hb_15
  clear s1_14
  have m1_15 := m1_14.after hb_15
  clear m1_14
  have o_15 := o_14.below hb_15
  clear o_14
  clear cbx0_14
  have cbx0_15 := bx0_15.1
  clear c0bx2_14
  clear c1bx2_14
  clear c2bx2_14
  clear c3bx2_14
  have c0bx2_15 := bx2_15.1.1
  have c1bx2_15 := bx2_15.1.2.1
  have c2bx2_15 := bx2_15.1.2.2.1
  have c3bx2_15 := bx2_15.1.2.2.2
  clear cby0_14
  have cby0_15 := by0_15.1
  have hz_15 := hb_15.size
  have a0_16 := a0_15.after hb_16
  clear a0_15
  have a1_16 := a1_15.after hb_16
  clear a1_15
  have bx0_16 := bx0_15.after hb_16
  clear bx0_15
  have bx2_16 := bx2_15.after hb_16
  clear bx2_15
  have iw_16 := iw_15.after hb_16
  clear iw_15
  have d_16 := below_then d_15 hb_16
  clear d_15
  have s0_16 := s0_15.after hb_16
  clear s0_15
  have m0_16 := m0_15.after hb_16
  clear m0_15
  have by0_16 := by0_15.after hb_16
  clear by0_15
  have s1_16 := s1_15.after hb_16
  clear s1_15
  have m1_16 := m1_15.after hb_16
  clear m1_15
  have o_16 := o_15.below hb_16
  clear o_15
  clear cbx0_15
  have cbx0_16 := bx0_16.1
  clear c0bx2_15
  clear c1bx2_15
  clear c2bx2_15
  clear c3bx2_15
  have c0bx2_16 := bx2_16.1.1
  have c1bx2_16 := bx2_16.1.2.1
  have c2bx2_16 := bx2_16.1.2.2.1
  have c3bx2_16 := bx2_16.1.2.2.2
  clear cby0_15
  have cby0_16 := by0_16.1
  have hz_16 := hb_16.size
  clear hb_15 hb_16
  go_wp2_with fail
  refine (toLoadS_ex A1 n1 c1 z1 _ a1_16 hn1).mono ?_
  rintro e w17 ⟨g17, rfl, hg17, r_17, hb_17⟩
  have a0_17 := a0_16.after hb_17
  clear a0_16
  have a1_17 := a1_16.after hb_17
  clear a1_16
  have bx0_17 := bx0_16.after hb_17
  clear bx0_16
  have bx2_17 := bx2_16.after hb_17
  clear bx2_16
  have iw_17 := iw_16.after hb_17
  clear iw_16
  have d_17 := below_then d_16 hb_17
  clear d_16
  have s0_17 := s0_16.after hb_17
  clear s0_16
  have m0_17 := m0_16.after hb_17
  clear m0_16
  have by0_17 := by0_16.after hb_17
  clear by0_16
  have s1_17 := s1_16.after hb_17
  clear s1_16
  have m1_17 := m1_16.after hb_17
  clear m1_16
  have o_17 := o_16.below hb_17
  clear o_16
  clear cbx0_16
  have cbx0_17 := bx0_17.1
  clear c0bx2_16
  clear c1bx2_16
  clear c2bx2_16
  clear c3bx2_16
  have c0bx2_17 := bx2_17.1.1
  have c1bx2_17 := bx2_17.1.2.1
  have c2bx2_17 := bx2_17.1.2.2.1
  have c3bx2_17 := bx2_17.1.2.2.2
  clear cby0_16
  have cby0_17 := by0_17.1
  have hz_17 := hb_17.size
  clear hb_17
  have t1_17 := recsAt_row r_17 a1_.1 (fun k _ => rfl)
  clear r_17
  go_wp2_with fail
  refine (eqLoadS_same _ _ _ _ _ z1 _ s1_17 t1_17 hn1).mono ?_
  rintro e w18 ⟨rfl, hb_18⟩
  have a0_18 := a0_17.after hb_18
  clear a0_17
  have a1_18 := a1_17.after hb_18
  clear a1_17
  have bx0_18 := bx0_17.after hb_18
  clear bx0_17
  have bx2_18 := bx2_17.after hb_18
  clear bx2_17
  have iw_18 := iw_17.after hb_18
  clear iw_17
  have d_18 := below_then d_17 hb_18
  clear d_17
  have s0_18 := s0_17.after hb_18
  clear s0_17
  have m0_18 := m0_17.after hb_18
  clear m0_17
  have by0_18 := by0_17.after hb_18
  clear by0_17
  have s1_18 := s1_17.after hb_18
  clear s1_17
  have m1_18 := m1_17.after hb_18
  clear m1_17
  have o_18 := o_17.below hb_18
  clear o_17
  have t1_18 := t1_17.after hb_18
  clear t1_17
  clear cbx0_17
  have cbx0_18 := bx0_18.1
  clear c0bx2_17
  clear c1bx2_17
  clear c2bx2_17
  clear c3bx2_17
  have c0bx2_18 := bx2_18.1.1
  have c1bx2_18 := bx2_18.1.2.1
  have c2bx2_18 := bx2_18.1.2.2.1
  have c3bx2_18 := bx2_18.1.2.2.2
  clear cby0_17
  have cby0_18 := by0_18.1
  have hz_18 := hb_18.size
  clear hb_18
  clear t1_18
  clear s0_18
  clear s1_18
  clear a0_18
  clear a1_18
  clear iw_18
  clear bx0_18
  clear cbx0_18
  clear bx2_18
  clear c0bx2_18
  clear c1bx2_18
  clear c2bx2_18
  clear c3bx2_18
  go_wp2_with fail
  refine (markArch_row w8.heap.size w9.heap.size g9 n0 _ _ _ m0_18 hn0 (by omega) (by omega)).mono ?_
  rintro e w19 ⟨rfl, wt_19⟩
  clear m0_18
  have d_19 := d_18.trans ((wt_19.below (by omega)).mono (by omega))
  clear d_18
  have o_19 := wt_19.own o_18 (by omega)
  clear o_18
  have m1_19 := m1_18.inside wt_19 (by omega)
  clear m1_18
  clear cby0_18
  clear by0_18
  have hy_19 := wt_19.size
  clear wt_19
  go_wp2_with fail
  refine (markLoadS_row (w9.alloc (.cells #[.slice (some ⟨g9, 0, none⟩) n0 n0] 31)).heap.size w11.heap.size g11 n1 _ _ _ m1_19 hn1 (by omega) (by omega)).mono ?_
  rintro e w20 ⟨rfl, wt_20⟩
  clear m1_19
  have d_20 := d_19.trans ((wt_20.below (by omega)).mono (by omega))
  clear d_19
  have o_20 := wt_20.own o_19 (by omega)
  clear o_19
  have hy_20 := wt_20.size
  clear wt_20
  have hkk : ¬ ((1 + ((n0 * 4 : Nat) : Int)) + ((n1 * 3 : Nat) : Int)) < 0 := by omega
  have a0_20 := (aD0.below d_20).mono d_20.size
  have a1_20 := (aD1.below d_20).mono d_20.size
  have iw_20 := (iD.below d_20).mono d_20.size
  have bx0_20 := bxD0.after d_20
  have bx2_20 := bxD2.after d_20
  have cbx0_20 := bx0_20.1
  have c0bx2_20 := bx2_20.1.1
  have c1bx2_20 := bx2_20.1.2.1
  have c2bx2_20 := bx2_20.1.2.2.1
  have c3bx2_20 := bx2_20.1.2.2.2
  go_wp2_with fail
  refine (eqIntS_any _ _ _ _ _ _ LL LL _ o_20.intsAt iw_20 hk hk).mono ?_
  rintro e w21 ⟨e21, hb_21⟩
  rw [eqL_refl] at e21
  subst e21
  have d_21 := below_then d_20 hb_21
  clear d_20
  have o_21 := o_20.below hb_21
  clear o_20
  have iw_21 := iw_20.after hb_21
  clear iw_20
  have a0_21 := a0_20.after hb_21
  clear a0_20
  have a1_21 := a1_20.after hb_21
  clear a1_20
  have bx0_21 := bx0_20.after hb_21
  clear bx0_20
  have bx2_21 := bx2_20.after hb_21
  clear bx2_20
  clear cbx0_20
  have cbx0_21 := bx0_21.1
  clear c0bx2_20
  clear c1bx2_20
  clear c2bx2_20
  clear c3bx2_20
  have c0bx2_21 := bx2_21.1.1
  have c1bx2_21 := bx2_21.1.2.1
  have c2bx2_21 := bx2_21.1.2.2.1
  have c3bx2_21 := bx2_21.1.2.2.2
  have hz_21 := hb_21.size
  clear hb_21
  go_wp2_with fail
  refine (markIntS_any _ _ _ LL 1 w12.heap.size _ o_21 hk (by omega) (by omega)).mono ?_
  rintro e w22 ⟨rfl, o_22, hb_22, hs_22⟩
  clear hs_22
  have d_22 := d_21.trans (hb_22.mono (by omega))
  clear d_21 o_21
  clear a0_21
  clear a1_21
  clear iw_21
  clear bx0_21
  clear bx2_21
  have a0_22 := (aD0.below d_22).mono d_22.size
  have a1_22 := (aD1.below d_22).mono d_22.size
  have iw_22 := (iD.below d_22).mono d_22.size
  have bx0_22 := bxD0.after d_22
  have bx2_22 := bxD2.after d_22
  clear cbx0_21
  have cbx0_22 := bx0_22.1
  clear c0bx2_21
  clear c1bx2_21
  clear c2bx2_21
  clear c3bx2_21
  have c0bx2_22 := bx2_22.1.1
  have c1bx2_22 := bx2_22.1.2.1
  have c2bx2_22 := bx2_22.1.2.2.1
  have c3bx2_22 := bx2_22.1.2.2.2
  clear hb_22
  go_wp2_with fail
  refine (heldIntS_any _ _ _ 1 _ o_22.intsAt hk (by omega) (by omega)).mono ?_
  rintro e w23 ⟨rfl, rfl⟩
  have hnn : ¬ (1 + (LL.length : Int)) < 0 := by omega
  have hw_23 : Below w22.heap.size w22 w22 := Below.refl _ _
  go_wp2_with fail
  go_region_held3 (fun w' => w'.cell? ⟨w.heap.size, 0, none⟩ = some (.slice A0 n0 c0) ∧ (w'.cell? ⟨w.heap.size + 1, 0, none⟩ = some (.int .i64 p20) ∧ w'.cell? ⟨w.heap.size + 1, 1, none⟩ = some (.int .i64 p21) ∧ w'.cell? ⟨w.heap.size + 1, 2, none⟩ = some (.int .i64 p22) ∧ w'.cell? ⟨w.heap.size + 1, 3, none⟩ = some (.int .i64 p23))) (first | exact ⟨cbx0_22, ⟨c0bx2_22, c1bx2_22, c2bx2_22, c3bx2_22⟩⟩ | exact ⟨cbx0_23, ⟨c0bx2_23, c1bx2_23, c2bx2_23, c3bx2_23⟩⟩ | exact ⟨cbx0_24, ⟨c0bx2_24, c1bx2_24, c2bx2_24, c3bx2_24⟩⟩ | exact ⟨cbx0_25, ⟨c0bx2_25, c1bx2_25, c2bx2_25, c3bx2_25⟩⟩ | exact ⟨cbx0_26, ⟨c0bx2_26, c1bx2_26, c2bx2_26, c3bx2_26⟩⟩) ((first | (go_at_call 13; refine (toArch_any A0 n0 c0 z0 _ (by exact a0_22) hn0).mono ?_; rintro e w23 ⟨g23, rfl, hg23, r_23, hbx23⟩; have hb_23 := below_undrew hbx23; clear hbx23; have d_23 := below_then d_22 hb_23; clear d_22; have o_23 := o_22.below hb_23; clear o_22; have iw_23 := iw_22.after hb_23; clear iw_22; have a0_23 := a0_22.after hb_23; clear a0_22; have a1_23 := a1_22.after hb_23; clear a1_22; have bx0_23 := bx0_22.after hb_23; clear bx0_22; have bx2_23 := bx2_22.after hb_23; clear bx2_22; clear cbx0_22; have cbx0_23 := bx0_23.1; clear c0bx2_22; clear c1bx2_22; clear c2bx2_22; clear c3bx2_22; have c0bx2_23 := bx2_23.1.1; have c1bx2_23 := bx2_23.1.2.1; have c2bx2_23 := bx2_23.1.2.2.1; have c3bx2_23 := bx2_23.1.2.2.2; have hz_23 := hb_23.size; clear hb_23; have s0_23 := recsAt_row r_23 a0_.1 (fun k _ => rfl); clear r_23) | (go_at_call 30; refine (toLoadS_ex A1 n1 c1 z1 _ (by exact a1_23) hn1).mono ?_; rintro e w24 ⟨g24, rfl, hg24, r_24, hb_24⟩; have d_24 := below_then d_23 hb_24; clear d_23; have o_24 := o_23.below hb_24; clear o_23; have iw_24 := iw_23.after hb_24; clear iw_23; have a0_24 := a0_23.after hb_24; clear a0_23; have a1_24 := a1_23.after hb_24; clear a1_23; have bx0_24 := bx0_23.after hb_24; clear bx0_23; have bx2_24 := bx2_23.after hb_24; clear bx2_23; have s0_24 := s0_23.after hb_24; clear s0_23; clear cbx0_23; have cbx0_24 := bx0_24.1; clear c0bx2_23; clear c1bx2_23; clear c2bx2_23; clear c3bx2_23; have c0bx2_24 := bx2_24.1.1; have c1bx2_24 := bx2_24.1.2.1; have c2bx2_24 := bx2_24.1.2.2.1; have c3bx2_24 := bx2_24.1.2.2.2; have hz_24 := hb_24.size; clear hb_24; have s1_24 := recsAt_row r_24 a1_.1 (fun k _ => rfl); clear r_24) | (go_at_call 31; refine (toThrust_any _ _ _ _ _).mono ?_; rintro e w25 ⟨rfl, hb_25⟩; have d_25 := below_then d_24 hb_25; clear d_24; have o_25 := o_24.below hb_25; clear o_24; have iw_25 := iw_24.after hb_25; clear iw_24; have a0_25 := a0_24.after hb_25; clear a0_24; have a1_25 := a1_24.after hb_25; clear a1_24; have bx0_25 := bx0_24.after hb_25; clear bx0_24; have bx2_25 := bx2_24.after hb_25; clear bx2_24; have s0_25 := s0_24.after hb_25; clear s0_24; have s1_25 := s1_24.after hb_25; clear s1_24; clear cbx0_24; have cbx0_25 := bx0_25.1; clear c0bx2_24; clear c1bx2_24; clear c2bx2_24; clear c3bx2_24; have c0bx2_25 := bx2_25.1.1; have c1bx2_25 := bx2_25.1.2.1; have c2bx2_25 := bx2_25.1.2.2.1; have c3bx2_25 := bx2_25.1.2.2.2; have hz_25 := hb_25.size; clear hb_25) | (go_at_call 43; refine (iCracksOf_any _ _ _ z0 _ _ _ z1 _ _ _ _ _ (by exact s0_25) hn0 (by exact s1_25) hn1).mono ?_; rintro e w26 ⟨A_26, l_26, c_26, rfl, oo_26, hb_26⟩; have d_26 := below_then d_25 hb_26; clear d_25; have o_26 := o_25.below hb_26; clear o_25; have iw_26 := iw_25.after hb_26; clear iw_25; have a0_26 := a0_25.after hb_26; clear a0_25; have a1_26 := a1_25.after hb_26; clear a1_25; have bx0_26 := bx0_25.after hb_26; clear bx0_25; have bx2_26 := bx2_25.after hb_26; clear bx2_25; have s0_26 := s0_25.after hb_26; clear s0_25; have s1_26 := s1_25.after hb_26; clear s1_25; clear cbx0_25; have cbx0_26 := bx0_26.1; clear c0bx2_25; clear c1bx2_25; clear c2bx2_25; clear c3bx2_25; have c0bx2_26 := bx2_26.1.1; have c1bx2_26 := bx2_26.1.2.1; have c2bx2_26 := bx2_26.1.2.2.1; have c3bx2_26 := bx2_26.1.2.2.2; have hz_26 := hb_26.size; clear hb_26)))
  rw [HLL.out] at oo_26
  obtain rfl := oo_26.len
  go_wp2_with fail
  refine (eqIntS_any _ _ _ _ _ _ LL LL _ oo_26.intsAt iw_26 hk hk).mono ?_
  rintro e w27 ⟨e27, hb_27⟩
  rw [eqL_refl] at e27
  subst e27
  have d_27 := below_then d_26 hb_27
  clear d_26
  have o_27 := o_26.below hb_27
  clear o_26
  have iw_27 := iw_26.after hb_27
  clear iw_26
  have a0_27 := a0_26.after hb_27
  clear a0_26
  have a1_27 := a1_26.after hb_27
  clear a1_26
  have bx0_27 := bx0_26.after hb_27
  clear bx0_26
  have bx2_27 := bx2_26.after hb_27
  clear bx2_26
  have s0_27 := s0_26.after hb_27
  clear s0_26
  have s1_27 := s1_26.after hb_27
  clear s1_26
  clear cbx0_26
  have cbx0_27 := bx0_27.1
  clear c0bx2_26
  clear c1bx2_26
  clear c2bx2_26
  clear c3bx2_26
  have c0bx2_27 := bx2_27.1.1
  have c1bx2_27 := bx2_27.1.2.1
  have c2bx2_27 := bx2_27.1.2.2.1
  have c3bx2_27 := bx2_27.1.2.2.2
  have hz_27 := hb_27.size
  clear hb_27
  go_wp2_with fail
  refine (heldIntS_any _ _ _ 1 _ o_27.intsAt hk (by omega) (by omega)).mono ?_
  rintro e w28 ⟨rfl, rfl⟩
  go_wp2
  go_ret
  exact ⟨rfl, below_then bD d_27⟩
end Go.Proofs.Ytbcgckdjbabdjaa
