/-
  The law BusiestMark: the call returns true.
-/
import Derived.Test.YtdkdjjdedogcbaaWBusyS
import Derived.Test.YtdkdjjdedogcbaaWBusyI
import Derived.Test.YtdkdjjdedogcbaaNStone
import Derived.Test.YtdkdjjdedogcbaaLawKit
namespace Go.Proofs.Ytdkdjjdedogcbaa
open Go.RowKit
set_option linter.unusedVariables false

set_option maxRecDepth 100000 in
set_option maxHeartbeats 1600000 in
theorem fnExactBusiestMark.walk (A0 : Option Addr) (n0 c0 : Nat) (L0 : List (Nat × List Int)) (hm0 : n0 ≤ maxLen) (A1 : Option Addr) (n1 c1 : Nat) (z1 : List Int) (w : World) (a0_ : NestAt w w.heap.size 2 A0 n0 L0) (a1_ : IntsAt w w.heap.size A1 n1 z1) :
    Calls Try.prog 8 #[.slice A0 n0 c0, .slice A1 n1 c1] w fun e w' => e = .returned (.bool true) ∧ Below w.heap.size w w' := by
  have hm0' : n0 ≤ 9223372036854775807 := by unfold maxLen at hm0; omega
  have b_0 : Below w.heap.size w w := Below.refl _ _
  have a0_0 := a0_
  have a1_0 := a1_
  by_cases hn1 : n1 ≤ 1048576
  · have ht1 : ¬ (1048576 : Int) < (n1 : Int) := by omega
    go_enter Try.func8, Try.ntmps8
    go_wp2_with fail
    refine (szStoneS_any A0 n0 c0 L0 _ _ a0_0 (by omega) (by omega) hm0').mono ?_
    rintro e w1 ⟨r1, rfl, hb_1, hr1⟩
    have b_1 := below_then b_0 hb_1
    clear b_0
    have a0_1 := a0_0.after hb_1
    clear a0_0
    have a1_1 := a1_0.after hb_1
    clear a1_0
    clear hb_1
    rcases hr1 with rfl | hr1
    · go_wp2
      go_ret
      exact ⟨rfl, b_1⟩
    obtain ⟨hr1a, hr1b, hr1c, hr1d, hr1e⟩ := hr1
    have hS0 : sumN L0 n0 ≤ 1048576 := by omega
    have hN0 : ∀ i, i < n0 → rowN L0 i ≤ 1048576 := fun i hi => by have := hr1d i hi; omega
    have HN0 := Lib.hid hN0
    clear hN0 hr1d
    have hn0 : n0 ≤ 1048576 := by omega
    have ht0 : ¬ r1 < 0 := by omega
    go_wp2_with fail
    refine (toStoneS_any A0 n0 c0 L0 _ a0_1 hn0 HN0.out).mono ?_
    rintro e w2 ⟨g2, rfl, _, r_2, hb_2⟩
    have b_2 := below_then b_1 hb_2
    clear b_1
    have a0_2 := a0_1.after hb_2
    clear a0_1
    have a1_2 := a1_1.after hb_2
    clear a1_1
    have s0_2 := r_2.nestAt a0_.1 a0_.lens HN0.out
    clear r_2 hb_2
    go_wp2_with fail
    refine (toIntS_ex A1 n1 c1 z1 _ a1_2 hn1).mono ?_
    rintro e w3 ⟨g3, rfl, _, s1_3, hb_3⟩
    have b_3 := below_then b_2 hb_3
    clear b_2
    have a0_3 := a0_2.after hb_3
    clear a0_2
    have a1_3 := a1_2.after hb_3
    clear a1_2
    have s0_3 := s0_2.after hb_3
    clear s0_2
    clear hb_3
    go_wp2_with fail
    refine (sBusiest_any _ _ _ L0 _ _ _ z1 _ s0_3 s1_3 hn1 hn0 HN0.out).mono ?_
    rintro e w4 ⟨rfl, hb_4⟩
    have b_4 := below_then b_3 hb_4
    clear b_3
    have a0_4 := a0_3.after hb_4
    clear a0_3
    have a1_4 := a1_3.after hb_4
    clear a1_3
    have s0_4 := s0_3.after hb_4
    clear s0_3
    have s1_4 := s1_3.after hb_4
    clear s1_3
    clear hb_4
    clear s0_4
    clear s1_4
    go_wp2_with fail
    refine (toStoneS_any A0 n0 c0 L0 _ a0_4 hn0 HN0.out).mono ?_
    rintro e w5 ⟨g5, rfl, _, r_5, hb_5⟩
    have b_5 := below_then b_4 hb_5
    clear b_4
    have a0_5 := a0_4.after hb_5
    clear a0_4
    have a1_5 := a1_4.after hb_5
    clear a1_4
    have s0_5 := r_5.nestAt a0_.1 a0_.lens HN0.out
    clear r_5 hb_5
    go_wp2_with fail
    refine (toIntS_ex A1 n1 c1 z1 _ a1_5 hn1).mono ?_
    rintro e w6 ⟨g6, rfl, _, s1_6, hb_6⟩
    have b_6 := below_then b_5 hb_6
    clear b_5
    have a0_6 := a0_5.after hb_6
    clear a0_5
    have a1_6 := a1_5.after hb_6
    clear a1_5
    have s0_6 := s0_5.after hb_6
    clear s0_5
    clear hb_6
    go_wp2_with fail
    refine (iBusiest_any _ _ _ L0 _ _ _ z1 _ s0_6 s1_6 hn1 hn0).mono ?_
    rintro e w7 ⟨rfl, hb_7⟩
    have b_7 := below_then b_6 hb_7
    clear b_6
    have a0_7 := a0_6.after hb_7
    clear a0_6
    have a1_7 := a1_6.after hb_7
    clear a1_6
    have s0_7 := s0_6.after hb_7
    clear s0_6
    have s1_7 := s1_6.after hb_7
    clear s1_6
    clear hb_7
    go_wp2_with fail
    refine (toStoneS_any A0 n0 c0 L0 _ a0_7 hn0 HN0.out).mono ?_
    rintro e w8 ⟨g8, rfl, _, r_8, hb_8⟩
    have b_8 := below_then b_7 hb_8
    clear b_7
    have a0_8 := a0_7.after hb_8
    clear a0_7
    have a1_8 := a1_7.after hb_8
    clear a1_7
    have s0_8 := s0_7.after hb_8
    clear s0_7
    have s1_8 := s1_7.after hb_8
    clear s1_7
    have t0_8 := r_8.nestAt a0_.1 a0_.lens HN0.out
    clear r_8 hb_8
    go_wp2_with fail
    refine (eqStoneS_same _ _ _ _ _ L0 _ s0_8 t0_8 hn0 HN0.out).mono ?_
    rintro e w9 ⟨rfl, hb_9⟩
    have b_9 := below_then b_8 hb_9
    clear b_8
    have a0_9 := a0_8.after hb_9
    clear a0_8
    have a1_9 := a1_8.after hb_9
    clear a1_8
    have s0_9 := s0_8.after hb_9
    clear s0_8
    have s1_9 := s1_8.after hb_9
    clear s1_8
    have t0_9 := t0_8.after hb_9
    clear t0_8
    clear hb_9
    go_wp2_with fail
    refine (toIntS_ex A1 n1 c1 z1 _ a1_9 hn1).mono ?_
    rintro e w10 ⟨g10, rfl, _, t1_10, hb_10⟩
    have b_10 := below_then b_9 hb_10
    clear b_9
    have a0_10 := a0_9.after hb_10
    clear a0_9
    have a1_10 := a1_9.after hb_10
    clear a1_9
    have s0_10 := s0_9.after hb_10
    clear s0_9
    have s1_10 := s1_9.after hb_10
    clear s1_9
    have t0_10 := t0_9.after hb_10
    clear t0_9
    clear hb_10
    go_wp2_with fail
    refine (eqIntS_any _ _ _ _ _ _ z1 z1 _ s1_10 t1_10 hn1 hn1).mono ?_
    rintro e w11 ⟨e11, hb_11⟩
    rw [eqL_refl] at e11
    subst e11
    have b_11 := below_then b_10 hb_11
    clear b_10
    have a0_11 := a0_10.after hb_11
    clear a0_10
    have a1_11 := a1_10.after hb_11
    clear a1_10
    have s0_11 := s0_10.after hb_11
    clear s0_10
    have s1_11 := s1_10.after hb_11
    clear s1_10
    have t0_11 := t0_10.after hb_11
    clear t0_10
    have t1_11 := t1_10.after hb_11
    clear t1_10
    clear hb_11
    go_wp2
    go_ret
    exact ⟨rfl, b_11⟩
  · have ht1 : (1048576 : Int) < (n1 : Int) := by omega
    go_enter Try.func8, Try.ntmps8
    go_wp2
    go_ret
    exact ⟨rfl, b_0⟩
end Go.Proofs.Ytdkdjjdedogcbaa
