/-
  The laws KeyOf and CountCracks: each call returns true.
-/
import Derived.Test.YtfjnodjklidgfaaWKey
namespace Go.Proofs.Ytfjnodjklidgfaa
open Go.RowKit

set_option maxHeartbeats 400000 in
theorem fnExactKeyOf.walk (A : Option Addr) (n c : Nat) (zs : List Int) (w : World) (h : IntsAt w w.heap.size A n zs) :
    Calls Try.prog 7 #[.slice A n c] w fun e w' => e = .returned (.bool true) ∧ Below w.heap.size w w' := by
  by_cases hn : n ≤ 1048576
  · have ht : ¬ (1048576 : Int) < (n : Int) := by omega
    go_enter Try.func7, Try.ntmps7
    go_wp2_with fail
    refine (toIntS_any A n c zs _ h hn).mono ?_
    rintro e w1 ⟨rfl, x1, hb1⟩
    have h1 := (h.below hb1).mono hb1.size
    go_wp2_with fail
    refine (sKeyOf_any _ _ _ zs _ x1 hn).mono ?_
    rintro e w1' ⟨rfl, rfl⟩
    go_wp2_with fail
    refine (toIntS_any A n c zs _ h1 hn).mono ?_
    rintro e w2 ⟨rfl, x2, hb2⟩
    have h2 := (h1.below hb2).mono hb2.size
    go_wp2_with fail
    refine (iKeyOf_any _ _ _ zs _ x2 hn).mono ?_
    rintro e w2' ⟨rfl, rfl⟩
    go_wp2_with fail
    refine (toIntS_any A n c zs _ h2 hn).mono ?_
    rintro e w3 ⟨rfl, x3, hb3⟩
    have x2' := (x2.below hb3).mono hb3.size
    go_wp2_with fail
    refine (eqIntS_any _ _ _ _ _ _ zs zs _ x2' x3 hn hn).mono ?_
    rw [eqL_refl]
    rintro e w4 ⟨rfl, hb4⟩
    go_wp2
    go_ret
    exact ⟨rfl, ((hb1.trans (hb2.mono hb1.size)).trans (hb3.mono (Nat.le_trans hb1.size hb2.size))).trans (hb4.mono (Nat.le_trans hb1.size (Nat.le_trans hb2.size hb3.size)))⟩
  · have ht : (1048576 : Int) < (n : Int) := by omega
    go_enter Try.func7, Try.ntmps7
    go_wp2
    go_ret
    exact ⟨rfl, Below.refl _ _⟩

set_option maxHeartbeats 400000 in
theorem fnExactCountCracks.walk (A : Option Addr) (n c : Nat) (zs : List Int) (w : World) (h : IntsAt w w.heap.size A n zs) :
    Calls Try.prog 8 #[.slice A n c] w fun e w' => e = .returned (.bool true) ∧ Below w.heap.size w w' := by
  by_cases hn : n ≤ 1048576
  · have ht : ¬ (1048576 : Int) < (n : Int) := by omega
    go_enter Try.func8, Try.ntmps8
    go_wp2_with fail
    refine (toIntS_any A n c zs _ h hn).mono ?_
    rintro e w1 ⟨rfl, x1, hb1⟩
    have h1 := (h.below hb1).mono hb1.size
    go_wp2_with fail
    refine (sCountCracks_any _ _ _ zs _ x1 hn).mono ?_
    rintro e w1' ⟨rfl, rfl⟩
    go_wp2_with fail
    refine (toIntS_any A n c zs _ h1 hn).mono ?_
    rintro e w2 ⟨rfl, x2, hb2⟩
    have h2 := (h1.below hb2).mono hb2.size
    go_wp2_with fail
    refine (iCountCracks_any _ _ _ zs _ x2 hn).mono ?_
    rintro e w2' ⟨rfl, rfl⟩
    go_wp2_with fail
    refine (toIntS_any A n c zs _ h2 hn).mono ?_
    rintro e w3 ⟨rfl, x3, hb3⟩
    have x2' := (x2.below hb3).mono hb3.size
    go_wp2_with fail
    refine (eqIntS_any _ _ _ _ _ _ zs zs _ x2' x3 hn hn).mono ?_
    rw [eqL_refl]
    rintro e w4 ⟨rfl, hb4⟩
    go_wp2
    go_ret
    exact ⟨rfl, ((hb1.trans (hb2.mono hb1.size)).trans (hb3.mono (Nat.le_trans hb1.size hb2.size))).trans (hb4.mono (Nat.le_trans hb1.size (Nat.le_trans hb2.size hb3.size)))⟩
  · have ht : (1048576 : Int) < (n : Int) := by omega
    go_enter Try.func8, Try.ntmps8
    go_wp2
    go_ret
    exact ⟨rfl, Below.refl _ _⟩

end Go.Proofs.Ytfjnodjklidgfaa
