/-
  The law WasteOf: the call returns true.
-/
import Derived.Test.YtdphndjohhfgoaaWWaste
namespace Go.Proofs.Ytdphndjohhfgoaa
open Go.RowKit
set_option linter.unusedVariables false

set_option maxHeartbeats 400000 in
theorem fnExactWasteOf.walk (A : Option Addr) (n c : Nat) (zs : List Int) (p0 : Int) (hlp0 : -9223372036854775808 ≤ p0) (hup0 : p0 ≤ 9223372036854775807) (w : World) (h : IntsAt w w.heap.size A n zs) :
    Calls Try.prog 3 #[.slice A n c, .int .i64 p0] w fun e w' => e = .returned (.bool true) ∧ Below w.heap.size w w' := by
  by_cases hn : n ≤ 1048576
  · have ht : ¬ (1048576 : Int) < (n : Int) := by omega
    go_enter Try.func3, Try.ntmps3
    go_wp2_with fail
    refine (toIntS_any A n c zs _ h hn).mono ?_
    rintro e w1 ⟨rfl, x1, hb1⟩
    have h1 := (h.below hb1).mono hb1.size
    go_wp2_with fail
    refine (sWasteOf_any _ _ _ zs p0 _ x1 hn).mono ?_
    rintro e w2 ⟨rfl, hb2⟩
    have h2 := (h1.below hb2).mono hb2.size
    go_wp2_with fail
    refine (toIntS_any A n c zs _ h2 hn).mono ?_
    rintro e w3 ⟨rfl, x3, hb3⟩
    have h3 := (h2.below hb3).mono hb3.size
    go_wp2_with fail
    refine (iWasteOf_any _ _ _ zs p0 _ x3 hn).mono ?_
    rintro e w4 ⟨rfl, hb4⟩
    have h4 := (h3.below hb4).mono hb4.size
    have x4 := (x3.below hb4).mono hb4.size
    go_wp2_with fail
    refine (toIntS_any A n c zs _ h4 hn).mono ?_
    rintro e w5 ⟨rfl, x5, hb5⟩
    have x4' := (x4.below hb5).mono hb5.size
    go_wp2_with fail
    refine (eqIntS_any _ _ _ _ _ _ zs zs _ x4' x5 hn hn).mono ?_
    rw [eqL_refl]
    rintro e w6 ⟨rfl, hb6⟩
    go_wp2
    go_ret
    have z1 := hb1.size
    have z2 := hb2.size
    have z3 := hb3.size
    have z4 := hb4.size
    have z5 := hb5.size
    exact ⟨rfl, ((((hb1.trans (hb2.mono z1)).trans (hb3.mono (by omega))).trans (hb4.mono (by omega))).trans (hb5.mono (by omega))).trans (hb6.mono (by omega))⟩
  · have ht : (1048576 : Int) < (n : Int) := by omega
    go_enter Try.func3, Try.ntmps3
    go_wp2
    go_ret
    exact ⟨rfl, Below.refl _ _⟩

end Go.Proofs.Ytdphndjohhfgoaa
