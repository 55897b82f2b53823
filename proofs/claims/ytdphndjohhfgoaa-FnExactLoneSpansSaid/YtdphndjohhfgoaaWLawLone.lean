/-
  The law LoneSpans: the call returns true.
-/
import Derived.Test.YtdphndjohhfgoaaWStand
import Derived.Test.YtdphndjohhfgoaaRSpan
namespace Go.Proofs.Ytdphndjohhfgoaa
open Go.RowKit
set_option linter.unusedVariables false

set_option maxHeartbeats 400000 in
theorem fnExactLoneSpans.walk (A : Option Addr) (n c : Nat) (zs : List Int) (hm : n ≤ maxLen) (p0 : Int) (hlp0 : -9223372036854775808 ≤ p0) (hup0 : p0 ≤ 9223372036854775807) (w : World) (h : RecsAt w w.heap.size 3 A n zs) :
    Calls Try.prog 4 #[.slice A n c, .int .i64 p0] w fun e w' => e = .returned (.bool true) ∧ Below w.heap.size w w' := by
  have hm' : n ≤ 9223372036854775807 := by unfold maxLen at hm; omega
  by_cases hn : n ≤ 1048576
  · have ht : ¬ (1048576 : Int) - (n : Int) < 0 := by omega
    go_enter Try.func4, Try.ntmps4
    go_wp2_with fail
    refine (szSpanS_ok A n c _ _ (by omega) (by omega) hm' (by omega)).mono ?_
    rintro e w0 ⟨rfl, rfl⟩
    go_wp2_with fail
    refine (toSpanS_any A n c zs _ h hn).mono ?_
    rintro e w1 ⟨rfl, r1, hb1⟩
    have h1 := h.after hb1
    have x1 := recsAt_row r1 h.1 (fun k _ => rfl)
    go_wp2_with fail
    refine (sLoneSpans_any _ _ _ zs p0 _ x1 hn).mono ?_
    rintro e w2 ⟨rfl, hb2⟩
    have h2 := h1.after hb2
    go_wp2_with fail
    refine (toSpanS_any A n c zs _ h2 hn).mono ?_
    rintro e w3 ⟨rfl, r3, hb3⟩
    have h3 := h2.after hb3
    have x3 := recsAt_row r3 h.1 (fun k _ => rfl)
    go_wp2_with fail
    refine (iLoneSpans_any _ _ _ zs p0 _ x3 hn).mono ?_
    rintro e w4 ⟨rfl, hb4⟩
    have h4 := h3.after hb4
    have x4 := x3.after hb4
    go_wp2_with fail
    refine (toSpanS_any A n c zs _ h4 hn).mono ?_
    rintro e w5 ⟨rfl, r5, hb5⟩
    have x4' := x4.after hb5
    have x5 := recsAt_row r5 h.1 (fun k _ => rfl)
    go_wp2_with fail
    refine (eqSpanS_same _ _ _ _ _ zs _ x4' x5 hn).mono ?_
    rintro e w6 ⟨rfl, hb6⟩
    go_wp2
    go_ret
    have z1 := hb1.size
    have z2 := hb2.size
    have z3 := hb3.size
    have z4 := hb4.size
    have z5 := hb5.size
    exact ⟨rfl, ((((hb1.trans (hb2.mono z1)).trans (hb3.mono (by omega))).trans (hb4.mono (by omega))).trans (hb5.mono (by omega))).trans (hb6.mono (by omega))⟩
  · go_enter Try.func4, Try.ntmps4
    go_wp2_with fail
    refine (szSpanS_no A n c _ _ (by omega) (by omega) hm' (by omega)).mono ?_
    rintro e w0 ⟨rfl, rfl⟩
    go_wp2
    go_ret
    exact ⟨rfl, Below.refl _ _⟩

end Go.Proofs.Ytdphndjohhfgoaa
