/-
  The law CarriedOk: the call returns true.
-/
import Derived.Test.YtdkdjjdedogcbaaWCarried
import Derived.Test.YtdkdjjdedogcbaaRArch
import Derived.Test.YtdkdjjdedogcbaaLawKit
namespace Go.Proofs.Ytdkdjjdedogcbaa
open Go.RowKit
set_option linter.unusedVariables false

set_option maxRecDepth 100000 in
set_option maxHeartbeats 800000 in
theorem fnExactCarriedOk.walk (A : Option Addr) (n c : Nat) (zs : List Int) (hm : n ≤ maxLen) (B : Option Addr) (q d : Nat) (cs : List Int) (w : World) (h : RecsAt w w.heap.size 4 A n zs) (hi : IntsAt w w.heap.size B q cs) :
    Calls Try.prog 5 #[.agg #[.slice A n c], .slice B q d] w fun e w' => e = .returned (.bool true) ∧ Below w.heap.size w w' := by
  have hm' : n ≤ 9223372036854775807 := by unfold maxLen at hm; omega
  have b0 : Below w.heap.size w (w.alloc (.cells #[.slice A n c] 34)) := (Below.refl _ _).alloc (Nat.le_refl _) _
  have bx0 : Box (w.alloc (.cells #[.slice A n c] 34)) w.heap.size (.slice A n c) := Box.new _ _ _
  have h0 := h.after b0
  have i0 := hi.after b0
  by_cases hq : q ≤ 1048576
  · have hq' : ¬ (1048576 : Int) < (q : Int) := by omega
    by_cases hn : n ≤ 1048576
    · have ht : ¬ (1048576 : Int) - (n : Int) < 0 := by omega
      go_enter Try.func5, Try.ntmps5
      go_wp2_with fail
      refine (szArch_ok A n c _ _ (by omega) (by omega) hm' (by omega)).mono ?_
      rintro e w1 ⟨rfl, hb1⟩
      have b1 := below_then b0 hb1
      have h1 := h0.after hb1
      have i1 := i0.after hb1
      have bx1 := bx0.after hb1
      have cx1 := bx1.1
      clear b0 h0 i0 bx0 hb1
      go_wp2_with fail
      refine (toArch_any A n c zs _ h1 hn).mono ?_
      rintro e w2 ⟨g2, rfl, _, r2, hb2⟩
      have b2 := below_then b1 hb2
      have h2 := h1.after hb2
      have i2 := i1.after hb2
      have bx2 := bx1.after hb2
      have cx2 := bx2.1
      have y2 := recsAt_row r2 h.1 (fun k _ => rfl)
      clear b1 h1 i1 bx1 hb2 cx1
      go_wp2_with fail
      refine (toIntS_ex B q d cs _ i2 hq).mono ?_
      rintro e w3 ⟨g3, rfl, _, z3, hb3⟩
      have b3 := below_then b2 hb3
      have h3 := h2.after hb3
      have i3 := i2.after hb3
      have bx3 := bx2.after hb3
      have y3 := y2.after hb3
      have cx3 := bx3.1
      clear b2 h2 i2 bx2 hb3 cx2 y2
      go_wp2_with fail
      refine (sCarriedOk_any _ _ _ zs _ _ _ cs _ y3 hn z3 hq).mono ?_
      rintro e w4 ⟨rfl, hb4⟩
      have b4 := below_then b3 hb4
      have h4 := h3.after hb4
      have i4 := i3.after hb4
      have bx4 := bx3.after hb4
      have cx4 := bx4.1
      clear b3 h3 i3 bx3 hb4 cx3 y3
      go_wp2_with fail
      refine (toArch_any A n c zs _ h4 hn).mono ?_
      rintro e w5 ⟨g5, rfl, _, r5, hb5⟩
      have b5 := below_then b4 hb5
      have h5 := h4.after hb5
      have i5 := i4.after hb5
      have bx5 := bx4.after hb5
      have y5 := recsAt_row r5 h.1 (fun k _ => rfl)
      clear b4 h4 i4 bx4 hb5 cx4
      have hb6 : Below w5.heap.size w5 (w5.alloc (.cells #[.slice (some ⟨g5, 0, none⟩) n n] 39)) := (Below.refl _ _).alloc (Nat.le_refl _) _
      have b6 := below_then b5 hb6
      have h6 := h5.after hb6
      have i6 := i5.after hb6
      have bx6 := bx5.after hb6
      have y6 := y5.after hb6
      have by6 : Box (w5.alloc (.cells #[.slice (some ⟨g5, 0, none⟩) n n] 39)) w5.heap.size (.slice (some ⟨g5, 0, none⟩) n n) := Box.new _ _ _
      clear b5 h5 i5 bx5 hb6 y5
      go_wp2_with fail
      refine (toIntS_ex B q d cs _ i6 hq).mono ?_
      rintro e w7 ⟨g7, rfl, _, z7, hb7⟩
      have b7 := below_then b6 hb7
      have h7 := h6.after hb7
      have i7 := i6.after hb7
      have bx7 := bx6.after hb7
      have y7 := y6.after hb7
      have by7 := by6.after hb7
      have cy7 := by7.1
      clear b6 h6 i6 bx6 hb7 y6 by6
      go_wp2_with fail
      refine (iCarriedOk_any _ _ _ zs _ _ _ cs _ y7 hn z7 hq).mono ?_
      rintro e w8 ⟨rfl, hb8⟩
      have b8 := below_then b7 hb8
      have h8 := h7.after hb8
      have i8 := i7.after hb8
      have bx8 := bx7.after hb8
      have y8 := y7.after hb8
      have z8 := z7.after hb8
      have by8 := by7.after hb8
      have cy8 := by8.1
      have cx8 := bx8.1
      clear b7 h7 i7 bx7 hb8 y7 by7 z7 cy7
      go_wp2_with fail
      go_region_held3 (fun w' => w'.cell? ⟨w5.heap.size, 0, none⟩ = some (.slice (some ⟨g5, 0, none⟩) n n) ∧ w'.cell? ⟨w.heap.size, 0, none⟩ = some (.slice A n c)) (first | exact ⟨cy8, cx8⟩ | exact ⟨cy9, cx9⟩ | exact ⟨cy10, cx10⟩) ((first | (go_at_call 22; refine (toArch_any A n c zs _ (by exact h8) hn).mono ?_; rintro e w9 ⟨g9, rfl, _, r9, hb9'⟩; have hb9 := below_undrew hb9'; have y9 := y8.after hb9; have v9 := recsAt_row r9 h.1 (fun k _ => rfl); have cy9 := (by8.after hb9).1; have cx9 := (bx8.after hb9).1) | (go_at_call 24; refine (eqArch_same _ _ _ _ _ zs _ (by exact y9) (by exact v9) hn).mono ?_; rintro e w10 ⟨rfl, hb10⟩; have cy10 := ((by8.after hb9).after hb10).1; have cx10 := ((bx8.after hb9).after hb10).1)))
      have b10 := below_then (below_then b8 hb9) hb10
      have i10 := (i8.after hb9).after hb10
      have z10 := (z8.after hb9).after hb10
      go_wp2_with fail
      refine (toIntS_ex B q d cs _ (by exact i10) hq).mono ?_
      rintro e w11 ⟨g11, rfl, _, z11, hb11⟩
      have y11 := z10.after hb11
      have b11 := below_then b10 hb11
      go_wp2_with fail
      refine (eqIntS_any _ _ _ _ _ _ cs cs _ y11 z11 hq hq).mono ?_
      rw [eqL_refl]
      rintro e w12 ⟨rfl, hb12⟩
      have b12 := below_then b11 hb12
      go_wp2
      go_ret
      exact ⟨rfl, b12⟩
    · go_enter Try.func5, Try.ntmps5
      go_wp2_with fail
      refine (szArch_no A n c _ _ (by omega) (by omega) hm' (by omega)).mono ?_
      rintro e w1 ⟨rfl, hb1⟩
      go_wp2
      go_ret
      exact ⟨rfl, below_then b0 hb1⟩
  · have hq' : (1048576 : Int) < (q : Int) := by omega
    go_enter Try.func5, Try.ntmps5
    go_wp2
    go_ret
    exact ⟨rfl, b0⟩
end Go.Proofs.Ytdkdjjdedogcbaa
