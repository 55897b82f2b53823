/-
  The law BridgeForces: the call returns true.
-/
import Derived.Test.YtdphndjohhfgoaaWForces
import Derived.Test.YtdphndjohhfgoaaRSpan
import Derived.Test.YtdphndjohhfgoaaWMark
namespace Go.Proofs.Ytdphndjohhfgoaa
open Go.RowKit
set_option linter.unusedVariables false

theorem fcL_le (zs : List Int) (n : Nat) : (if standB zs n = true then fcL zs n n else []).length ≤ 10 := by
  split
  · rename_i h
    cases h' : spansB zs n
    · rw [standB_f h'] at h; cases h
    · rw [fcL_len]; exact (spansB_out h').1.2
  · simp

set_option maxRecDepth 100000 in
set_option maxHeartbeats 800000 in
theorem fnExactBridgeForces.walk (A : Option Addr) (n c : Nat) (zs : List Int) (hm : n ≤ maxLen) (w : World) (h : RecsAt w w.heap.size 3 A n zs) :
    Calls Try.prog 8 #[.slice A n c] w fun e w' => e = .returned (.bool true) ∧ Below w.heap.size w w' := by
  have hm' : n ≤ 9223372036854775807 := by unfold maxLen at hm; omega
  by_cases hn : n ≤ 1048576
  · have ht : ¬ (1048576 : Int) - (n : Int) < 0 := by omega
    have hll := fcL_le zs n
    go_enter Try.func8, Try.ntmps8
    go_wp2_with fail
    refine (szSpanS_ok A n c _ _ (by omega) (by omega) hm' (by omega)).mono ?_
    rintro e w0 ⟨rfl, rfl⟩
    go_wp2_with fail
    refine (toSpanS_any A n c zs _ h hn).mono ?_
    rintro e w1 ⟨rfl, r1, hb1⟩
    have h1 := h.after hb1
    have x1 := recsAt_row r1 h.1 (fun k _ => rfl)
    go_wp2_with fail
    refine (sBridgeForces_any _ _ _ zs _ x1 hn).mono ?_
    rintro e w2 ⟨A2, k2, c2, rfl, o2, hb2⟩
    have h2 := h1.after hb2
    generalize hL : (if standB zs n = true then fcL zs n n else []) = L at *
    have HL := Lib.hid hL
    clear hL
    obtain rfl := o2.len
    have i2 := o2.intsAt
    go_wp2_with fail
    refine (toSpanS_any A n c zs _ h2 hn).mono ?_
    rintro e w3 ⟨rfl, r3, hb3⟩
    have h3 := h2.after hb3
    have x3 := recsAt_row r3 h.1 (fun k _ => rfl)
    have i3 := (i2.below hb3).mono hb3.size
    go_wp2_with fail
    refine (iBridgeForces_any _ _ _ zs _ x3 hn).mono ?_
    rintro e w4 ⟨A4, k4, c4, rfl, o4, hb4⟩
    rw [HL.out] at o4
    obtain rfl := o4.len
    have h4 := h3.after hb4
    have x4 := x3.after hb4
    have i4 := (i3.below hb4).mono hb4.size
    have r4 := below_row hb4 r3 r3.lt
    have hk : L.length ≤ 1048576 := by omega
    go_wp2_with fail
    refine (eqIntS_any _ _ _ _ _ _ L L _ o4.intsAt i4 hk hk).mono ?_
    rw [eqL_refl]
    rintro e w5 ⟨rfl, hb5⟩
    have o5 := o4.below hb5
    have h5 := h4.after hb5
    have x5 := x4.after hb5
    have i5 := (i4.below hb5).mono hb5.size
    have r5 := below_row hb5 r4 r4.lt
    go_wp2_with fail
    refine (toSpanS_any A n c zs _ h5 hn).mono ?_
    rintro e w6 ⟨rfl, r6', hb6⟩
    have h6 := h5.after hb6
    have x6 := x5.after hb6
    have x6' := recsAt_row r6' h.1 (fun k _ => rfl)
    have i6 := (i5.below hb6).mono hb6.size
    have o6 := o5.below hb6
    have r6 := below_row hb6 r5 r5.lt
    go_wp2_with fail
    refine (eqSpanS_same _ _ _ _ _ zs _ x6 x6' hn).mono ?_
    rintro e w7 ⟨rfl, hb7⟩
    have h7 := h6.after hb7
    have i7 := (i6.below hb7).mono hb7.size
    have o7 := o6.below hb7
    have r7 := below_row hb7 r6 r6.lt
    have z1 := hb1.size
    have z2 := hb2.size
    have z3 := hb3.size
    have z4 := hb4.size
    have z5 := hb5.size
    have z6 := hb6.size
    have z7 := hb7.size
    have b27 : Below w2.heap.size w2 w7 := (((hb3.trans (hb4.mono (by omega))).trans (hb5.mono (by omega))).trans (hb6.mono (by omega))).trans (hb7.mono (by omega))
    have hlt3 := r3.lt
    go_wp2_with fail
    refine (markSpanS_any _ _ _ (ints zs) 1 _ r7 (intRow_ints zs) hn (by omega) (by omega)).mono ?_
    rintro e w8 ⟨rfl, _, hon⟩
    have b28 : Below w2.heap.size w2 w8 := b27.trans (hon.below (Nat.le_refl _))
    have zz8 := b28.size
    have o8 := hon.own o7 (fun e => by have := o7.ownLt _ e; omega)
    have hkk : ¬ (1 + ((n * 3 : Nat) : Int)) < 0 := by omega
    have i8 := (i2.below b28).mono b28.size
    go_wp2_with fail
    refine (eqIntS_any _ _ _ _ _ _ L L _ o8.intsAt i8 hk hk).mono ?_
    rw [eqL_refl]
    rintro e w9 ⟨rfl, hb9⟩
    have z9 := hb9.size
    have o9 := o8.below hb9
    have b29 : Below w2.heap.size w2 w9 := b28.trans (hb9.mono (by omega))
    go_wp2_with fail
    refine (markIntS_any _ _ _ L 1 w3.heap.size _ o9 hk (by omega) (by omega)).mono ?_
    rintro e w10 ⟨rfl, o10, hb10, hz10⟩
    clear hz10
    have b210 : Below w2.heap.size w2 w10 := b29.trans (hb10.mono (by omega))
    have zz10 := b210.size
    go_wp2_with fail
    refine (heldIntS_any _ _ _ 1 _ o10.intsAt hk (by omega) (by omega)).mono ?_
    rintro e w10' ⟨rfl, rfl⟩
    have hnn : ¬ (1 + (L.length : Int)) < 0 := by omega
    have h10 := (h2.below b210).mono b210.size
    go_wp2_with fail
    refine (toSpanS_any A n c zs _ h10 hn).mono ?_
    rintro e w11 ⟨rfl, r11, hb11⟩
    have x11 := recsAt_row r11 h.1 (fun k _ => rfl)
    have z11 := hb11.size
    go_wp2_with fail
    refine (iBridgeForces_any _ _ _ zs _ x11 hn).mono ?_
    rintro e w12 ⟨A12, k12, c12, rfl, o12, hb12⟩
    rw [HL.out] at o12
    obtain rfl := o12.len
    have z12 := hb12.size
    have b212 : Below w2.heap.size w2 w12 := (b210.trans (hb11.mono (by omega))).trans (hb12.mono (by omega))
    have i12 := (i2.below b212).mono b212.size
    go_wp2_with fail
    refine (eqIntS_any _ _ _ _ _ _ L L _ o12.intsAt i12 hk hk).mono ?_
    rw [eqL_refl]
    rintro e w13 ⟨rfl, hb13⟩
    have o13 := ((o10.below hb11).below hb12).below hb13
    go_wp2_with fail
    refine (heldIntS_any _ _ _ 1 _ o13.intsAt hk (by omega) (by omega)).mono ?_
    rintro e w13' ⟨rfl, rfl⟩
    go_wp2
    go_ret
    exact ⟨rfl, ((hb1.trans (hb2.mono z1)).trans (b212.mono (by omega))).trans (hb13.mono (by omega))⟩
  · go_enter Try.func8, Try.ntmps8
    go_wp2_with fail
    refine (szSpanS_no A n c _ _ (by omega) (by omega) hm' (by omega)).mono ?_
    rintro e w0 ⟨rfl, rfl⟩
    go_wp2
    go_ret
    exact ⟨rfl, Below.refl _ _⟩

end Go.Proofs.Ytdphndjohhfgoaa
