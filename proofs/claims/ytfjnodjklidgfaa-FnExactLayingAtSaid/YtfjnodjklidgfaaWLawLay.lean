/-
  The law LayingAt: the call returns true.
-/
import Derived.Test.YtfjnodjklidgfaaWLay
import Derived.Test.YtfjnodjklidgfaaWMark
namespace Go.Proofs.Ytfjnodjklidgfaa
open Go.RowKit
set_option linter.unusedVariables false

theorem layL_le (n x : Int) : (if layOk n x = true then layL n x else []).length ≤ 8 := by
  split
  · rename_i h
    simp only [layOk, Bool.and_eq_true, inB_iff] at h
    rw [layL, List.length_append, outL_length]
    simp
    omega
  · simp

set_option maxHeartbeats 400000 in
theorem fnExactLayingAt.walk (n : Int) (hn0 : -9223372036854775808 ≤ n) (hn1 : n ≤ 9223372036854775807) (x : Int) (_ : -9223372036854775808 ≤ x) (_ : x ≤ 9223372036854775807) (w : World) :
    Calls Try.prog 11 #[.int .i64 n, .int .i64 x] w fun e w' => e = .returned (.bool true) ∧ Below w.heap.size w w' := by
  have hll := layL_le n x
  go_enter Try.func11, Try.ntmps11
  go_wp2_with fail
  refine (sLayingAt_any n x _ hn0 hn1).mono ?_
  rintro e w1 ⟨A1, k1, c1, rfl, o1, hb1⟩
  generalize hL : (if layOk n x = true then layL n x else []) = L at *
  have HL := Lib.hid hL
  clear hL
  obtain rfl := o1.len
  go_wp2_with fail
  refine (iLayingAt_any n x _ hn0 hn1).mono ?_
  rintro e w2 ⟨A2, k2, c2, rfl, o2, hb2⟩
  rw [HL.out] at o2
  obtain rfl := o2.len
  have i1 := (o1.intsAt.below hb2).mono hb2.size
  have i2 := o2.intsAt
  have hk : L.length ≤ 1048576 := by omega
  go_wp2_with fail
  refine (eqIntS_any _ _ _ _ _ _ L L _ i2 i1 hk hk).mono ?_
  rw [eqL_refl]
  rintro e w3 ⟨rfl, hb3⟩
  have o3 := o2.below hb3
  go_wp2_with fail
  refine (markIntS_any _ _ _ L 1 w1.heap.size _ o3 hk (by omega) (by omega)).mono ?_
  rintro e w4 ⟨rfl, o4, hb4, hz4⟩
  clear hz4
  go_wp2_with fail
  refine (heldIntS_any _ _ _ 1 _ o4.intsAt hk (by omega) (by omega)).mono ?_
  rintro e w4' ⟨rfl, rfl⟩
  have hnn : ¬ (1 + (L.length : Int)) < 0 := by omega
  go_wp2_with fail
  refine (iLayingAt_any n x _ hn0 hn1).mono ?_
  rintro e w5 ⟨A5, k5, c5, rfl, o5, hb5⟩
  rw [HL.out] at o5
  obtain rfl := o5.len
  have z2 := hb2.size
  have z3 := hb3.size
  have z4 := hb4.size
  have z5 := hb5.size
  have i1' : IntsAt w5 w5.heap.size A1 L.length L := ((((o1.intsAt.below hb2).below (hb3.mono z2)).below hb4).below (hb5.mono (by omega))).mono (by omega)
  go_wp2_with fail
  refine (eqIntS_any _ _ _ _ _ _ L L _ o5.intsAt i1' hk hk).mono ?_
  rw [eqL_refl]
  rintro e w6 ⟨rfl, hb6⟩
  have o6 := (o4.below hb5).below hb6
  go_wp2_with fail
  refine (heldIntS_any _ _ _ 1 _ o6.intsAt hk (by omega) (by omega)).mono ?_
  rintro e w6' ⟨rfl, rfl⟩
  go_wp2
  go_ret
  have z1 := hb1.size
  exact ⟨rfl, ((((hb1.trans (hb2.mono z1)).trans (hb3.mono (by omega))).trans (hb4.mono (by omega))).trans (hb5.mono (by omega))).trans (hb6.mono (by omega))⟩

end Go.Proofs.Ytfjnodjklidgfaa
