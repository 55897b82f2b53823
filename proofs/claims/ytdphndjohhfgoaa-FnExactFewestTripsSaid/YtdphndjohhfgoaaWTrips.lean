/-
  FewestTrips: its contracts, and the law.
-/
import Derived.Test.YtdphndjohhfgoaaWFew
import Derived.Test.YtdphndjohhfgoaaWLift
namespace Go.Proofs.Ytdphndjohhfgoaa
open Go.RowKit
set_option linter.unusedVariables false

def tripsL (p a x : Int) (zs : List Int) : Int := if liftB p a x = true then fewI zs (capI p a x) else -1
theorem tripsL_t {p a x : Int} {zs : List Int} (h : liftB p a x = true) : tripsL p a x zs = fewI zs (capI p a x) := by simp [tripsL, h]
theorem tripsL_f {p a x : Int} {zs : List Int} (h : liftB p a x = false) : tripsL p a x zs = -1 := by simp [tripsL, h]
theorem few_big {zs : List Int} {len : Int} (h : 1000 < len) : fewI zs len = -1 := fewI_f (okB_f1 (inB_f (by omega)))

set_option maxHeartbeats 400000 in
theorem sFewestTrips_any (p a x : Int) (A : Option Addr) (n c : Nat) (zs : List Int) (w : World) (h : IntsAt w w.heap.size A n zs) (hn : n ≤ 1048576) :
    Calls Try.prog 19 #[.agg #[.int .i64 p, .int .i64 a, .int .i64 x], .slice A n c] w fun e w' => e = .returned (.int .i64 (tripsL p a x zs)) ∧ Below w.heap.size w w' := by
  cases hL : liftB p a x
  · have HF := Lib.hid (tripsL_f (zs := zs) hL)
    go_enter Try.func19, Try.ntmps19
    go_wp2_with (go_at_call 54; refine (sLiftOk_any _ _ _ _).mono ?_; rintro e w1 ⟨rfl, hb1⟩)
    go_ret
    exact ⟨ret_int HF.out.symm, ((Below.refl _ _).alloc (Nat.le_refl _) _).trans (hb1.mono (by simp))⟩
  · have HF := Lib.hid (tripsL_t (zs := zs) hL)
    have hcb := capI_bd p a x
    go_enter Try.func19, Try.ntmps19
    go_wp2_with fail
    refine (sLiftOk_any _ _ _ _).mono ?_
    rintro e w1 ⟨rfl, hb1⟩
    obtain ⟨hc1, hf1⟩ := bcell hb1
    have z1 : w.heap.size < w1.heap.size := by have := hb1.size; simp at this; omega
    go_wp2_with fail
    refine (sCapacityOf_any _ _ _ _).mono ?_
    rintro e w2 ⟨rfl, hb2⟩
    obtain ⟨hc2, hf2⟩ := bcell hb2
    have z2 : w.heap.size < w2.heap.size := by have := hb2.size; omega
    have hB : Below w.heap.size w w2 := (((Below.refl _ _).alloc (Nat.le_refl _) _).trans (hb1.mono (by simp))).trans (hb2.mono (by omega))
    by_cases hbig : 1000 < capI p a x
    · have HG := Lib.hid (few_big (zs := zs) hbig)
      go_wp2
      go_ret
      exact ⟨ret_int (by rw [HF.out, HG.out]), hB⟩
    · have hd : decide (1000 < capI p a x) = false := decide_eq_false hbig
      go_wp2_with fail
      refine (sCapacityOf_any _ _ _ _).mono ?_
      rintro e w3 ⟨rfl, hb3⟩
      have hB3 : Below w.heap.size w w3 := hB.trans (hb3.mono (by omega))
      have h3 := (h.below hB3).mono hB3.size
      clear hc1 hf1 hc2 hf2
      go_wp2_with fail
      refine (sFewestBlocks_any _ _ _ zs _ _ h3 hn).mono ?_
      rintro e w4 ⟨rfl, hb4⟩
      go_wp2
      go_ret
      exact ⟨ret_int HF.out.symm, hB3.trans (hb4.mono hB3.size)⟩

set_option maxHeartbeats 400000 in
theorem iFewestTrips_any (p a x : Int) (A : Option Addr) (n c : Nat) (zs : List Int) (w : World) (h : IntsAt w w.heap.size A n zs) (hn : n ≤ 1048576) :
    Calls Try.prog 21 #[.agg #[.int .i64 p, .int .i64 a, .int .i64 x], .slice A n c] w fun e w' => e = .returned (.int .i64 (tripsL p a x zs)) ∧ Below w.heap.size w w' := by
  cases hL : liftB p a x
  · have HF := Lib.hid (tripsL_f (zs := zs) hL)
    go_enter Try.func21, Try.ntmps21
    go_wp2_with (go_at_call 56; refine (iLiftOk_any _ _ _ _).mono ?_; rintro e w1 ⟨rfl, hb1⟩)
    go_ret
    exact ⟨ret_int HF.out.symm, ((Below.refl _ _).alloc (Nat.le_refl _) _).trans (hb1.mono (by simp))⟩
  · have HF := Lib.hid (tripsL_t (zs := zs) hL)
    go_enter Try.func21, Try.ntmps21
    go_wp2_with fail
    refine (iLiftOk_any _ _ _ _).mono ?_
    rintro e w1 ⟨rfl, hb1⟩
    obtain ⟨hc1, hf1⟩ := bcell hb1
    have z1 : w.heap.size < w1.heap.size := by have := hb1.size; simp at this; omega
    go_wp2_with fail
    refine (iCapacityOf_any _ _ _ _).mono ?_
    rintro e w2 ⟨rfl, hb2⟩
    have hB : Below w.heap.size w w2 := (((Below.refl _ _).alloc (Nat.le_refl _) _).trans (hb1.mono (by simp))).trans (hb2.mono (by omega))
    have h2 := (h.below hB).mono hB.size
    clear hc1 hf1
    go_wp2_with fail
    refine (iFewestBlocks_any _ _ _ zs _ _ h2 hn).mono ?_
    rintro e w4 ⟨rfl, hb4⟩
    go_wp2
    go_ret
    exact ⟨ret_int HF.out.symm, hB.trans (hb4.mono hB.size)⟩

set_option maxHeartbeats 400000 in
theorem fnExactFewestTrips.walk (p : Int) (_ : -9223372036854775808 ≤ p) (_ : p ≤ 9223372036854775807) (a : Int) (_ : -9223372036854775808 ≤ a) (_ : a ≤ 9223372036854775807) (x : Int) (_ : -9223372036854775808 ≤ x) (_ : x ≤ 9223372036854775807)
    (A : Option Addr) (n c : Nat) (zs : List Int) (w : World) (h : IntsAt w w.heap.size A n zs) :
    Calls Try.prog 5 #[.agg #[.int .i64 p, .int .i64 a, .int .i64 x], .slice A n c] w fun e w' => e = .returned (.bool true) ∧ Below w.heap.size w w' := by
  by_cases hn : n ≤ 1048576
  · have ht : ¬ (1048576 : Int) < (n : Int) := by omega
    go_enter Try.func5, Try.ntmps5
    go_wp2_with fail
    refine (toLift_any p a x _).mono ?_
    rintro e w1 ⟨rfl, hb1⟩
    obtain ⟨hc1, hf1⟩ := bcell hb1
    have z1 : w.heap.size < w1.heap.size := by have := hb1.size; simp at this; omega
    have B1 : Below w.heap.size w w1 := ((Below.refl _ _).alloc (Nat.le_refl _) _).trans (hb1.mono (by simp))
    have h1 := (h.below B1).mono B1.size
    go_wp2_with fail
    refine (toIntS_any A n c zs _ h1 hn).mono ?_
    rintro e w2 ⟨rfl, x2, hb2⟩
    obtain ⟨hc2, hf2⟩ := bcell hb2
    have z2 : w.heap.size < w2.heap.size := by have := hb2.size; omega
    have B2 := B1.trans (hb2.mono B1.size)
    go_wp2_with fail
    refine (sFewestTrips_any p a x _ _ _ zs _ x2 hn).mono ?_
    rintro e w3 ⟨rfl, hb3⟩
    obtain ⟨hc3, hf3⟩ := bcell hb3
    have z3 : w.heap.size < w3.heap.size := by have := hb3.size; omega
    have B3 := B2.trans (hb3.mono B2.size)
    have h3 := (h.below B3).mono B3.size
    go_wp2_with fail
    refine (toIntS_any A n c zs _ h3 hn).mono ?_
    rintro e w4 ⟨rfl, x4, hb4⟩
    obtain ⟨hc4, hf4⟩ := bcell hb4
    have z4 : w.heap.size < w4.heap.size := by have := hb4.size; omega
    have B4 := B3.trans (hb4.mono B3.size)
    go_wp2_with fail
    refine (toLift_any p a x _).mono ?_
    rintro e w5 ⟨rfl, hb5⟩
    have x5 := (x4.below hb5).mono hb5.size
    have B5 := B4.trans (hb5.mono B4.size)
    clear hc1 hf1 hc2 hf2 hc3 hf3 hc4 hf4
    go_wp2_with fail
    refine (iFewestTrips_any p a x _ _ _ zs _ x5 hn).mono ?_
    rintro e w6 ⟨rfl, hb6⟩
    have B6 := B5.trans (hb6.mono B5.size)
    have h6 := (h.below B6).mono B6.size
    have x6 := (x5.below hb6).mono hb6.size
    go_wp2_with fail
    refine (toIntS_any A n c zs _ h6 hn).mono ?_
    rintro e w7 ⟨rfl, x7, hb7⟩
    have x6' := (x6.below hb7).mono hb7.size
    have B7 := B6.trans (hb7.mono B6.size)
    go_wp2_with fail
    refine (eqIntS_any _ _ _ _ _ _ zs zs _ x6' x7 hn hn).mono ?_
    rw [eqL_refl]
    rintro e w8 ⟨rfl, hb8⟩
    go_wp2
    go_ret
    exact ⟨rfl, B7.trans (hb8.mono B7.size)⟩
  · have ht : (1048576 : Int) < (n : Int) := by omega
    go_enter Try.func5, Try.ntmps5
    go_wp2
    go_ret
    exact ⟨rfl, (Below.refl _ _).alloc (Nat.le_refl _) _⟩

end Go.Proofs.Ytdphndjohhfgoaa
