/-
  Contracts: InMiddle in the program and in the reference.
-/
import Derived.Test.YtdjhiegolojoaaaWMargin
namespace Go.Proofs.Ytdjhiegolojoaaa
open Go.RowKit
set_option linter.unusedSimpArgs false

/-- The margin is at least 1 / k. -/
def midB (L : List Int) (m : Nat) (k : Int) : Bool := decide (0 < m) && (inB k 2 100 && decide (mgD L m ≤ mgN L m * k))
theorem midB_1 (L : List Int) {m : Nat} (k : Int) (h : ¬ 0 < m) : midB L m k = false := by simp [midB, h]
theorem midB_2 (L : List Int) (m : Nat) {k : Int} (h : inB k 2 100 = false) : midB L m k = false := by simp [midB, h]
theorem midB_t {L : List Int} {m : Nat} {k : Int} (h1 : 0 < m) (h : inB k 2 100 = true) : midB L m k = decide (mgD L m ≤ mgN L m * k) := by simp [midB, h1, h]
theorem mg_bd {L : List Int} {m : Nat} (hP : PlAll L m) (h : 0 < m) : (0 ≤ mgN L m ∧ mgN L m ≤ 2000000000000000) ∧ (0 < mgD L m ∧ mgD L m ≤ 2000000000000000) := by
  rw [(mg_t h).1, (mg_t h).2]
  exact mgTo_bd hP m (Nat.le_refl _)
theorem mid_less {L : List Int} {m : Nat} {k : Int} (hP : PlAll L m) (h : 0 < m) (hk : inB k 2 100 = true) : (!plLI (mgN L m) (mgD L m) 1 k) = midB L m k := by
  have hb := mg_bd hP h
  have hi := inB_iff.1 hk
  rw [midB_t h hk, plLI_eq hb.1.1 (by omega) (by omega) (by omega), Int.one_mul]
  by_cases e : mgN L m * k < mgD L m
  · rw [decide_eq_true e, decide_eq_false (by omega)]; rfl
  · rw [decide_eq_false e, decide_eq_true (by omega)]; rfl

set_option maxRecDepth 100000 in
set_option maxHeartbeats 3200000 in
theorem iMid_any (A : Option Addr) (n c : Nat) (zs : List Int) (B : Option Addr) (q d : Nat) (ls : List Int) (H V M D k : Int) (w : World) (h : RecsAt w w.heap.size 4 A n zs) (hn : n ≤ 1048576) (hl : RecsAt w w.heap.size 3 B q ls) (hq : q ≤ 1048576) :
    Calls Try.prog 21 #[.agg #[.slice A n c], .slice B q d, .agg #[.int .i64 H, .int .i64 V, .int .i64 M, .int .i64 D], .int .i64 k] w fun e w' => e = .returned (.bool (midB (pkLs zs n ls q H V M D) (pkLen zs n ls q H V M D) k)) ∧ Below w.heap.size w w' := by
  have at0 := AT.start w (.slice A n c) H V M D 41 46
  have b0 := at_below w (.slice A n c) H V M D 41 46
  have h1 := h.after b0
  have l1 := hl.after b0
  have HAT := Lib.hid at0
  have HPK := Lib.hid (pk_all (zs := zs) (n := n) (ls := ls) (q := q) (H := H) (V := V) (M := M) (D := D))
  generalize hLE : pkLs zs n ls q H V M D = L at *
  generalize hME : pkLen zs n ls q H V M D = m at *
  have HLM := Lib.hid (And.intro hLE hME)
  clear hLE hME
  clear at0 b0 h hl
  go_enter Try.func21, Try.ntmps21
  go_wp2_with fail
  refine (iMargin_any _ _ _ zs _ _ _ ls _ _ _ _ _ h1 hn l1 hq).mono ?_
  rw [HLM.out.1, HLM.out.2]
  rintro e W1 ⟨rfl, hb1⟩
  have B1 := Lib.hid (HAT.out.after hb1).below
  clear hb1 h1 l1 HAT
  by_cases hm : 0 < m
  · rw [decide_eq_true hm]
    cases hk : inB k 2 100
    · have HF := Lib.hid (midB_2 L m hk)
      go_wp2_with (go_at_call 31; refine (within_any _ _ _ _).mono ?_; rw [hk]; rintro e w' ⟨rfl, rfl⟩)
      go_ret
      exact ⟨ret_bool HF.out.symm, B1.out⟩
    · have HL := Lib.hid (mid_less HPK.out hm hk)
      have hb := mg_bd HPK.out hm
      have hi := inB_iff.1 hk
      generalize mgN L m = x at *
      generalize mgD L m = y at *
      go_wp2_with (first | (go_at_call 31; refine (within_any _ _ _ _).mono ?_; rw [hk]; rintro e w' ⟨rfl, rfl⟩) | (go_at_call 47; refine (placeLessI_any _ _ _ _ _ (by unfold plB; omega) (by unfold plB; omega)).mono ?_; rintro e w2 ⟨rfl, hb2⟩))
      have HB2 := Lib.hid (B1.out.trans (hb2.mono B1.out.size))
      clear hb2
      go_wp2
      go_ret
      exact ⟨ret_bool HL.out, HB2.out⟩
  · have HF := Lib.hid (midB_1 L k hm)
    rw [decide_eq_false hm]
    go_wp2
    go_ret
    exact ⟨ret_bool HF.out.symm, B1.out⟩

end Go.Proofs.Ytdjhiegolojoaaa
