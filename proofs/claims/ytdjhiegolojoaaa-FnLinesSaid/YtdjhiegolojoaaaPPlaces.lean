/-
  Plain facts: the places of a push at all joints. No Go function is spoken of here.
-/
import Derived.Test.YtdjhiegolojoaaaWPlc
namespace Go.Proofs.Ytdjhiegolojoaaa
open Go.RowKit

section
variable (zs : List Int) (n : Nat) (ls : List Int) (q : Nat) (H V M D : Int)
/-- There is a place at joint k. -/
def pkB (k : Nat) : Bool := plcB zs n ls q H V M D (k : Int)
def pkN (k : Nat) : Int := plcN zs n ls q H V M D (k : Int)
def pkD (k : Nat) : Int := plcD zs n ls q H V M D (k : Int)
/-- The places of the first k joints, flattened. -/
def pkL : Nat → List Int
  | 0 => []
  | k + 1 => pkL k ++ [pkN zs n ls q H V M D k, pkD zs n ls q H V M D k]
def allPk : Bool := allB (pkB zs n ls q H V M D) n
def pkLen : Nat := if allPk zs n ls q H V M D = true then n else 0
def pkLs : List Int := pkL zs n ls q H V M D (pkLen zs n ls q H V M D)
end
section
variable {zs : List Int} {n : Nat} {ls : List Int} {q : Nat} {H V M D : Int}
theorem pkL_len : ∀ k, (pkL zs n ls q H V M D k).length = k * 2
  | 0 => rfl
  | k + 1 => by simp [pkL, pkL_len k]; omega
theorem pkL_nth : ∀ {m k : Nat}, k < m → nth (pkL zs n ls q H V M D m) (k * 2) = pkN zs n ls q H V M D k ∧ nth (pkL zs n ls q H V M D m) (k * 2 + 1) = pkD zs n ls q H V M D k
  | 0, k, h => absurd h (by omega)
  | m + 1, k, h => by
    have hl := pkL_len (zs := zs) (n := n) (ls := ls) (q := q) (H := H) (V := V) (M := M) (D := D) m
    by_cases e : k = m
    · subst e
      simp only [pkL]
      exact ⟨by simp [nth, List.getD, hl], by simp [nth, List.getD, ← hl]⟩
    · have ih := pkL_nth (m := m) (k := k) (by omega)
      simp only [pkL]
      refine ⟨?_, ?_⟩
      · rw [← ih.1]; simp only [nth, List.getD]; rw [List.getElem?_append_left (by omega)]
      · rw [← ih.2]; simp only [nth, List.getD]; rw [List.getElem?_append_left (by omega)]
theorem allPk_f {k : Nat} (hk : k < n) (h : pkB zs n ls q H V M D k = false) : allPk zs n ls q H V M D = false := allB_f hk h
theorem allPk_t (h : allTo (pkB zs n ls q H V M D) n) : allPk zs n ls q H V M D = true := allB_t h
theorem pkLen_f (h : allPk zs n ls q H V M D = false) : pkLen zs n ls q H V M D = 0 ∧ pkLs zs n ls q H V M D = [] := by
  have : pkLen zs n ls q H V M D = 0 := by simp [pkLen, h]
  exact ⟨this, by unfold pkLs; rw [this]; rfl⟩
theorem pkLen_t (h : allPk zs n ls q H V M D = true) : pkLen zs n ls q H V M D = n ∧ pkLs zs n ls q H V M D = pkL zs n ls q H V M D n := by
  have : pkLen zs n ls q H V M D = n := by simp [pkLen, h]
  exact ⟨this, by unfold pkLs; rw [this]⟩
/-- What a place is like: a quotient in lowest terms, from 0 to 1. -/
structure PlOk (N D : Int) : Prop where
  n0 : 0 ≤ N
  nd : N ≤ D
  d0 : 0 < D
  dm : D ≤ 2000000000000000
  cop : Nat.gcd N.natAbs D.natAbs = 1
theorem insB_out {k : Int} (h : insB zs n ls q H V M D k = true) : mIn zs n ls q H V M D k ≤ 0 ∧ 0 ≤ mOut zs n ls q H V M D k := by
  simp only [insB, Bool.and_eq_true, decide_eq_true_eq] at h
  exact ⟨h.2.1, h.2.2⟩
theorem plOk_of {x y : Int} (hx : okM x) (hy : okM y) (h1 : x ≤ 0) (h2 : 0 ≤ y) (h3 : ¬ (x = 0 ∧ y = 0)) :
    PlOk (Int.tdiv (-x) (Nat.gcd x.natAbs (y - x).natAbs : Nat)) (Int.tdiv (y - x) (Nat.gcd x.natAbs (y - x).natAbs : Nat)) := by
  obtain ⟨a, ha⟩ : ∃ a : Nat, -x = (a : Int) := ⟨(-x).toNat, by omega⟩
  obtain ⟨b, hb⟩ : ∃ b : Nat, y - x = (b : Int) := ⟨(y - x).toNat, by omega⟩
  have hxa : x.natAbs = a := by omega
  have hb0 : 0 < b := by omega
  have hab : a ≤ b := by omega
  have hbm : (b : Int) ≤ 2000000000000000 := by unfold okM at hx hy; omega
  rw [ha, hb, hxa, Int.natAbs_natCast]
  have hg : 0 < Nat.gcd a b := Nat.gcd_pos_of_pos_right _ hb0
  have e1 : Int.tdiv (a : Int) (Nat.gcd a b : Nat) = ((a / Nat.gcd a b : Nat) : Int) := by rw [Int.tdiv_eq_ediv_of_nonneg (by omega)]; rfl
  have e2 : Int.tdiv (b : Int) (Nat.gcd a b : Nat) = ((b / Nat.gcd a b : Nat) : Int) := by rw [Int.tdiv_eq_ediv_of_nonneg (by omega)]; rfl
  rw [e1, e2]
  have h4 : a / Nat.gcd a b ≤ b / Nat.gcd a b := Nat.div_le_div_right hab
  have h5 : 0 < b / Nat.gcd a b := Nat.div_pos (Nat.le_of_dvd hb0 (Nat.gcd_dvd_right a b)) hg
  have h6 := Nat.div_le_self b (Nat.gcd a b)
  have h7 : Nat.gcd (a / Nat.gcd a b) (b / Nat.gcd a b) = 1 := by
    rw [Nat.gcd_div (Nat.gcd_dvd_left a b) (Nat.gcd_dvd_right a b), Nat.div_self hg]
  generalize a / Nat.gcd a b = u at *
  generalize b / Nat.gcd a b = v at *
  exact ⟨by omega, by omega, by omega, by omega, by rw [Int.natAbs_natCast, Int.natAbs_natCast]; exact h7⟩
theorem pkB_ok {k : Nat} (h : pkB zs n ls q H V M D k = true) : PlOk (pkN zs n ls q H V M D k) (pkD zs n ls q H V M D k) := by
  have h' : plcB zs n ls q H V M D (k : Int) = true := h
  have ht := plc_t h'
  have hm := m_ok zs n ls q H V M D (k : Int)
  simp only [plcB, Bool.and_eq_true] at h'
  have hi := insB_out h'.1
  have hz : ¬ (mIn zs n ls q H V M D (k : Int) = 0 ∧ mOut zs n ls q H V M D (k : Int) = 0) := by
    have h2 := h'.2
    simp at h2
    omega
  unfold pkN pkD
  rw [ht.1, ht.2]
  exact plOk_of hm.1 hm.2 hi.1 hi.2 hz
end
end Go.Proofs.Ytdjhiegolojoaaa
