/-
  Plain facts: weights and moments of the stones of an arch with loads, and their sums left of a joint. No Go function is spoken of here.
-/
import Derived.Test.YtdjhiegolojoaaaWLoads
import Derived.Test.YtdjhiegolojoaaaPWeight
namespace Go.Proofs.Ytdjhiegolojoaaa
open Go.RowKit

def swt (zs : List Int) (k : Nat) : Int := weightI (btwA zs k) 4
def smt (zs : List Int) (k : Nat) : Int := overI facX (btwA zs k) 4
theorem swt_bd (zs : List Int) (k : Nat) : -129600 ≤ swt zs k ∧ swt zs k ≤ 129600 := weightI_bd _ _
theorem smt_bd (zs : List Int) (k : Nat) : -5184000 ≤ smt zs k ∧ smt zs k ≤ 5184000 := overI_bd facX_ok _ _
/-- The weight, and the moment, of the first i loads on stone k. -/
def ldW (ls : List Int) (k : Nat) : Nat → Int
  | 0 => 0
  | i + 1 => ldW ls k i + if nth ls (i * 3) = (k : Int) then nth ls (i * 3 + 1) else 0
def ldM (ls : List Int) (k : Nat) : Nat → Int
  | 0 => 0
  | i + 1 => ldM ls k i + if nth ls (i * 3) = (k : Int) then nth ls (i * 3 + 1) * nth ls (i * 3 + 2) else 0
theorem ldW_t {ls : List Int} {k i : Nat} (h : nth ls (i * 3) = (k : Int)) : ldW ls k (i + 1) = ldW ls k i + nth ls (i * 3 + 1) := by simp [ldW, h]
theorem ldW_f {ls : List Int} {k i : Nat} (h : ¬ nth ls (i * 3) = (k : Int)) : ldW ls k (i + 1) = ldW ls k i := by simp [ldW, h]
theorem ldM_t {ls : List Int} {k i : Nat} (h : nth ls (i * 3) = (k : Int)) : ldM ls k (i + 1) = ldM ls k i + nth ls (i * 3 + 1) * nth ls (i * 3 + 2) := by simp [ldM, h]
theorem ldM_f {ls : List Int} {k i : Nat} (h : ¬ nth ls (i * 3) = (k : Int)) : ldM ls k (i + 1) = ldM ls k i := by simp [ldM, h]
theorem loadAt_out {ls : List Int} {n i : Nat} (h : loadAt ls n i = true) : (0 ≤ nth ls (i * 3) ∧ nth ls (i * 3) ≤ (n : Int) - 2) ∧ (0 ≤ nth ls (i * 3 + 1) ∧ nth ls (i * 3 + 1) ≤ 10000) ∧ (-60 ≤ nth ls (i * 3 + 2) ∧ nth ls (i * 3 + 2) ≤ 60) := by
  simp only [loadAt, Bool.and_eq_true, inB_iff] at h
  exact ⟨h.1, h.2.1, h.2.2⟩
theorem wx_bd {a b : Int} (ha : 0 ≤ a ∧ a ≤ 10000) (hb : -60 ≤ b ∧ b ≤ 60) : -600000 ≤ a * b ∧ a * b ≤ 600000 := by
  have := mul_bd (a := a) (b := b) (m := 10000) (n := 60) (by omega) hb
  omega
theorem ldW_bd {ls : List Int} {n q : Nat} (h : allTo (loadAt ls n) q) (k : Nat) : ∀ i : Nat, i ≤ q → 0 ≤ ldW ls k i ∧ ldW ls k i ≤ 10000 * (i : Int)
  | 0, _ => by simp [ldW]
  | i + 1, hi => by
    have ih := ldW_bd h k i (by omega)
    have := loadAt_out (h i (by omega))
    simp only [ldW]
    split <;> omega
theorem ldM_bd {ls : List Int} {n q : Nat} (h : allTo (loadAt ls n) q) (k : Nat) : ∀ i : Nat, i ≤ q → -(600000 * (i : Int)) ≤ ldM ls k i ∧ ldM ls k i ≤ 600000 * (i : Int)
  | 0, _ => by simp [ldM]
  | i + 1, hi => by
    have ih := ldM_bd h k i (by omega)
    have h1 := loadAt_out (h i (by omega))
    have := wx_bd h1.2.1 h1.2.2
    simp only [ldM]
    split <;> omega
/-- Stone k with the first i loads. -/
def kwTo (zs ls : List Int) (k i : Nat) : Int := swt zs k + ldW ls k i
def kmTo (zs ls : List Int) (k i : Nat) : Int := smt zs k + ldM ls k i
theorem kwTo_0 (zs ls : List Int) (k : Nat) : kwTo zs ls k 0 = swt zs k := by simp [kwTo, ldW]
theorem kmTo_0 (zs ls : List Int) (k : Nat) : kmTo zs ls k 0 = smt zs k := by simp [kmTo, ldM]
theorem kwTo_t (zs : List Int) {ls : List Int} {k i : Nat} (h : nth ls (i * 3) = (k : Int)) : kwTo zs ls k (i + 1) = kwTo zs ls k i + nth ls (i * 3 + 1) := by simp only [kwTo, ldW_t h]; omega
theorem kwTo_f (zs : List Int) {ls : List Int} {k i : Nat} (h : ¬ nth ls (i * 3) = (k : Int)) : kwTo zs ls k (i + 1) = kwTo zs ls k i := by simp only [kwTo, ldW_f h]
theorem kmTo_t (zs : List Int) {ls : List Int} {k i : Nat} (h : nth ls (i * 3) = (k : Int)) : kmTo zs ls k (i + 1) = kmTo zs ls k i + nth ls (i * 3 + 1) * nth ls (i * 3 + 2) := by simp only [kmTo, ldM_t h]; omega
theorem kmTo_f (zs : List Int) {ls : List Int} {k i : Nat} (h : ¬ nth ls (i * 3) = (k : Int)) : kmTo zs ls k (i + 1) = kmTo zs ls k i := by simp only [kmTo, ldM_f h]
theorem kwTo_bd {ls : List Int} {n q : Nat} (zs : List Int) (h : allTo (loadAt ls n) q) (hq : q ≤ 6) (k : Nat) {i : Nat} (hi : i ≤ q) : -200000 ≤ kwTo zs ls k i ∧ kwTo zs ls k i ≤ 200000 := by
  have h1 := swt_bd zs k
  have h2 := ldW_bd h k i hi
  unfold kwTo
  omega
theorem kmTo_bd {ls : List Int} {n q : Nat} (zs : List Int) (h : allTo (loadAt ls n) q) (hq : q ≤ 6) (k : Nat) {i : Nat} (hi : i ≤ q) : -9000000 ≤ kmTo zs ls k i ∧ kmTo zs ls k i ≤ 9000000 := by
  have h1 := smt_bd zs k
  have h2 := ldM_bd h k i hi
  unfold kmTo
  omega
/-- Left of joint k, all q loads counted. -/
def leftW (zs ls : List Int) (q : Nat) : Nat → Int
  | 0 => 0
  | k + 1 => leftW zs ls q k + kwTo zs ls k q
def leftM (zs ls : List Int) (q : Nat) : Nat → Int
  | 0 => 0
  | k + 1 => leftM zs ls q k + kmTo zs ls k q
theorem leftW_bd {ls : List Int} {n q : Nat} (zs : List Int) (h : allTo (loadAt ls n) q) (hq : q ≤ 6) : ∀ k : Nat, -(200000 * (k : Int)) ≤ leftW zs ls q k ∧ leftW zs ls q k ≤ 200000 * (k : Int)
  | 0 => by simp [leftW]
  | k + 1 => by
    have ih := leftW_bd zs h hq k
    have := kwTo_bd zs h hq k (Nat.le_refl q)
    simp only [leftW]
    omega
theorem leftM_bd {ls : List Int} {n q : Nat} (zs : List Int) (h : allTo (loadAt ls n) q) (hq : q ≤ 6) : ∀ k : Nat, -(9000000 * (k : Int)) ≤ leftM zs ls q k ∧ leftM zs ls q k ≤ 9000000 * (k : Int)
  | 0 => by simp [leftM]
  | k + 1 => by
    have ih := leftM_bd zs h hq k
    have := kmTo_bd zs h hq k (Nat.le_refl q)
    simp only [leftM]
    omega
/-- The list of weights and moments behind i loads. -/
def wmL (zs ls : List Int) (i : Nat) : Nat → List Int
  | 0 => []
  | k + 1 => wmL zs ls i k ++ [kwTo zs ls k i, kmTo zs ls k i]
theorem wmL_len (zs ls : List Int) (i : Nat) : ∀ k, (wmL zs ls i k).length = k * 2
  | 0 => rfl
  | k + 1 => by simp [wmL, wmL_len zs ls i k]; omega
theorem wmL_nth (zs ls : List Int) (i : Nat) : ∀ {m k : Nat}, k < m → nth (wmL zs ls i m) (k * 2) = kwTo zs ls k i ∧ nth (wmL zs ls i m) (k * 2 + 1) = kmTo zs ls k i
  | 0, k, h => absurd h (by omega)
  | m + 1, k, h => by
    have hl := wmL_len zs ls i m
    by_cases e : k = m
    · subst e
      simp only [wmL]
      exact ⟨by simp [nth, List.getD, hl], by simp [nth, List.getD, ← hl]⟩
    · have ih := wmL_nth zs ls i (m := m) (k := k) (by omega)
      simp only [wmL]
      refine ⟨?_, ?_⟩
      · rw [← ih.1]; simp only [nth, List.getD]; rw [List.getElem?_append_left (by omega)]
      · rw [← ih.2]; simp only [nth, List.getD]; rw [List.getElem?_append_left (by omega)]
end Go.Proofs.Ytdjhiegolojoaaa
