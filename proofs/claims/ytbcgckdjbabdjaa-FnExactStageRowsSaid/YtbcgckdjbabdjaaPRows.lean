/-
  Plain facts: the conditions on a thrust that an arch with weights lays down. No Go function is spoken of here.
-/
import Derived.Test.YtbcgckdjbabdjaaPLeft
import Derived.Test.YtbcgckdjbabdjaaPGcd
namespace Go.Proofs.Ytbcgckdjbabdjaa
open Go.RowKit

/-- The first k weights, and moments, of a list of pairs, summed. -/
def sumW (xs : List Int) : Nat → Int
  | 0 => 0
  | k + 1 => sumW xs k + nth xs (k * 2)
def sumM (xs : List Int) : Nat → Int
  | 0 => 0
  | k + 1 => sumM xs k + nth xs (k * 2 + 1)
/-- The two rows of joint k with weight W k and moment M k left of it. -/
def rowJ (zs : List Int) (W M : Nat → Int) (k : Nat) : List Int :=
  [nth zs (k * 4 + 1), -nth zs (k * 4), 1, M k - nth zs (k * 4) * W k, -nth zs (k * 4 + 3), nth zs (k * 4 + 2), -1, nth zs (k * 4 + 2) * W k - M k]
/-- The rows of the first k joints, flattened. -/
def rowTo (zs : List Int) (W M : Nat → Int) : Nat → List Int
  | 0 => []
  | k + 1 => rowTo zs W M k ++ rowJ zs W M k
def rowsL (zs : List Int) (W M : Nat → Int) (n : Nat) : List Int := rowTo zs W M n ++ [-1, 0, 0, 0]
section
variable {zs : List Int} {W M W' M' : Nat → Int}
theorem rowTo_len (zs : List Int) (W M : Nat → Int) : ∀ k, (rowTo zs W M k).length = k * 8
  | 0 => rfl
  | k + 1 => by simp [rowTo, rowTo_len zs W M k, rowJ]; omega
theorem rowsL_len (zs : List Int) (W M : Nat → Int) (n : Nat) : (rowsL zs W M n).length = (n * 2 + 1) * 4 := by
  simp [rowsL, rowTo_len]; omega
theorem rowTo_congr : ∀ {n : Nat}, (∀ k, k < n → W k = W' k ∧ M k = M' k) → rowTo zs W M n = rowTo zs W' M' n
  | 0, _ => rfl
  | n + 1, h => by
    simp only [rowTo]
    rw [rowTo_congr (fun k hk => h k (by omega))]
    simp only [rowJ, (h n (by omega)).1, (h n (by omega)).2]
theorem rowsL_congr {n : Nat} (h : ∀ k, k < n → W k = W' k ∧ M k = M' k) : rowsL zs W M n = rowsL zs W' M' n := by
  unfold rowsL
  rw [rowTo_congr h]
end
theorem nthA_l {xs ys : List Int} {i : Nat} (h : i < xs.length) : nth (xs ++ ys) i = nth xs i := by simp only [nth, List.getD]; rw [List.getElem?_append_left h]
theorem nthA_r {xs ys : List Int} {i : Nat} (j : Nat) (h : i = xs.length + j) : nth (xs ++ ys) i = nth ys j := by
  subst h
  simp only [nth, List.getD]
  rw [List.getElem?_append_right (by omega), Nat.add_sub_cancel_left]
theorem rowTo_nth (zs : List Int) (W M : Nat → Int) : ∀ {m k j : Nat}, k < m → j < 8 → nth (rowTo zs W M m) (k * 8 + j) = nth (rowJ zs W M k) j
  | 0, k, j, h, _ => absurd h (by omega)
  | m + 1, k, j, h, hj => by
    have hl := rowTo_len zs W M m
    simp only [rowTo]
    by_cases e : k = m
    · subst e
      exact nthA_r j (by omega)
    · rw [nthA_l (by omega)]
      exact rowTo_nth zs W M (by omega) hj
/-- A row is valid. -/
def rowB (a b c d : Int) : Bool := inB a (-100) 100 && (inB b (-100) 100 && (inB c (-1) 1 && inB d (-1000000000) 1000000000))
theorem rowB_1 {a : Int} (b c d : Int) (h : inB a (-100) 100 = false) : rowB a b c d = false := by simp [rowB, h]
theorem rowB_2 (a : Int) {b : Int} (c d : Int) (h : inB b (-100) 100 = false) : rowB a b c d = false := by simp [rowB, h]
theorem rowB_3 (a b : Int) {c : Int} (d : Int) (h : inB c (-1) 1 = false) : rowB a b c d = false := by simp [rowB, h]
theorem rowB_t {a b c : Int} (d : Int) (h1 : inB a (-100) 100 = true) (h2 : inB b (-100) 100 = true) (h3 : inB c (-1) 1 = true) : rowB a b c d = inB d (-1000000000) 1000000000 := by simp [rowB, h1, h2, h3]
theorem rowB_iff {a b c d : Int} : rowB a b c d = true ↔ (-100 ≤ a ∧ a ≤ 100) ∧ (-100 ≤ b ∧ b ≤ 100) ∧ (-1 ≤ c ∧ c ≤ 1) ∧ (-1000000000 ≤ d ∧ d ≤ 1000000000) := by simp [rowB, inB_iff]
def rowAt (rs : List Int) (i : Nat) : Bool := rowB (nth rs (i * 4)) (nth rs (i * 4 + 1)) (nth rs (i * 4 + 2)) (nth rs (i * 4 + 3))
/-- What the sums are bounded by. -/
def WMok (W M : Nat → Int) (n : Nat) : Prop := ∀ k, k < n → (-2000000 ≤ W k ∧ W k ≤ 2000000) ∧ (-80000000 ≤ M k ∧ M k ≤ 80000000)
theorem archB_ptsR {zs : List Int} {n : Nat} (h : archB zs n = true) : ∀ m, m < n → ptB (nth zs (m * 4)) (nth zs (m * 4 + 1)) = true ∧ ptB (nth zs (m * 4 + 2)) (nth zs (m * 4 + 3)) = true := by
  obtain ⟨hn, hp⟩ := archB_out h
  intro m hm
  by_cases e : m + 1 < n
  · have h1 := hp m (by omega)
    simp only [pairB, Bool.and_eq_true] at h1
    have h2 := (stoneB_out h1.1).2.1
    exact ⟨h2 0 (by omega), h2 3 (by omega)⟩
  · obtain ⟨k, rfl⟩ : ∃ k, m = k + 1 := ⟨m - 1, by omega⟩
    have h1 := hp k (by omega)
    simp only [pairB, Bool.and_eq_true] at h1
    have h2 := (stoneB_out h1.1).2.1
    exact ⟨h2 1 (by omega), h2 2 (by omega)⟩
/-- The reckoning of joint k's rows stays within its bounds. -/
structure JBd (ix iy ox oy w m : Int) : Prop where
  pi : (-60 ≤ ix ∧ ix ≤ 60) ∧ (-60 ≤ iy ∧ iy ≤ 60)
  po : (-60 ≤ ox ∧ ox ≤ 60) ∧ (-60 ≤ oy ∧ oy ≤ 60)
  hw : -2000000 ≤ w ∧ w ≤ 2000000
  hm : -80000000 ≤ m ∧ m ≤ 80000000
  iw : -120000000 ≤ ix * w ∧ ix * w ≤ 120000000
  ow : -120000000 ≤ ox * w ∧ ox * w ≤ 120000000
theorem jBd_of {zs : List Int} {W M : Nat → Int} {n k : Nat} (hA : archB zs n = true) (h : WMok W M n) (hk : k < n) : JBd (nth zs (k * 4)) (nth zs (k * 4 + 1)) (nth zs (k * 4 + 2)) (nth zs (k * 4 + 3)) (W k) (M k) := by
  have hp := archB_ptsR hA k hk
  rw [ptB_iff, ptB_iff] at hp
  have hw := h k hk
  have e1 := mul_bd (a := nth zs (k * 4)) (b := W k) (m := 60) (n := 2000000) (by omega) hw.1
  have e2 := mul_bd (a := nth zs (k * 4 + 2)) (b := W k) (m := 60) (n := 2000000) (by omega) hw.1
  exact ⟨hp.1, hp.2, hw.1, hw.2, by omega, by omega⟩
theorem rowsL_ok {zs : List Int} {W M : Nat → Int} {n : Nat} (hA : archB zs n = true) (h : WMok W M n) : ∀ i, i < n * 2 + 1 → rowAt (rowsL zs W M n) i = true := by
  intro i hi
  have hl := rowTo_len zs W M n
  by_cases e : i = n * 2
  · subst e
    unfold rowAt rowsL
    rw [nthA_r 0 (by omega), nthA_r 1 (by omega), nthA_r 2 (by omega), nthA_r 3 (by omega)]
    decide
  · have hk : i / 2 < n := by omega
    obtain ⟨hpi, hpo, hw, hm, hiw, how⟩ := jBd_of hA h hk
    unfold rowAt rowsL
    rw [nthA_l (by omega), nthA_l (by omega), nthA_l (by omega), nthA_l (by omega)]
    rcases Nat.mod_two_eq_zero_or_one i with e2 | e2
    · rw [show i * 4 = i / 2 * 8 + 0 by omega, show i / 2 * 8 + 0 + 1 = i / 2 * 8 + 1 by omega, show i / 2 * 8 + 0 + 2 = i / 2 * 8 + 2 by omega, show i / 2 * 8 + 0 + 3 = i / 2 * 8 + 3 by omega]
      rw [rowTo_nth _ _ _ hk (by omega), rowTo_nth _ _ _ hk (by omega), rowTo_nth _ _ _ hk (by omega), rowTo_nth _ _ _ hk (by omega), rowB_iff]
      simp only [rowJ, nth, List.getD_cons_zero, List.getD_cons_succ] at *
      omega
    · rw [show i * 4 = i / 2 * 8 + 4 by omega, show i / 2 * 8 + 4 + 1 = i / 2 * 8 + 5 by omega, show i / 2 * 8 + 4 + 2 = i / 2 * 8 + 6 by omega, show i / 2 * 8 + 4 + 3 = i / 2 * 8 + 7 by omega]
      rw [rowTo_nth _ _ _ hk (by omega), rowTo_nth _ _ _ hk (by omega), rowTo_nth _ _ _ hk (by omega), rowTo_nth _ _ _ hk (by omega), rowB_iff]
      simp only [rowJ, nth, List.getD_cons_zero, List.getD_cons_succ] at *
      omega
end Go.Proofs.Ytbcgckdjbabdjaa
