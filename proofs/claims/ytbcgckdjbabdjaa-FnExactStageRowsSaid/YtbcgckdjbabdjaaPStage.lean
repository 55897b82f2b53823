/-
  Plain facts: the conditions of an arch without the stones that the frame bears; a map of pairs of ints. No Go function is spoken of here.
-/
import Derived.Test.YtbcgckdjbabdjaaPRows
import Derived.Test.YtbcgckdjbabdjaaWCarried
import Derived.Maps.OwnOps
import Derived.Maps.OwnSet
import Derived.Maps.Views
namespace Go.Proofs.Ytbcgckdjbabdjaa
open Go.RowKit

/-- The frame bears stone j: it is among the first i of cs. -/
def isC (cs : List Int) : Nat → Nat → Bool
  | 0, _ => false
  | i + 1, j => isC cs i j || decide (nth cs i = (j : Int))
theorem isC_iff (cs : List Int) (j : Nat) : ∀ i, isC cs i j = true ↔ ∃ t, t < i ∧ nth cs t = (j : Int)
  | 0 => by simp [isC]
  | i + 1 => by
    simp only [isC, Bool.or_eq_true, decide_eq_true_eq, isC_iff cs j i]
    constructor
    · rintro (⟨t, h1, h2⟩ | h)
      · exact ⟨t, by omega, h2⟩
      · exact ⟨i, by omega, h⟩
    · rintro ⟨t, h1, h2⟩
      by_cases e : t = i
      · subst e; exact .inr h2
      · exact .inl ⟨t, by omega, h2⟩
theorem isC_f {cs : List Int} {i j : Nat} (h : ∀ t, t < i → nth cs t ≠ (j : Int)) : isC cs i j = false := by
  cases e : isC cs i j
  · rfl
  · obtain ⟨t, h1, h2⟩ := (isC_iff cs j i).1 e
    exact absurd h2 (h t h1)
def stgW (zs cs : List Int) (q j : Nat) : Int := if isC cs q j = true then 0 else swt zs j
def stgM (zs cs : List Int) (q j : Nat) : Int := if isC cs q j = true then 0 else smt zs j
theorem stg_bd (zs cs : List Int) (q j : Nat) : (-129600 ≤ stgW zs cs q j ∧ stgW zs cs q j ≤ 129600) ∧ (-5184000 ≤ stgM zs cs q j ∧ stgM zs cs q j ≤ 5184000) := by
  have h1 := swt_bd zs j
  have h2 := smt_bd zs j
  unfold stgW stgM
  split <;> omega
def stgL (zs cs : List Int) (q : Nat) : Nat → List Int
  | 0 => []
  | k + 1 => stgL zs cs q k ++ [stgW zs cs q k, stgM zs cs q k]
theorem stgL_len (zs cs : List Int) (q : Nat) : ∀ k, (stgL zs cs q k).length = k * 2
  | 0 => rfl
  | k + 1 => by simp [stgL, stgL_len zs cs q k]; omega
theorem stgL_nth (zs cs : List Int) (q : Nat) : ∀ {m k : Nat}, k < m → nth (stgL zs cs q m) (k * 2) = stgW zs cs q k ∧ nth (stgL zs cs q m) (k * 2 + 1) = stgM zs cs q k
  | 0, k, h => absurd h (by omega)
  | m + 1, k, h => by
    have hl := stgL_len zs cs q m
    simp only [stgL]
    by_cases e : k = m
    · subst e
      exact ⟨nthA_r 0 (by omega), nthA_r 1 (by omega)⟩
    · rw [nthA_l (by omega), nthA_l (by omega)]
      exact stgL_nth zs cs q (by omega)
theorem sumStg_bd (zs cs : List Int) (q m : Nat) : ∀ k : Nat, (-(129600 * (k : Int)) ≤ sumW (stgL zs cs q m) k ∧ sumW (stgL zs cs q m) k ≤ 129600 * (k : Int)) ∧ (-(5184000 * (k : Int)) ≤ sumM (stgL zs cs q m) k ∧ sumM (stgL zs cs q m) k ≤ 5184000 * (k : Int))
  | 0 => by simp [sumW, sumM]
  | k + 1 => by
    have ih := sumStg_bd zs cs q m k
    have hb : (-129600 ≤ nth (stgL zs cs q m) (k * 2) ∧ nth (stgL zs cs q m) (k * 2) ≤ 129600) ∧ (-5184000 ≤ nth (stgL zs cs q m) (k * 2 + 1) ∧ nth (stgL zs cs q m) (k * 2 + 1) ≤ 5184000) := by
      by_cases h : k < m
      · rw [(stgL_nth zs cs q h).1, (stgL_nth zs cs q h).2]; exact stg_bd zs cs q k
      · have hl := stgL_len zs cs q m
        have h1 : nth (stgL zs cs q m) (k * 2) = 0 := by simp [nth, List.getD, List.getElem?_eq_none (show (stgL zs cs q m).length ≤ k * 2 by omega)]
        have h2 : nth (stgL zs cs q m) (k * 2 + 1) = 0 := by simp [nth, List.getD, List.getElem?_eq_none (show (stgL zs cs q m).length ≤ k * 2 + 1 by omega)]
        rw [h1, h2]; omega
    simp only [sumW, sumM]
    omega
theorem wmok_stg {zs : List Int} {n : Nat} (cs : List Int) (q m : Nat) (hA : archB zs n = true) : WMok (sumW (stgL zs cs q m)) (sumM (stgL zs cs q m)) n := by
  have hn := (archB_out hA).1
  intro k hk
  have h := sumStg_bd zs cs q m k
  omega
/-- One joint further, in the reference's way. -/
theorem stg_step {zs cs : List Int} {q n k : Nat} (hn : 0 < n) (hk : k < n) :
    sumW (stgL zs cs q (n - 1)) (k + 1) = sumW (stgL zs cs q (n - 1)) k + (if isC cs q k = true then 0 else if k + 1 < n then swt zs k else 0) ∧
    sumM (stgL zs cs q (n - 1)) (k + 1) = sumM (stgL zs cs q (n - 1)) k + (if isC cs q k = true then 0 else if k + 1 < n then smt zs k else 0) := by
  simp only [sumW, sumM]
  by_cases h : k + 1 < n
  · rw [(stgL_nth zs cs q (show k < n - 1 by omega)).1, (stgL_nth zs cs q (show k < n - 1 by omega)).2]
    simp only [stgW, stgM, h, if_true]
    exact ⟨trivial, trivial⟩
  · have hl := stgL_len zs cs q (n - 1)
    have h1 : nth (stgL zs cs q (n - 1)) (k * 2) = 0 := by simp [nth, List.getD, List.getElem?_eq_none (show (stgL zs cs q (n - 1)).length ≤ k * 2 by omega)]
    have h2 : nth (stgL zs cs q (n - 1)) (k * 2 + 1) = 0 := by simp [nth, List.getD, List.getElem?_eq_none (show (stgL zs cs q (n - 1)).length ≤ k * 2 + 1 by omega)]
    rw [h1, h2]
    simp [h]
/-- The rows of a stage. -/
def stgN (zs : List Int) (n : Nat) (cs : List Int) (q : Nat) : Nat := if carriedB zs n cs q = true then n * 2 + 1 else 0
def stgR (zs : List Int) (n : Nat) (cs : List Int) (q : Nat) : List Int := if carriedB zs n cs q = true then rowsL zs (sumW (stgL zs cs q (n - 1))) (sumM (stgL zs cs q (n - 1))) n else []
section
variable {zs : List Int} {n : Nat} {cs : List Int} {q : Nat}
theorem stg_t (h : carriedB zs n cs q = true) : stgN zs n cs q = n * 2 + 1 ∧ stgR zs n cs q = rowsL zs (sumW (stgL zs cs q (n - 1))) (sumM (stgL zs cs q (n - 1))) n := by simp [stgN, stgR, h]
theorem stg_f (h : carriedB zs n cs q = false) : stgN zs n cs q = 0 ∧ stgR zs n cs q = [] := by simp [stgN, stgR, h]
theorem carriedB_out (h : carriedB zs n cs q = true) : archB zs n = true ∧ ascTo cs 0 ((n : Int) - 2) q := by
  simp only [carriedB, Bool.and_eq_true, ascB, List.all_eq_true] at h
  exact ⟨h.1, fun i hi => h.2 i (by simpa using hi)⟩
theorem asc_in {lo hi : Int} (h : ascTo cs lo hi q) {i : Nat} (hi' : i < q) : lo ≤ nth cs i ∧ nth cs i ≤ hi := by
  have := h i hi'
  simp only [ascAt, Bool.and_eq_true] at this
  exact inB_iff.1 this.1
theorem asc_lt {lo hi : Int} (h : ascTo cs lo hi q) : ∀ {i j : Nat}, i < j → j < q → nth cs i < nth cs j
  | i, 0, hij, _ => absurd hij (by omega)
  | i, j + 1, hij, hj => by
    have h1 := h (j + 1) hj
    simp only [ascAt, Bool.and_eq_true, Bool.or_eq_true, decide_eq_true_eq, Nat.add_sub_cancel] at h1
    have h2 : nth cs j < nth cs (j + 1) := by
      rcases h1.2 with e | e
      · omega
      · exact e
    by_cases e : i = j
    · subst e; exact h2
    · have := asc_lt h (i := i) (j := j) (by omega) (by omega)
      omega
/-- The first t of the carried stones lie before joint k, the others not. -/
structure AtOk (cs : List Int) (q k t : Nat) : Prop where
  le : t ≤ q
  lo : ∀ i, i < t → nth cs i < (k : Int)
  hi : ∀ i, t ≤ i → i < q → (k : Int) ≤ nth cs i
theorem atOk_0 (h : ascTo cs 0 ((n : Int) - 2) q) : AtOk cs q 0 0 := ⟨Nat.zero_le _, fun i hi => absurd hi (by omega), fun i _ hi => (asc_in h hi).1⟩
theorem atOk_t {k t : Nat} (ha : ascTo cs 0 ((n : Int) - 2) q) (h : AtOk cs q k t) (ht : t < q) (e : nth cs t = (k : Int)) : isC cs q k = true ∧ AtOk cs q (k + 1) (t + 1) := by
  refine ⟨(isC_iff cs k q).2 ⟨t, ht, e⟩, by omega, fun i hi => ?_, fun i hi hq => ?_⟩
  · by_cases he : i = t
    · subst he; omega
    · have := h.lo i (by omega); omega
  · have := asc_lt ha (i := t) (j := i) (by omega) hq
    omega
theorem atOk_f {k t : Nat} (ha : ascTo cs 0 ((n : Int) - 2) q) (h : AtOk cs q k t) (e : ¬ (t < q ∧ nth cs t = (k : Int))) : isC cs q k = false ∧ AtOk cs q (k + 1) t := by
  have key : ∀ i, t ≤ i → i < q → (k : Int) < nth cs i := by
    intro i hi hq
    have h1 := h.hi i hi hq
    by_cases he : i = t
    · subst he
      by_cases e2 : nth cs i = (k : Int)
      · exact absurd ⟨hq, e2⟩ e
      · omega
    · have h2 := asc_lt ha (i := t) (j := i) (by omega) hq
      have h3 := h.hi t (Nat.le_refl _) (by omega)
      omega
  refine ⟨isC_f fun i hi => ?_, h.le, fun i hi => by have := h.lo i hi; omega, fun i hi hq => by have := key i hi hq; omega⟩
  by_cases he : i < t
  · have := h.lo i he; omega
  · have := key i (by omega) hi; omega
end

section
open Go.RowKit Go.Maps

def keyL (m : Int) : Lit := .int .i64 m
theorem keyL_ne {a b : Int} (h : a ≠ b) : keyL a ≠ keyL b := by
  intro e
  exact h (by simpa [keyL] using e)
/-- How a pair reads. -/
def prD (a b : Int) : DataW Unit := .agg [.lit (.int .i64 a), .lit (.int .i64 b)]
def prR (v : Value) : Option (DataW Unit × List MemPlace) :=
  match v with
  | .agg cs => match cs.toList with
    | [.int .i64 a, .int .i64 b] => some (prD a b, [])
    | _ => none
  | _ => none
theorem prR_mk (a b : Int) : prR (.agg #[.int .i64 a, .int .i64 b]) = some (prD a b, []) := rfl
theorem prR_inj {v : Value} {ps : List MemPlace} {a b : Int} (h : prR v = some (prD a b, ps)) : v = .agg #[.int .i64 a, .int .i64 b] := by
  unfold prR at h
  split at h
  · rename_i cs
    split at h
    · rename_i a' b' e
      simp [prD] at h
      obtain ⟨⟨rfl, rfl⟩, _⟩ := h
      congr 1
      exact Array.ext' (by simpa using e)
    · cases h
  · cases h
/-- What the map holds at the keys 0, 1, .. -/
def MapIs (D : DataW Unit) (F G : Nat → Int) : Prop := ∀ j : Nat, D.atKey (keyL (j : Int)) (prD 0 0) = prD (F j) (G j)
def f1W (zs : List Int) (k j : Nat) : Int := if j < k then swt zs j else 0
def f1M (zs : List Int) (k j : Nat) : Int := if j < k then smt zs j else 0
def f2W (zs cs : List Int) (m i j : Nat) : Int := if isC cs i j = true then 0 else f1W zs m j
def f2M (zs cs : List Int) (m i j : Nat) : Int := if isC cs i j = true then 0 else f1M zs m j
theorem mapIs_0 (zs : List Int) : MapIs (.map []) (f1W zs 0) (f1M zs 0) := fun j => by simp [f1W, f1M, DataW.atKey]
theorem mapIs_put {D : DataW Unit} {zs : List Int} {k : Nat} (hD : IsMap D) (h : MapIs D (f1W zs k) (f1M zs k)) : MapIs (D.put (keyL (k : Int)) (prD (swt zs k) (smt zs k))) (f1W zs (k + 1)) (f1M zs (k + 1)) := by
  intro j
  by_cases e : j = k
  · subst e
    rw [atKey_put_same hD (by exact trivial)]
    simp [f1W, f1M]
  · rw [atKey_put_other (keyL_ne (by omega)), h j]
    unfold f1W f1M
    by_cases h1 : j < k
    · rw [if_pos h1, if_pos h1, if_pos (show j < k + 1 by omega), if_pos (show j < k + 1 by omega)]
    · rw [if_neg h1, if_neg h1, if_neg (show ¬ j < k + 1 by omega), if_neg (show ¬ j < k + 1 by omega)]
theorem mapIs_del {D : DataW Unit} {zs cs : List Int} {m i : Nat} (h : MapIs D (f2W zs cs m i) (f2M zs cs m i)) : MapIs (D.del (keyL (nth cs i))) (f2W zs cs m (i + 1)) (f2M zs cs m (i + 1)) := by
  intro j
  by_cases e : nth cs i = (j : Int)
  · rw [e, atKey_del_same]
    simp [f2W, f2M, isC, e]
  · rw [atKey_del_other (keyL_ne (fun h => e h.symm)), h j]
    simp [f2W, f2M, isC, e]
theorem mapIs_12 {D : DataW Unit} {zs : List Int} (cs : List Int) {m : Nat} (h : MapIs D (f1W zs m) (f1M zs m)) : MapIs D (f2W zs cs m 0) (f2M zs cs m 0) := fun j => by
  rw [h j]
  simp [f2W, f2M, isC]
theorem f2_stg {zs cs : List Int} {m q j : Nat} (hj : j < m) : f2W zs cs m q j = stgW zs cs q j ∧ f2M zs cs m q j = stgM zs cs q j := by
  simp [f2W, f2M, f1W, f1M, stgW, stgM, hj]
theorem stgL_fill {zs cs : List Int} {q m k : Nat} (hk : k < m) : (fun j => if j = k * 2 + 1 then Value.int .i64 (stgM zs cs q k) else if j = k * 2 then Value.int .i64 (stgW zs cs q k) else fill (stgL zs cs q m) (k * 2) j) = fill (stgL zs cs q m) ((k + 1) * 2) := by
  funext j
  have h := stgL_nth zs cs q hk
  have h2 := fill_step2 (stgL zs cs q m) (k * 2) j
  rw [h.1, h.2] at h2
  rw [h2, show (k + 1) * 2 = k * 2 + 2 by omega]
theorem wf_inM {x : Int} (h : -9223372036854775808 ≤ x ∧ x ≤ 9223372036854775807) : (Lit.int .i64 x).wf = true := by
  simp [Lit.wf, IntKind.min, IntKind.max, IntKind.signed, IntKind.bits]
  omega
end
end Go.Proofs.Ytbcgckdjbabdjaa
