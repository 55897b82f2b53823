/-
  Plain facts on the spans of a bridge (records of three ints: low, high, pier). No Go function is spoken of here.
-/
import Derived.Test.YtdphndjohhfgoaaOnly
namespace Go.Proofs.Ytdphndjohhfgoaa
open Go.RowKit

def spanB (zs : List Int) (i : Nat) : Bool := inB (nth zs (i * 3)) 0 10000 && (inB (nth zs (i * 3 + 1)) (nth zs (i * 3)) 10000 && inB (nth zs (i * 3 + 2)) 0 10000)
theorem spanB_1 {zs : List Int} {i : Nat} (h : inB (nth zs (i * 3)) 0 10000 = false) : spanB zs i = false := by simp [spanB, h]
theorem spanB_2 {zs : List Int} {i : Nat} (h : inB (nth zs (i * 3 + 1)) (nth zs (i * 3)) 10000 = false) : spanB zs i = false := by simp [spanB, h]
theorem spanB_3 {zs : List Int} {i : Nat} (h : inB (nth zs (i * 3 + 2)) 0 10000 = false) : spanB zs i = false := by simp [spanB, h]
theorem spanB_t {zs : List Int} {i : Nat} (h1 : inB (nth zs (i * 3)) 0 10000 = true) (h2 : inB (nth zs (i * 3 + 1)) (nth zs (i * 3)) 10000 = true) (h3 : inB (nth zs (i * 3 + 2)) 0 10000 = true) : spanB zs i = true := by simp [spanB, h1, h2, h3]
theorem spanB_out {zs : List Int} {i : Nat} (h : spanB zs i = true) : 0 ≤ nth zs (i * 3) ∧ nth zs (i * 3) ≤ nth zs (i * 3 + 1) ∧ nth zs (i * 3 + 1) ≤ 10000 ∧ 0 ≤ nth zs (i * 3 + 2) ∧ nth zs (i * 3 + 2) ≤ 10000 := by
  simp only [spanB, Bool.and_eq_true, inB_iff] at h
  omega
def spansTo (zs : List Int) (k : Nat) : Prop := ∀ i, i < k → spanB zs i = true
theorem spansTo_0 (zs : List Int) : spansTo zs 0 := fun i hi => absurd hi (by omega)
theorem spansTo_step {zs : List Int} {k : Nat} (h : spansTo zs k) (e : spanB zs k = true) : spansTo zs (k + 1) := by
  intro i hi
  by_cases hik : i = k
  · subst hik; exact e
  · exact h i (by omega)
def spansB (zs : List Int) (n : Nat) : Bool := inB (n : Int) 1 10 && (List.range n).all (spanB zs)
theorem spansB_t {zs : List Int} {n : Nat} (h1 : inB (n : Int) 1 10 = true) (h2 : spansTo zs n) : spansB zs n = true := by
  have : (List.range n).all (spanB zs) = true := by
    rw [List.all_eq_true]
    intro i hi
    exact h2 i (by simpa using hi)
  simp [spansB, h1, this]
theorem spansB_f1 {zs : List Int} {n : Nat} (h1 : inB (n : Int) 1 10 = false) : spansB zs n = false := by simp [spansB, h1]
theorem spansB_f2 {zs : List Int} {n k : Nat} (hk : k < n) (h : spanB zs k = false) : spansB zs n = false := by
  have : (List.range n).all (spanB zs) = false := by
    rw [List.all_eq_false]
    exact ⟨k, by simpa using hk, by simp [h]⟩
  simp [spansB, this]
theorem spansB_out {zs : List Int} {n : Nat} (h : spansB zs n = true) : (1 ≤ n ∧ n ≤ 10) ∧ spansTo zs n := by
  simp only [spansB, Bool.and_eq_true, inB_iff, List.all_eq_true] at h
  exact ⟨by omega, fun i hi => h.2 i (by simpa using hi)⟩

/-- The forces of the span that is d steps before the last one. -/
def rng (zs : List Int) (n : Nat) : Nat → Int × Int
  | 0 => (nth zs ((n - 1) * 3), nth zs ((n - 1) * 3 + 1))
  | d + 1 => (max (nth zs ((n - 2 - d) * 3)) ((rng zs n d).1 - nth zs ((n - 2 - d) * 3 + 2)), min (nth zs ((n - 2 - d) * 3 + 1)) ((rng zs n d).2 + nth zs ((n - 2 - d) * 3 + 2)))
theorem rng_step (zs : List Int) (n d : Nat) : rng zs n (d + 1) = (max (nth zs ((n - 2 - d) * 3)) ((rng zs n d).1 - nth zs ((n - 2 - d) * 3 + 2)), min (nth zs ((n - 2 - d) * 3 + 1)) ((rng zs n d).2 + nth zs ((n - 2 - d) * 3 + 2))) := rfl
theorem rng_bd {zs : List Int} {n : Nat} (h : spansTo zs n) : ∀ d, d < n → 0 ≤ (rng zs n d).1 ∧ (rng zs n d).1 ≤ 10000 ∧ 0 ≤ (rng zs n d).2 ∧ (rng zs n d).2 ≤ 10000
  | 0, hd => by
    have := spanB_out (h (n - 1) (by omega))
    simp only [rng]
    omega
  | d + 1, hd => by
    have ih := rng_bd h d (by omega)
    have := spanB_out (h (n - 2 - d) (by omega))
    simp only [rng]
    omega
def okTo (zs : List Int) (n k : Nat) : Prop := ∀ d, d < k → (rng zs n d).1 ≤ (rng zs n d).2
instance (zs : List Int) (n k : Nat) : Decidable (okTo zs n k) := inferInstanceAs (Decidable (∀ d, d < k → (rng zs n d).1 ≤ (rng zs n d).2))
theorem okTo_step {zs : List Int} {n k : Nat} (h : okTo zs n k) (e : (rng zs n k).1 ≤ (rng zs n k).2) : okTo zs n (k + 1) := by
  intro i hi
  by_cases hik : i = k
  · subst hik; exact e
  · exact h i (by omega)
theorem okTo_1 {zs : List Int} {n : Nat} (h : spansTo zs n) (hn : 1 ≤ n) : okTo zs n 1 := by
  intro i hi
  obtain rfl : i = 0 := by omega
  have := spanB_out (h (n - 1) (by omega))
  simp only [rng]
  omega
def okB2 (zs : List Int) (n : Nat) : Bool := decide (okTo zs n n)
theorem okB2_t {zs : List Int} {n : Nat} (h : okTo zs n n) : okB2 zs n = true := decide_eq_true h
theorem okB2_f {zs : List Int} {n d : Nat} (hd : d < n) (h : ¬ (rng zs n d).1 ≤ (rng zs n d).2) : okB2 zs n = false := decide_eq_false (fun h' => h (h' d hd))
def standB (zs : List Int) (n : Nat) : Bool := spansB zs n && okB2 zs n
theorem standB_f {zs : List Int} {n : Nat} (h : spansB zs n = false) : standB zs n = false := by simp [standB, h]
theorem standB_t {zs : List Int} {n : Nat} (h : spansB zs n = true) : standB zs n = okB2 zs n := by simp [standB, h]

/-- The spans, those of the last d + 1 narrowed. -/
def backV (zs : List Int) (n d j : Nat) : Int :=
  if n - 1 - d ≤ j / 3 then (if j % 3 = 0 then (rng zs n (n - 1 - j / 3)).1 else if j % 3 = 1 then (rng zs n (n - 1 - j / 3)).2 else nth zs j) else nth zs j
theorem backV_low {zs : List Int} {n d i : Nat} (h : n - 1 - d ≤ i) : backV zs n d (i * 3) = (rng zs n (n - 1 - i)).1 := by
  have h1 : i * 3 / 3 = i := by omega
  have h2 : i * 3 % 3 = 0 := by omega
  simp [backV, h1, h2, h]
theorem backV_high {zs : List Int} {n d i : Nat} (h : n - 1 - d ≤ i) : backV zs n d (i * 3 + 1) = (rng zs n (n - 1 - i)).2 := by
  have h1 : (i * 3 + 1) / 3 = i := by omega
  have h2 : (i * 3 + 1) % 3 = 1 := by omega
  simp [backV, h1, h2, h]
theorem backV_pier {zs : List Int} {n d i : Nat} : backV zs n d (i * 3 + 2) = nth zs (i * 3 + 2) := by
  have h2 : (i * 3 + 2) % 3 = 2 := by omega
  simp [backV, h2]
theorem backV_old {zs : List Int} {n d i r : Nat} (h : i < n - 1 - d) (hr : r < 3) : backV zs n d (i * 3 + r) = nth zs (i * 3 + r) := by
  have h1 : (i * 3 + r) / 3 = i := by omega
  simp only [backV, h1]
  rw [if_neg (by omega)]
theorem backV_0 {zs : List Int} {n j : Nat} (hj : j < n * 3) : backV zs n 0 j = nth zs j := by
  unfold backV
  by_cases h : n - 1 - 0 ≤ j / 3
  · have e : j / 3 = n - 1 := by omega
    rw [if_pos h, e]
    have : n - 1 - (n - 1) = 0 := by omega
    rw [this]
    simp only [rng]
    by_cases h0 : j % 3 = 0
    · rw [if_pos h0]; congr 1; omega
    · by_cases h1 : j % 3 = 1
      · rw [if_neg h0, if_pos h1]; congr 1; omega
      · rw [if_neg h0, if_neg h1]
  · rw [if_neg h]
/-- One step more: two numbers are written. -/
theorem backV_step {zs : List Int} {n d : Nat} (hd : d + 1 < n) (j : Nat) :
    (if j = (n - 2 - d) * 3 + 1 then (rng zs n (d + 1)).2 else if j = (n - 2 - d) * 3 then (rng zs n (d + 1)).1 else backV zs n d j) = backV zs n (d + 1) j := by
  have hsub : n - 1 - (n - 2 - d) = d + 1 := by omega
  by_cases h1 : j = (n - 2 - d) * 3 + 1
  · subst h1
    rw [if_pos rfl, backV_high (by omega), hsub]
  · by_cases h0 : j = (n - 2 - d) * 3
    · subst h0
      rw [if_neg h1, if_pos rfl, backV_low (by omega), hsub]
    · rw [if_neg h1, if_neg h0]
      unfold backV
      by_cases hj : n - 1 - d ≤ j / 3
      · rw [if_pos hj, if_pos (show n - 1 - (d + 1) ≤ j / 3 by omega)]
      · rw [if_neg hj]
        by_cases hj2 : n - 1 - (d + 1) ≤ j / 3
        · rw [if_pos hj2, if_neg (by omega), if_neg (by omega)]
        · rw [if_neg hj2]
def backF (zs : List Int) (n d j : Nat) : Value := .int .i64 (backV zs n d j)
theorem backF_def (zs : List Int) (n d j : Nat) : backF zs n d j = .int .i64 (backV zs n d j) := rfl
end Go.Proofs.Ytdphndjohhfgoaa
