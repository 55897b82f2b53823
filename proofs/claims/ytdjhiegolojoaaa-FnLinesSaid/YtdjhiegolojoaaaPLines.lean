/-
  Plain facts: the law of the lines of thrust. No Go function is spoken of here.
-/
import Derived.Test.YtdjhiegolojoaaaWMid
namespace Go.Proofs.Ytdjhiegolojoaaa
open Go.RowKit

/-- Whether the place of joint k is an end. -/
def tchB (L : List Int) (k : Nat) : Bool := decide (nth L (k * 2) = 0) || decide (nth L (k * 2) = nth L (k * 2 + 1))
/-- The joints among the first k whose place is an end. -/
def tchL (L : List Int) : Nat → List Int
  | 0 => []
  | k + 1 => if tchB L k = true then tchL L k ++ [(k : Int)] else tchL L k
theorem tchL_t {L : List Int} {k : Nat} (h : tchB L k = true) : tchL L (k + 1) = tchL L k ++ [(k : Int)] := by simp [tchL, h]
theorem tchL_f {L : List Int} {k : Nat} (h : tchB L k = false) : tchL L (k + 1) = tchL L k := by simp [tchL, h]
theorem tchL_len (L : List Int) : ∀ k, (tchL L k).length ≤ k
  | 0 => by simp [tchL]
  | k + 1 => by
    have := tchL_len L k
    simp only [tchL]
    split
    · simp; omega
    · omega
theorem tchL_mem (L : List Int) : ∀ m (x : Int), x ∈ tchL L m ↔ ∃ k : Nat, k < m ∧ x = (k : Int) ∧ tchB L k = true
  | 0, x => by simp [tchL]
  | m + 1, x => by
    have ih := tchL_mem L m x
    simp only [tchL]
    by_cases h : tchB L m = true
    · rw [if_pos h, List.mem_append, ih]
      constructor
      · rintro (⟨k, h1, h2, h3⟩ | h1)
        · exact ⟨k, by omega, h2, h3⟩
        · simp at h1; exact ⟨m, by omega, h1, h⟩
      · rintro ⟨k, h1, h2, h3⟩
        by_cases e : k = m
        · subst e; right; simp [h2]
        · left; exact ⟨k, by omega, h2, h3⟩
    · rw [if_neg h, ih]
      constructor
      · rintro ⟨k, h1, h2, h3⟩; exact ⟨k, by omega, h2, h3⟩
      · rintro ⟨k, h1, h2, h3⟩
        by_cases e : k = m
        · subst e; exact absurd h3 h
        · exact ⟨k, by omega, h2, h3⟩
/-- Whether a list of ints holds one of its first k entries that is x. -/
def hasI (xs : List Int) (x : Int) : Nat → Bool
  | 0 => false
  | k + 1 => hasI xs x k || decide (nth xs k = x)
theorem hasI_iff (xs : List Int) (x : Int) : ∀ k, hasI xs x k = true ↔ ∃ i, i < k ∧ nth xs i = x
  | 0 => by simp [hasI]
  | k + 1 => by
    simp only [hasI, Bool.or_eq_true, hasI_iff xs x k, decide_eq_true_eq]
    constructor
    · rintro (⟨i, h1, h2⟩ | h)
      · exact ⟨i, by omega, h2⟩
      · exact ⟨k, by omega, h⟩
    · rintro ⟨i, h1, h2⟩
      by_cases e : i = k
      · subst e; exact Or.inr h2
      · exact Or.inl ⟨i, by omega, h2⟩
theorem mem_nth {xs : List Int} {x : Int} : x ∈ xs ↔ ∃ i, i < xs.length ∧ nth xs i = x := by
  constructor
  · intro h
    obtain ⟨i, hi, e⟩ := List.getElem_of_mem h
    exact ⟨i, hi, by rw [nth_get _ _ hi]; exact e⟩
  · rintro ⟨i, hi, e⟩
    rw [nth_get _ _ hi] at e
    exact e ▸ List.getElem_mem hi
/-- The law's word on 'has': a joint is among those touched just if its place is an end. -/
theorem has_tch (L : List Int) {m k : Nat} (hk : k < m) : hasI (tchL L m) (k : Int) (tchL L m).length = tchB L k := by
  rw [Bool.eq_iff_iff, hasI_iff, ← mem_nth, tchL_mem]
  constructor
  · rintro ⟨j, h1, h2, h3⟩
    have : k = j := by omega
    subst this; exact h3
  · intro h; exact ⟨k, hk, rfl, h⟩
theorem mgM_zero {L : List Int} {m k : Nat} (h : PlAll L m) (hk : k < m) : mgM L k = 0 ↔ tchB L k = true := by
  obtain ⟨h1, h2, h3, h4, _⟩ := h k hk
  unfold mgM tchB
  simp only [Bool.or_eq_true, decide_eq_true_eq]
  omega
theorem mgM_half {L : List Int} {m k : Nat} (h : PlAll L m) (hk : k < m) : 2 * mgM L k ≤ nth L (k * 2 + 1) := by
  obtain ⟨h1, h2, h3, h4, _⟩ := h k hk
  unfold mgM
  omega
theorem mgTo_half {L : List Int} {m : Nat} (h : PlAll L m) : ∀ k, k < m → 2 * (mgTo L (k + 1)).1 ≤ (mgTo L (k + 1)).2
  | 0, hk => by
    have hb := mgM_bd h hk
    have h5 : plLI (mgM L 0) (nth L (0 * 2 + 1)) (mgTo L 0).1 (mgTo L 0).2 = true := by
      simp only [mgTo]
      rw [plLI_eq hb.1 (by omega) (by omega) (by omega)]
      exact decide_eq_true (by omega)
    rw [mgTo_t h5]
    exact mgM_half h hk
  | k + 1, hk => by
    have ih := mgTo_half h k (by omega)
    cases h5 : plLI (mgM L (k + 1)) (nth L ((k + 1) * 2 + 1)) (mgTo L (k + 1)).1 (mgTo L (k + 1)).2
    · rw [mgTo_f h5]; exact ih
    · rw [mgTo_t h5]; exact mgM_half h hk
theorem mgTo_zero {L : List Int} {m : Nat} (h : PlAll L m) : ∀ k, k ≤ m → ((mgTo L k).1 = 0 ↔ ∃ i, i < k ∧ mgM L i = 0)
  | 0, _ => by simp [mgTo]
  | k + 1, hk => by
    have ih := mgTo_zero h k (by omega)
    have hb := mgM_bd h (k := k) (by omega)
    have ht := mgTo_bd h k (by omega)
    have hD : 0 < nth L (k * 2 + 1) := by omega
    cases h5 : plLI (mgM L k) (nth L (k * 2 + 1)) (mgTo L k).1 (mgTo L k).2
    · rw [mgTo_f h5]
      rw [plLI_eq hb.1 (by omega) (by omega) (by omega)] at h5
      have h6 := of_decide_eq_false h5
      show (mgTo L k).1 = 0 ↔ _
      rw [ih]
      constructor
      · rintro ⟨i, h1, h2⟩; exact ⟨i, by omega, h2⟩
      · rintro ⟨i, h1, h2⟩
        by_cases e : i = k
        · subst e
          rw [h2, Int.zero_mul] at h6
          have h7 : (mgTo L i).1 * nth L (i * 2 + 1) ≤ 0 := by omega
          have h8 : (mgTo L i).1 = 0 := by
            by_cases h9 : 0 < (mgTo L i).1
            · have := Int.mul_pos h9 hD; omega
            · omega
          exact ih.1 h8
        · exact ⟨i, by omega, h2⟩
    · rw [mgTo_t h5]
      rw [plLI_eq hb.1 (by omega) (by omega) (by omega)] at h5
      have h6 := of_decide_eq_true h5
      show mgM L k = 0 ↔ _
      constructor
      · intro e; exact ⟨k, by omega, e⟩
      · rintro ⟨i, h1, h2⟩
        by_cases e : i = k
        · subst e; exact h2
        · have h8 := ih.2 ⟨i, by omega, h2⟩
          rw [h8, Int.zero_mul] at h6
          by_cases h9 : 0 < mgM L k
          · have := Int.mul_pos h9 ht.2.1; omega
          · omega
/-- What the law asks of the margin. -/
theorem mg_law {L : List Int} {m : Nat} (h : PlAll L m) (hm : 0 < m) : 2 * mgN L m ≤ mgD L m ∧ (mgN L m = 0 ↔ 0 < (tchL L m).length) := by
  rw [(mg_t hm).1, (mg_t hm).2]
  obtain ⟨k, rfl⟩ : ∃ k, m = k + 1 := ⟨m - 1, by omega⟩
  refine ⟨mgTo_half h k (by omega), ?_⟩
  rw [mgTo_zero h (k + 1) (Nat.le_refl _)]
  constructor
  · rintro ⟨i, h1, h2⟩
    have := (tchL_mem L (k + 1) (i : Int)).2 ⟨i, h1, rfl, (mgM_zero h h1).1 h2⟩
    exact List.length_pos_of_mem this
  · intro hp
    obtain ⟨x, hx⟩ := List.exists_mem_of_length_pos hp
    obtain ⟨i, h1, _, h3⟩ := (tchL_mem L (k + 1) x).1 hx
    exact ⟨i, h1, (mgM_zero h h1).2 h3⟩
theorem mid_mono {L : List Int} {m : Nat} {k : Int} (h : PlAll L m) (hm : 0 < m) (hk : 2 ≤ k) (hk9 : k ≤ 99) (h1 : midB L m k = true) : midB L m (k + 1) = true := by
  have hb := mg_bd h hm
  rw [midB_t hm (inB_iff.2 ⟨by omega, by omega⟩)] at h1
  rw [midB_t hm (inB_iff.2 ⟨by omega, by omega⟩)]
  have h2 := of_decide_eq_true h1
  refine decide_eq_true ?_
  rw [Int.mul_add, Int.mul_one]
  omega
theorem mid_100 {L : List Int} {m : Nat} (hm : 0 < m) (h1 : ¬ mgN L m * 100 < mgD L m) : midB L m 100 = true := by
  rw [midB_t hm (by decide)]
  exact decide_eq_true (by omega)
theorem tch_none {L : List Int} : (tchL L 0).length = 0 := rfl
/-- A thrust that is none has no places. -/
theorem pkLen_zero (zs : List Int) (n : Nat) (ls : List Int) (q : Nat) (hA : 0 < n) : pkLen zs n ls q 0 0 0 0 = 0 := by
  have h : pkB zs n ls q 0 0 0 0 0 = false := by
    cases e : pkB zs n ls q 0 0 0 0 0
    · rfl
    · have h' : plcB zs n ls q 0 0 0 0 ((0 : Nat) : Int) = true := e
      simp only [plcB, Bool.and_eq_true] at h'
      have := h'.1
      simp [insB, pushB, thrB, inB] at this
  rw [(pkLen_f (allPk_f hA h)).1]
end Go.Proofs.Ytdjhiegolojoaaa
