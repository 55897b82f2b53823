/-
  Plain facts: fair marks. Marks as digits; the greatest sum; the fairest of all. No Go function is spoken of here.
-/
import Derived.Test.YtplabaneihjcoaaBase
namespace Go.Proofs.Ytplabaneihjcoaa
open Go.RowKit

/-- The marks of number x, from place k down. -/
def fillGo (q : Nat) : List Int → Nat → Nat → List Int
  | L, _, 0 => L
  | L, x, k + 1 => fillGo q (L.set k ((1 + x % q : Nat) : Int)) (x / q) k
def digs (q n s : Nat) : List Int := fillGo q (List.replicate n 0) s n
/-- The next marks. -/
def nextGo (q : Int) : List Int → Nat → List Int × Bool
  | L, 0 => (L, false)
  | L, k + 1 => if nth L k < q then (L.set k (nth L k + 1), true) else nextGo q (L.set k 1) k
/-- The number that marks stand for. -/
def dec (q : Nat) (f : Nat → Int) : Nat → Nat
  | 0 => 0
  | j + 1 => dec q f j * q + (f j - 1).toNat
theorem dec_congr {q : Nat} {f g : Nat → Int} : ∀ {n : Nat}, (∀ j, j < n → f j = g j) → dec q f n = dec q g n
  | 0, _ => rfl
  | n + 1, h => by rw [dec, dec, dec_congr (fun j hj => h j (by omega)), h n (by omega)]
def chkNext (q n s : Nat) : Bool :=
  decide ((digs q n s).length = n) && (decide (dec q (nth (digs q n s)) n = s) && (((digs q n s).all fun z => decide (1 ≤ z) && decide (z ≤ (q : Int))) &&
    (if s + 1 < q ^ n then decide (nextGo (q : Int) (digs q n s) n = (digs q n (s + 1), true)) else decide ((nextGo (q : Int) (digs q n s) n).2 = false))))
theorem chkNextAll : (List.range 4).all (fun q => q == 0 || (List.range 8).all (fun n => (List.range (q ^ n)).all (chkNext q n))) = true := by decide +kernel
structure DigFacts (q n s : Nat) : Prop where
  len : (digs q n s).length = n
  dec : dec q (nth (digs q n s)) n = s
  bd : ∀ z ∈ digs q n s, 1 ≤ z ∧ z ≤ (q : Int)
  nxt : s + 1 < q ^ n → nextGo (q : Int) (digs q n s) n = (digs q n (s + 1), true)
  fin : ¬ s + 1 < q ^ n → (nextGo (q : Int) (digs q n s) n).2 = false
theorem dig_facts {q n s : Nat} (hq : 1 ≤ q) (hq3 : q ≤ 3) (hn : n ≤ 7) (hs : s < q ^ n) : DigFacts q n s := by
  have h := chkNextAll
  simp only [List.all_eq_true, List.mem_range, Bool.or_eq_true, beq_iff_eq] at h
  have h2 := (h q (by omega)).resolve_left (by omega) n (by omega) s hs
  simp only [chkNext, Bool.and_eq_true, decide_eq_true_eq, List.all_eq_true] at h2
  obtain ⟨h3, h3', h4, h5⟩ := h2
  refine ⟨h3, h3', h4, fun h => ?_, fun h => ?_⟩
  · rw [if_pos h] at h5; simpa using h5
  · rw [if_neg h] at h5; simpa using h5
theorem digs_0 {q n : Nat} (hq : 1 ≤ q) (hq3 : q ≤ 3) (hn : n ≤ 7) : digs q n 0 = List.replicate n 1 := by
  have h : q = 1 ∨ q = 2 ∨ q = 3 := by omega
  have h' : n = 0 ∨ n = 1 ∨ n = 2 ∨ n = 3 ∨ n = 4 ∨ n = 5 ∨ n = 6 ∨ n = 7 := by omega
  rcases h with rfl | rfl | rfl <;> rcases h' with rfl | rfl | rfl | rfl | rfl | rfl | rfl | rfl <;> rfl
/-- The sums of the weights with mark 0, 1, 2, 3. -/
def sumsGo (ws ms : List Int) : Nat → List Int
  | 0 => [0, 0, 0, 0]
  | k + 1 => (sumsGo ws ms k).set (nth ms k).toNat (nth (sumsGo ws ms k) (nth ms k).toNat + nth ws k)
def worst (ws ms : List Int) : Int := max (max (nth (sumsGo ws ms ws.length) 1) (nth (sumsGo ws ms ws.length) 2)) (nth (sumsGo ws ms ws.length) 3)
theorem sumsGo_length (ws ms : List Int) : ∀ k, (sumsGo ws ms k).length = 4
  | 0 => rfl
  | k + 1 => by rw [sumsGo, List.length_set, sumsGo_length ws ms k]
theorem nth_set (L : List Int) (i j : Nat) (z : Int) (hi : i < L.length) : nth (L.set i z) j = if j = i then z else nth L j := by
  unfold nth
  simp only [List.getD_eq_getElem?_getD, List.getElem?_set]
  by_cases h : i = j
  · subst h; simp [hi]
  · rw [if_neg h, if_neg (fun e => h e.symm)]
/-- Every sum lies between 0 and 10000 times the number of weights; with mark 0 there is none. -/
theorem sumsGo_bd {ws ms : List Int} (hw : ∀ k, 0 ≤ nth ws k ∧ nth ws k ≤ 10000) (hm : ∀ k, k < ms.length → 1 ≤ nth ms k ∧ nth ms k ≤ 3) :
    ∀ k, k ≤ ms.length → nth (sumsGo ws ms k) 0 = 0 ∧ ∀ j, 0 ≤ nth (sumsGo ws ms k) j ∧ nth (sumsGo ws ms k) j ≤ 10000 * (k : Int)
  | 0, _ => by
    refine ⟨rfl, fun j => ?_⟩
    match j with
    | 0 => simp [sumsGo, nth]
    | 1 => simp [sumsGo, nth]
    | 2 => simp [sumsGo, nth]
    | 3 => simp [sumsGo, nth]
    | j + 4 => simp [sumsGo, nth]
  | k + 1, hk => by
    have ih := sumsGo_bd hw hm k (by omega)
    have h1 := hm k (by omega)
    have h2 := hw k
    have hl : (nth ms k).toNat < (sumsGo ws ms k).length := by rw [sumsGo_length]; omega
    refine ⟨?_, fun j => ?_⟩
    · rw [sumsGo, nth_set _ _ _ _ hl, if_neg (by omega)]
      exact ih.1
    · rw [sumsGo, nth_set _ _ _ _ hl]
      have h3 := ih.2 (nth ms k).toNat
      have h4 := ih.2 j
      split <;> omega
/-- The number of the fairest marks among the first s + 1. -/
def bestS (W : Nat → Int) : Nat → Nat
  | 0 => 0
  | s + 1 => if W (s + 1) < W (bestS W s) then s + 1 else bestS W s
theorem bestS_le (W : Nat → Int) : ∀ s, bestS W s ≤ s
  | 0 => Nat.le_refl _
  | s + 1 => by
    have := bestS_le W s
    unfold bestS
    split <;> omega
/-- The best so far, as the reference keeps it. -/
def fairB (W : Nat → Int) (D : Nat → List Int) : Nat → List Int × Int
  | 0 => ([], -1)
  | k + 1 => if (fairB W D k).2 < 0 ∨ W k < (fairB W D k).2 then (D k, W k) else fairB W D k
theorem fairB_best {W : Nat → Int} {D : Nat → List Int} (h : ∀ s, 0 ≤ W s) : ∀ k, fairB W D (k + 1) = (D (bestS W k), W (bestS W k))
  | 0 => by simp [fairB, bestS]
  | k + 1 => by
    have ih := fairB_best (D := D) h k
    have h1 := h (bestS W k)
    rw [fairB, ih]
    simp only [bestS]
    by_cases c : W (k + 1) < W (bestS W k)
    · rw [if_pos (.inr c), if_pos c]
    · rw [if_neg (by omega), if_neg c]
theorem pow_bd {q n : Nat} (hq : q ≤ 3) (hn : n ≤ 7) : q ^ n ≤ 2187 :=
  Nat.le_trans (Nat.pow_le_pow_left hq n) (Nat.pow_le_pow_right (n := 3) (by omega) hn)
/-- The arguments of 'FairMarks' are in order. -/
def fairOk (ws : List Int) (q : Int) : Bool := (ws.all fun z => decide (0 ≤ z) && decide (z ≤ 10000)) && ((decide (1 ≤ q) && decide (q ≤ 3)) && decide (ws.length ≤ 7))
def fairW (ws : List Int) (q : Nat) (s : Nat) : Int := worst ws (digs q ws.length s)
def fairL (ws : List Int) (q : Nat) : List Int := digs q ws.length (bestS (fairW ws q) (q ^ ws.length - 1))
theorem worst_nonneg {ws ms : List Int} (hw : ∀ k, 0 ≤ nth ws k ∧ nth ws k ≤ 10000) (hm : ∀ k, k < ms.length → 1 ≤ nth ms k ∧ nth ms k ≤ 3) (hl : ws.length ≤ ms.length) : 0 ≤ worst ws ms := by
  have h := (sumsGo_bd hw hm ws.length hl).2 1
  unfold worst
  omega
theorem fairOk_t {ws : List Int} {q : Int} (h : fairOk ws q = true) : (∀ k, 0 ≤ nth ws k ∧ nth ws k ≤ 10000) ∧ (1 ≤ q ∧ q ≤ 3) ∧ ws.length ≤ 7 := by
  simp only [fairOk, Bool.and_eq_true, List.all_eq_true, decide_eq_true_eq] at h
  refine ⟨fun k => ?_, h.2.1, h.2.2⟩
  by_cases hk : k < ws.length
  · rw [nth_get _ _ hk]
    exact h.1 _ (List.getElem_mem hk)
  · simp [nth, List.getD, List.getElem?_eq_none (Nat.le_of_not_lt hk)]
theorem fairOk_mk {ws : List Int} {q : Int} (h1 : ∀ k, k < ws.length → inB (nth ws k) 0 10000 = true) (h2 : 1 ≤ q ∧ q ≤ 3) (h3 : ws.length ≤ 7) : fairOk ws q = true := by
  simp only [fairOk, Bool.and_eq_true, List.all_eq_true, decide_eq_true_eq]
  refine ⟨fun z hz => ?_, h2, h3⟩
  obtain ⟨k, hk, rfl⟩ := List.mem_iff_getElem.1 hz
  have := h1 k hk
  rw [inB_iff, nth_get _ _ hk] at this
  exact this
theorem fairOk_f1 {ws : List Int} {q : Int} {k : Nat} (h : inB (nth ws k) 0 10000 = false) : fairOk ws q = false := by
  cases h' : fairOk ws q
  · rfl
  · have := (fairOk_t h').1 k
    rw [inB_t this] at h
    cases h
theorem fairOk_f2 {ws : List Int} {q : Int} (h : ¬ (1 ≤ q ∧ q ≤ 3)) : fairOk ws q = false := by
  cases h' : fairOk ws q
  · rfl
  · exact absurd (fairOk_t h').2.1 h
theorem fairOk_f3 {ws : List Int} {q : Int} (h : ¬ ws.length ≤ 7) : fairOk ws q = false := by
  cases h' : fairOk ws q
  · rfl
  · exact absurd (fairOk_t h').2.2 h
end Go.Proofs.Ytplabaneihjcoaa
