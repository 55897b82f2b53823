/-
  Plain facts: the margin of a line of thrust, in the reference's way and in the program's. No Go function is spoken of here.
-/
import Derived.Test.YtdjhiegolojoaaaWBestP
namespace Go.Proofs.Ytdjhiegolojoaaa
open Go.RowKit

theorem plLI_eq {a b c d : Int} (ha : 0 ≤ a) (hb : 0 ≤ b) (hc : 0 ≤ c) (hd : 0 ≤ d) : plLI a b c d = decide (a * d < c * b) := by
  obtain ⟨a', rfl⟩ : ∃ a' : Nat, a = (a' : Int) := ⟨a.toNat, by omega⟩
  obtain ⟨b', rfl⟩ : ∃ b' : Nat, b = (b' : Int) := ⟨b.toNat, by omega⟩
  obtain ⟨c', rfl⟩ : ∃ c' : Nat, c = (c' : Int) := ⟨c.toNat, by omega⟩
  obtain ⟨d', rfl⟩ : ∃ d' : Nat, d = (d' : Int) := ⟨d.toNat, by omega⟩
  show decide (a' * d' < c' * b') = _
  rw [decide_eq_decide]
  constructor
  · intro h
    have : ((a' * d' : Nat) : Int) < ((c' * b' : Nat) : Int) := by omega
    simpa using this
  · intro h
    have : ((a' * d' : Nat) : Int) < ((c' * b' : Nat) : Int) := by simpa using h
    omega
/-- The less one of a place's two distances. -/
def mgM (L : List Int) (k : Nat) : Int := min (nth L (k * 2)) (nth L (k * 2 + 1) - nth L (k * 2))
/-- The least margin among the first k places, 1 / 1 at first. -/
def mgTo (L : List Int) : Nat → Int × Int
  | 0 => (1, 1)
  | k + 1 => if plLI (mgM L k) (nth L (k * 2 + 1)) (mgTo L k).1 (mgTo L k).2 = true then (mgM L k, nth L (k * 2 + 1)) else mgTo L k
theorem mgTo_t {L : List Int} {k : Nat} (h : plLI (mgM L k) (nth L (k * 2 + 1)) (mgTo L k).1 (mgTo L k).2 = true) : mgTo L (k + 1) = (mgM L k, nth L (k * 2 + 1)) := by simp [mgTo, h]
theorem mgTo_f {L : List Int} {k : Nat} (h : plLI (mgM L k) (nth L (k * 2 + 1)) (mgTo L k).1 (mgTo L k).2 = false) : mgTo L (k + 1) = ((mgTo L k).1, (mgTo L k).2) := by simp [mgTo, h]
def PlAll (L : List Int) (m : Nat) : Prop := ∀ i, i < m → PlOk (nth L (i * 2)) (nth L (i * 2 + 1))
theorem mgM_bd {L : List Int} {m k : Nat} (h : PlAll L m) (hk : k < m) : 0 ≤ mgM L k ∧ mgM L k < nth L (k * 2 + 1) ∧ nth L (k * 2 + 1) ≤ 2000000000000000 ∧ Nat.gcd (mgM L k).natAbs (nth L (k * 2 + 1)).natAbs = 1 := by
  obtain ⟨h1, h2, h3, h4, h5⟩ := h k hk
  unfold mgM
  refine ⟨by omega, by omega, h4, ?_⟩
  generalize nth L (k * 2) = N at *
  generalize nth L (k * 2 + 1) = D at *
  by_cases e : N ≤ D - N
  · rw [Int.min_eq_left e]; exact h5
  · rw [Int.min_eq_right (by omega)]
    obtain ⟨a, rfl⟩ : ∃ a : Nat, N = (a : Int) := ⟨N.toNat, by omega⟩
    obtain ⟨b, rfl⟩ : ∃ b : Nat, D = (b : Int) := ⟨D.toNat, by omega⟩
    rw [show ((b : Int) - (a : Int)).natAbs = b - a by omega]
    simp only [Int.natAbs_natCast] at h5 ⊢
    rw [Nat.gcd_comm]
    rw [Nat.gcd_comm] at h5
    rw [← h5]
    exact Nat.gcd_self_sub_right (by omega)
theorem mgTo_bd {L : List Int} {m : Nat} (h : PlAll L m) : ∀ k, k ≤ m → (0 ≤ (mgTo L k).1 ∧ (mgTo L k).1 ≤ 2000000000000000) ∧ (0 < (mgTo L k).2 ∧ (mgTo L k).2 ≤ 2000000000000000)
  | 0, _ => by simp [mgTo]
  | k + 1, hk => by
    have ih := mgTo_bd h k (by omega)
    have hm := mgM_bd h (k := k) (by omega)
    simp only [mgTo]
    split
    · dsimp only; omega
    · exact ih
/-- Both distances of each place, flattened. -/
def dblL (L : List Int) : Nat → List Int
  | 0 => []
  | k + 1 => dblL L k ++ [nth L (k * 2), nth L (k * 2 + 1), nth L (k * 2 + 1) - nth L (k * 2), nth L (k * 2 + 1)]
theorem dblL_len (L : List Int) : ∀ k, (dblL L k).length = k * 4
  | 0 => rfl
  | k + 1 => by simp [dblL, dblL_len L k]; omega
theorem nth_app_l {xs ys : List Int} {i : Nat} (h : i < xs.length) : nth (xs ++ ys) i = nth xs i := by simp only [nth, List.getD]; rw [List.getElem?_append_left h]
theorem nth_app_r {xs ys : List Int} {i j : Nat} (h : i = xs.length + j) : nth (xs ++ ys) i = nth ys j := by
  subst h
  simp only [nth, List.getD]
  rw [List.getElem?_append_right (by omega), Nat.add_sub_cancel_left]
theorem dblL_nth (L : List Int) : ∀ {m k : Nat}, k < m → nth (dblL L m) (k * 4) = nth L (k * 2) ∧ nth (dblL L m) (k * 4 + 1) = nth L (k * 2 + 1) ∧ nth (dblL L m) (k * 4 + 2) = nth L (k * 2 + 1) - nth L (k * 2) ∧ nth (dblL L m) (k * 4 + 3) = nth L (k * 2 + 1)
  | 0, k, h => absurd h (by omega)
  | m + 1, k, h => by
    have hl := dblL_len L m
    simp only [dblL]
    by_cases e : k = m
    · subst e
      rw [nth_app_r (j := 0) (by omega), nth_app_r (j := 1) (by omega), nth_app_r (j := 2) (by omega), nth_app_r (j := 3) (by omega)]
      exact ⟨rfl, rfl, rfl, rfl⟩
    · rw [nth_app_l (by omega), nth_app_l (by omega), nth_app_l (by omega), nth_app_l (by omega)]
      exact dblL_nth L (by omega)
theorem pair_step {N D n d : Int} (h0 : 0 ≤ N) (h1 : N ≤ D) (h2 : 0 < D) (h3 : 0 ≤ n) (h4 : 0 < d) :
    (if plLI (D - N) D (if plLI N D n d = true then (N, D) else (n, d)).1 (if plLI N D n d = true then (N, D) else (n, d)).2 = true then (D - N, D) else (if plLI N D n d = true then (N, D) else (n, d))) =
      if plLI (min N (D - N)) D n d = true then (min N (D - N), D) else (n, d) := by
  have hDN : 0 ≤ D - N := by omega
  by_cases e : N ≤ D - N
  · rw [Int.min_eq_left e]
    have m1 : N * d ≤ (D - N) * d := Int.mul_le_mul_of_nonneg_right e (by omega)
    have m2 : N * D ≤ (D - N) * D := Int.mul_le_mul_of_nonneg_right e (by omega)
    rw [plLI_eq h0 (by omega) h3 (by omega)]
    by_cases f : N * d < n * D
    · have f' : decide (N * d < n * D) = true := decide_eq_true f
      simp only [f', if_true]
      rw [plLI_eq hDN (by omega) h0 (by omega)]
      rw [if_neg (by simp; omega)]
    · have f' : decide (N * d < n * D) = false := decide_eq_false f
      simp only [f', if_false, Bool.false_eq_true]
      rw [plLI_eq hDN (by omega) h3 (by omega)]
      rw [if_neg (by simp; omega)]
  · rw [Int.min_eq_right (by omega)]
    have m1 : (D - N) * d ≤ N * d := Int.mul_le_mul_of_nonneg_right (by omega) (by omega)
    have m2 : (D - N) * D < N * D := Int.mul_lt_mul_of_pos_right (by omega) (by omega)
    rw [plLI_eq h0 (by omega) h3 (by omega), plLI_eq hDN (by omega) h3 (by omega)]
    by_cases f : N * d < n * D
    · have f' : decide (N * d < n * D) = true := decide_eq_true f
      simp only [f', if_true]
      rw [plLI_eq hDN (by omega) h0 (by omega)]
      rw [if_pos (by simpa using m2), if_pos (by simp; omega)]
    · have f' : decide (N * d < n * D) = false := decide_eq_false f
      simp only [f', if_false, Bool.false_eq_true]
      rw [plLI_eq hDN (by omega) h3 (by omega)]
theorem pbTo_succ (bt : Int → Int → Int → Int → Bool) (xs : List Int) (k : Nat) : pbTo bt xs (k + 1) = if bt (nth xs ((k + 1) * 2)) (nth xs ((k + 1) * 2 + 1)) (pbTo bt xs k).1 (pbTo bt xs k).2 = true then (nth xs ((k + 1) * 2), nth xs ((k + 1) * 2 + 1)) else pbTo bt xs k := rfl
theorem dbl_best {L : List Int} {m : Nat} (h : PlAll L m) : ∀ k, k < m → pbTo plLI (dblL L m) (2 * k + 1) = mgTo L (k + 1)
  | 0, hk => by
    obtain ⟨h1, h2, h3, h4, _⟩ := h 0 hk
    obtain ⟨d0, d1, d2, d3⟩ := dblL_nth L hk
    have hm := mgM_bd h hk
    rw [Nat.mul_zero, Nat.zero_add, pbTo_succ]
    show (if plLI (nth (dblL L m) (0 * 4 + 2)) (nth (dblL L m) (0 * 4 + 3)) (nth (dblL L m) (0 * 4)) (nth (dblL L m) (0 * 4 + 1)) = true then (nth (dblL L m) (0 * 4 + 2), nth (dblL L m) (0 * 4 + 3)) else (nth (dblL L m) (0 * 4), nth (dblL L m) (0 * 4 + 1))) = _
    rw [d0, d1, d2, d3]
    have h5 : plLI (mgM L 0) (nth L (0 * 2 + 1)) (mgTo L 0).1 (mgTo L 0).2 = true := by
      simp only [mgTo]
      rw [plLI_eq hm.1 (by omega) (by omega) (by omega)]
      exact decide_eq_true (by omega)
    rw [mgTo_t h5]
    unfold mgM
    generalize nth L (0 * 2) = N at *
    generalize nth L (0 * 2 + 1) = D at *
    rw [plLI_eq (by omega) (by omega) h1 (by omega)]
    by_cases e : N ≤ D - N
    · rw [Int.min_eq_left e, if_neg]
      have m2 : N * D ≤ (D - N) * D := Int.mul_le_mul_of_nonneg_right e (by omega)
      simp; omega
    · rw [Int.min_eq_right (by omega), if_pos]
      have m2 : (D - N) * D < N * D := Int.mul_lt_mul_of_pos_right (by omega) (by omega)
      simpa using m2
  | k + 1, hk => by
    obtain ⟨h1, h2, h3, h4, _⟩ := h (k + 1) hk
    obtain ⟨d0, d1, d2, d3⟩ := dblL_nth L hk
    have ih := dbl_best h k (by omega)
    have hb := mgTo_bd h (k + 1) (by omega)
    have e1 : 2 * (k + 1) + 1 = (2 * k + 1 + 1) + 1 := by omega
    rw [e1, pbTo_succ, pbTo_succ, ih]
    rw [show (2 * k + 1 + 1) * 2 = (k + 1) * 4 by omega, show (2 * k + 1 + 1 + 1) * 2 = (k + 1) * 4 + 2 by omega, d0, d1, d2, show (k + 1) * 4 + 2 + 1 = (k + 1) * 4 + 3 by omega, d3]
    show _ = if plLI (mgM L (k + 1)) (nth L ((k + 1) * 2 + 1)) (mgTo L (k + 1)).1 (mgTo L (k + 1)).2 = true then (mgM L (k + 1), nth L ((k + 1) * 2 + 1)) else mgTo L (k + 1)
    exact pair_step h1 h2 h3 hb.1.1 hb.2.1
/-- The margin's two numbers, 0 if there is no place. -/
def mgN (L : List Int) (m : Nat) : Int := if m = 0 then 0 else (mgTo L m).1
def mgD (L : List Int) (m : Nat) : Int := if m = 0 then 0 else (mgTo L m).2
end Go.Proofs.Ytdjhiegolojoaaa
