/-
  Plain facts: the program's way to look for a straight line: the greatest lower and the least upper slope. No Go function is walked here.
-/
import Derived.Test.YtdkdjjdedogcbaaPStraight
import Derived.Test.YtdkdjjdedogcbaaWBest
namespace Go.Proofs.Ytdkdjjdedogcbaa

section
variable {zs : List Int} {n : Nat}
/-- The slopes that bound from below, from above: of the first t pairs. -/
def lowTo (zs : List Int) (n : Nat) : Nat → List Int
  | 0 => []
  | t + 1 => if 0 < dX zs (t / n) (t % n) then lowTo zs n t ++ [dY zs (t / n) (t % n), dX zs (t / n) (t % n)] else lowTo zs n t
def lowN (zs : List Int) (n : Nat) : Nat → Nat
  | 0 => 0
  | t + 1 => if 0 < dX zs (t / n) (t % n) then lowN zs n t + 1 else lowN zs n t
def highTo (zs : List Int) (n : Nat) : Nat → List Int
  | 0 => []
  | t + 1 => if dX zs (t / n) (t % n) < 0 then highTo zs n t ++ [-dY zs (t / n) (t % n), -dX zs (t / n) (t % n)] else highTo zs n t
def highN (zs : List Int) (n : Nat) : Nat → Nat
  | 0 => 0
  | t + 1 => if dX zs (t / n) (t % n) < 0 then highN zs n t + 1 else highN zs n t
theorem lowN_le : ∀ t, lowN zs n t ≤ t
  | 0 => Nat.le_refl _
  | t + 1 => by have := lowN_le t; simp only [lowN]; split <;> omega
theorem highN_le : ∀ t, highN zs n t ≤ t
  | 0 => Nat.le_refl _
  | t + 1 => by have := highN_le t; simp only [highN]; split <;> omega
theorem lowTo_len : ∀ t, (lowTo zs n t).length = lowN zs n t * 2
  | 0 => rfl
  | t + 1 => by have := lowTo_len t; simp only [lowTo, lowN]; split <;> (try rw [List.length_append, List.length_cons, List.length_cons, List.length_nil]) <;> omega
theorem highTo_len : ∀ t, (highTo zs n t).length = highN zs n t * 2
  | 0 => rfl
  | t + 1 => by have := highTo_len t; simp only [highTo, highN]; split <;> (try rw [List.length_append, List.length_cons, List.length_cons, List.length_nil]) <;> omega
theorem nth_app_lt {xs ys : List Int} {k : Nat} (h : k < xs.length) : nth (xs ++ ys) k = nth xs k := by simp [nth, List.getD, List.getElem?_append_left h]
theorem nth_app_0 {xs : List Int} {k : Nat} {a b : Int} (h : xs.length = k) : nth (xs ++ [a, b]) k = a := by subst h; simp [nth, List.getD]
theorem nth_app_1 {xs : List Int} {k : Nat} {a b : Int} (h : xs.length = k) : nth (xs ++ [a, b]) (k + 1) = b := by subst h; simp [nth, List.getD]
theorem low_from : ∀ t j, j < lowN zs n t → ∃ s, s < t ∧ 0 < dX zs (s / n) (s % n) ∧ nth (lowTo zs n t) (j * 2) = dY zs (s / n) (s % n) ∧ nth (lowTo zs n t) (j * 2 + 1) = dX zs (s / n) (s % n)
  | 0, j, hj => absurd hj (by simp [lowN])
  | t + 1, j, hj => by
    have hl := lowTo_len (zs := zs) (n := n) t
    by_cases hd : 0 < dX zs (t / n) (t % n)
    · simp only [lowN, hd, if_true] at hj
      simp only [lowTo, hd, if_true]
      by_cases e : j = lowN zs n t
      · exact ⟨t, by omega, hd, nth_app_0 (by omega), nth_app_1 (by omega)⟩
      · obtain ⟨s, h1, h2, h3, h4⟩ := low_from t j (by omega)
        exact ⟨s, by omega, h2, by rw [nth_app_lt (by omega)]; exact h3, by rw [nth_app_lt (by omega)]; exact h4⟩
    · simp only [lowN, hd, if_false] at hj
      simp only [lowTo, hd, if_false]
      obtain ⟨s, h1, h2⟩ := low_from t j hj
      exact ⟨s, by omega, h2⟩
theorem low_has : ∀ t s, s < t → 0 < dX zs (s / n) (s % n) → ∃ j, j < lowN zs n t ∧ nth (lowTo zs n t) (j * 2) = dY zs (s / n) (s % n) ∧ nth (lowTo zs n t) (j * 2 + 1) = dX zs (s / n) (s % n)
  | 0, s, hs, _ => absurd hs (by omega)
  | t + 1, s, hs, hp => by
    have hl := lowTo_len (zs := zs) (n := n) t
    by_cases e : s = t
    · subst e
      refine ⟨lowN zs n s, by simp [lowN, hp], ?_, ?_⟩
      · simp only [lowTo, hp, if_true]; exact nth_app_0 (by omega)
      · simp only [lowTo, hp, if_true]; exact nth_app_1 (by omega)
    · obtain ⟨j, h1, h2, h3⟩ := low_has t s (by omega) hp
      by_cases hd : 0 < dX zs (t / n) (t % n)
      · refine ⟨j, by simp only [lowN, hd, if_true]; omega, ?_, ?_⟩
        · simp only [lowTo, hd, if_true]; rw [nth_app_lt (by omega)]; exact h2
        · simp only [lowTo, hd, if_true]; rw [nth_app_lt (by omega)]; exact h3
      · exact ⟨j, by simp only [lowN, hd, if_false]; exact h1, by simp only [lowTo, hd, if_false]; exact h2, by simp only [lowTo, hd, if_false]; exact h3⟩
theorem high_from : ∀ t j, j < highN zs n t → ∃ s, s < t ∧ dX zs (s / n) (s % n) < 0 ∧ nth (highTo zs n t) (j * 2) = -dY zs (s / n) (s % n) ∧ nth (highTo zs n t) (j * 2 + 1) = -dX zs (s / n) (s % n)
  | 0, j, hj => absurd hj (by simp [highN])
  | t + 1, j, hj => by
    have hl := highTo_len (zs := zs) (n := n) t
    by_cases hd : dX zs (t / n) (t % n) < 0
    · simp only [highN, hd, if_true] at hj
      simp only [highTo, hd, if_true]
      by_cases e : j = highN zs n t
      · exact ⟨t, by omega, hd, nth_app_0 (by omega), nth_app_1 (by omega)⟩
      · obtain ⟨s, h1, h2, h3, h4⟩ := high_from t j (by omega)
        exact ⟨s, by omega, h2, by rw [nth_app_lt (by omega)]; exact h3, by rw [nth_app_lt (by omega)]; exact h4⟩
    · simp only [highN, hd, if_false] at hj
      simp only [highTo, hd, if_false]
      obtain ⟨s, h1, h2⟩ := high_from t j hj
      exact ⟨s, by omega, h2⟩
theorem high_has : ∀ t s, s < t → dX zs (s / n) (s % n) < 0 → ∃ j, j < highN zs n t ∧ nth (highTo zs n t) (j * 2) = -dY zs (s / n) (s % n) ∧ nth (highTo zs n t) (j * 2 + 1) = -dX zs (s / n) (s % n)
  | 0, s, hs, _ => absurd hs (by omega)
  | t + 1, s, hs, hp => by
    have hl := highTo_len (zs := zs) (n := n) t
    by_cases e : s = t
    · subst e
      refine ⟨highN zs n s, by simp [highN, hp], ?_, ?_⟩
      · simp only [highTo, hp, if_true]; exact nth_app_0 (by omega)
      · simp only [highTo, hp, if_true]; exact nth_app_1 (by omega)
    · obtain ⟨j, h1, h2, h3⟩ := high_has t s (by omega) hp
      by_cases hd : dX zs (t / n) (t % n) < 0
      · refine ⟨j, by simp only [highN, hd, if_true]; omega, ?_, ?_⟩
        · simp only [highTo, hd, if_true]; rw [nth_app_lt (by omega)]; exact h2
        · simp only [highTo, hd, if_true]; rw [nth_app_lt (by omega)]; exact h3
      · exact ⟨j, by simp only [highN, hd, if_false]; exact h1, by simp only [highTo, hd, if_false]; exact h2, by simp only [highTo, hd, if_false]; exact h3⟩
end

/-- 'a / b ≤ c / d' for positive b, d, chained. -/
theorem sl_trans {a b c d e f : Int} (hd : 0 < d) (hb : 0 < b) (hf : 0 < f) (h1 : a * d ≤ c * b) (h2 : c * f ≤ e * d) : a * f ≤ e * b := by
  have m1 : a * d * f ≤ c * b * f := Int.mul_le_mul_of_nonneg_right h1 (by omega)
  have m2 : c * f * b ≤ e * d * b := Int.mul_le_mul_of_nonneg_right h2 (by omega)
  have m3 : d * (a * f) ≤ d * (e * b) := by grind
  exact Int.le_of_mul_le_mul_left m3 hd

section
variable {xs : List Int}
theorem best_in (bt : Int → Int → Int → Int → Bool) : ∀ k, ∃ j, j ≤ k ∧ bestTo bt xs k = (nth xs (j * 2), nth xs (j * 2 + 1))
  | 0 => ⟨0, Nat.le_refl _, rfl⟩
  | k + 1 => by
    obtain ⟨j, hj, e⟩ := best_in bt k
    simp only [bestTo]
    split
    · exact ⟨k + 1, Nat.le_refl _, rfl⟩
    · exact ⟨j, by omega, e⟩
theorem best_more {n : Nat} (hd : ∀ j, j < n → 0 < nth xs (j * 2 + 1)) : ∀ k, k < n → ∀ j, j ≤ k → nth xs (j * 2) * (bestTo slMore xs k).2 ≤ (bestTo slMore xs k).1 * nth xs (j * 2 + 1)
  | 0, _, j, hj => by obtain rfl : j = 0 := by omega
                      exact Int.le_refl _
  | k + 1, hk, j, hj => by
    have ih := best_more hd k (by omega)
    obtain ⟨m, hm, em⟩ := best_in slMore (xs := xs) k
    have dm := hd m (by omega)
    cases hb : slMore (nth xs ((k + 1) * 2)) (nth xs ((k + 1) * 2 + 1)) (bestTo slMore xs k).1 (bestTo slMore xs k).2
    · rw [bestTo_f hb]
      by_cases e : j = k + 1
      · subst e
        simp [slMore, slLess] at hb
        exact hb
      · exact ih j (by omega)
    · rw [bestTo_t hb]
      by_cases e : j = k + 1
      · subst e; exact Int.le_refl _
      · have h1 := ih j (by omega)
        have h2 : (bestTo slMore xs k).1 * nth xs ((k + 1) * 2 + 1) ≤ nth xs ((k + 1) * 2) * (bestTo slMore xs k).2 := by
          simp [slMore, slLess] at hb
          omega
        rw [em] at h1 h2
        exact sl_trans dm (hd j (by omega)) (hd (k + 1) hk) h1 h2
theorem best_less {n : Nat} (hd : ∀ j, j < n → 0 < nth xs (j * 2 + 1)) : ∀ k, k < n → ∀ j, j ≤ k → (bestTo slLess xs k).1 * nth xs (j * 2 + 1) ≤ nth xs (j * 2) * (bestTo slLess xs k).2
  | 0, _, j, hj => by obtain rfl : j = 0 := by omega
                      exact Int.le_refl _
  | k + 1, hk, j, hj => by
    have ih := best_less hd k (by omega)
    obtain ⟨m, hm, em⟩ := best_in slLess (xs := xs) k
    have dm := hd m (by omega)
    cases hb : slLess (nth xs ((k + 1) * 2)) (nth xs ((k + 1) * 2 + 1)) (bestTo slLess xs k).1 (bestTo slLess xs k).2
    · rw [bestTo_f hb]
      by_cases e : j = k + 1
      · subst e
        simp [slLess] at hb
        exact hb
      · exact ih j (by omega)
    · rw [bestTo_t hb]
      by_cases e : j = k + 1
      · subst e; exact Int.le_refl _
      · have h1 := ih j (by omega)
        have h2 : nth xs ((k + 1) * 2) * (bestTo slLess xs k).2 ≤ (bestTo slLess xs k).1 * nth xs ((k + 1) * 2 + 1) := by
          simp [slLess] at hb
          omega
        rw [em] at h1 h2
        exact sl_trans dm (hd (k + 1) hk) (hd j (by omega)) h2 h1
end

/-- No pair of the first t stands straight above the other in the wrong order. -/
def noBad (zs : List Int) (n t : Nat) : Prop := ∀ s, s < t → dX zs (s / n) (s % n) = 0 → dY zs (s / n) (s % n) ≤ 0
theorem divmod {n i o : Nat} (ho : o < n) : (i * n + o) / n = i ∧ (i * n + o) % n = o := by
  constructor
  · rw [Nat.mul_comm, Nat.mul_add_div (by omega), Nat.div_eq_of_lt ho, Nat.add_zero]
  · rw [Nat.mul_comm, Nat.mul_add_mod, Nat.mod_eq_of_lt ho]
theorem pair_lt {n i o : Nat} (hi : i < n) (ho : o < n) : i * n + o < n * n := by
  have : (i + 1) * n ≤ n * n := Nat.mul_le_mul_right _ hi
  rw [Nat.add_mul] at this
  omega
theorem pair_of {n s : Nat} (hs : s < n * n) : s / n < n ∧ s % n < n := by
  have hn : 0 < n := by
    rcases Nat.eq_zero_or_pos n with rfl | h
    · simp at hs
    · exact h
  exact ⟨Nat.div_lt_of_lt_mul hs, Nat.mod_lt _ hn⟩
theorem not_strI_bad {zs : List Int} {n s : Nat} (hs : s < n * n) (h1 : dX zs (s / n) (s % n) = 0) (h2 : 0 < dY zs (s / n) (s % n)) : ¬ StrI zs n := by
  intro h
  have hp := pair_of hs
  have := h.1 _ _ hp.1 hp.2 h1
  omega
theorem strI_first {zs : List Int} {n : Nat} (h : noBad zs n (n * n)) : ∀ i o, i < n → o < n → dX zs i o = 0 → dY zs i o ≤ 0 := by
  intro i o hi ho e
  have hd := divmod (i := i) ho
  have := h (i * n + o) (pair_lt hi ho)
  rw [hd.1, hd.2] at this
  exact this e
theorem strI_noLow {zs : List Int} {n : Nat} (h : noBad zs n (n * n)) (h0 : lowN zs n (n * n) = 0) : StrI zs n := by
  refine ⟨strI_first h, fun i o i' o' hi ho _ _ hp _ => ?_⟩
  have hd := divmod (i := i) ho
  obtain ⟨j, hj, _⟩ := low_has (zs := zs) (n := n) (n * n) (i * n + o) (pair_lt hi ho) (by rw [hd.1, hd.2]; exact hp)
  omega
theorem strI_noHigh {zs : List Int} {n : Nat} (h : noBad zs n (n * n)) (h0 : highN zs n (n * n) = 0) : StrI zs n := by
  refine ⟨strI_first h, fun i o i' o' _ _ hi ho _ hp => ?_⟩
  have hd := divmod (i := i') ho
  obtain ⟨j, hj, _⟩ := high_has (zs := zs) (n := n) (n * n) (i' * n + o') (pair_lt hi ho) (by rw [hd.1, hd.2]; exact hp)
  omega
theorem strI_both {zs : List Int} {n a b : Nat} (h : noBad zs n (n * n)) (ha : lowN zs n (n * n) = a + 1) (hb : highN zs n (n * n) = b + 1) :
    (slLess (bestTo slLess (highTo zs n (n * n)) b).1 (bestTo slLess (highTo zs n (n * n)) b).2 (bestTo slMore (lowTo zs n (n * n)) a).1 (bestTo slMore (lowTo zs n (n * n)) a).2 = false) ↔ StrI zs n := by
  have dl : ∀ j, j < a + 1 → 0 < nth (lowTo zs n (n * n)) (j * 2 + 1) := fun j hj => by
    obtain ⟨s, _, h1, _, h2⟩ := low_from (zs := zs) (n := n) (n * n) j (by omega)
    rw [h2]; exact h1
  have dh : ∀ j, j < b + 1 → 0 < nth (highTo zs n (n * n)) (j * 2 + 1) := fun j hj => by
    obtain ⟨s, _, h1, _, h2⟩ := high_from (zs := zs) (n := n) (n * n) j (by omega)
    rw [h2]; omega
  obtain ⟨jl, hjl, el⟩ := best_in slMore (xs := lowTo zs n (n * n)) a
  obtain ⟨jh, hjh, eh⟩ := best_in slLess (xs := highTo zs n (n * n)) b
  have ml := best_more dl a (by omega)
  have mh := best_less dh b (by omega)
  rw [el] at ml
  rw [eh] at mh
  rw [el, eh]
  simp only [slLess, decide_eq_false_iff_not, Int.not_lt]
  constructor
  · intro hh
    refine ⟨strI_first h, fun i o i' o' hi ho hi' ho' hp hq => ?_⟩
    have hd := divmod (i := i) ho
    have hd' := divmod (i := i') ho'
    obtain ⟨j, hj, e1, e2⟩ := low_has (zs := zs) (n := n) (n * n) (i * n + o) (pair_lt hi ho) (by rw [hd.1, hd.2]; exact hp)
    obtain ⟨j', hj', e1', e2'⟩ := high_has (zs := zs) (n := n) (n * n) (i' * n + o') (pair_lt hi' ho') (by rw [hd'.1, hd'.2]; exact hq)
    rw [hd.1, hd.2] at e1 e2
    rw [hd'.1, hd'.2] at e1' e2'
    have k1 := ml j (by omega)
    have k2 := mh j' (by omega)
    have d1 := dl j (by omega)
    have d2 := dl jl (by omega)
    have d3 := dh jh (by omega)
    have d4 := dh j' (by omega)
    have k3 := sl_trans d2 d1 d3 k1 hh
    have k4 := sl_trans d3 d1 d4 k3 k2
    rw [e1, e2, e1', e2'] at k4
    exact k4
  · intro hS
    obtain ⟨s, hs, h1, h2, h3⟩ := low_from (zs := zs) (n := n) (n * n) jl (by omega)
    obtain ⟨s', hs', h1', h2', h3'⟩ := high_from (zs := zs) (n := n) (n * n) jh (by omega)
    have p := pair_of hs
    have p' := pair_of hs'
    have := hS.2 _ _ _ _ p.1 p.2 p'.1 p'.2 h1 h1'
    rw [h2, h3, h2', h3']
    exact this
end Go.Proofs.Ytdkdjjdedogcbaa
