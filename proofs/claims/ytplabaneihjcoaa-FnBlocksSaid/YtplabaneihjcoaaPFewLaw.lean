/-
  Plain facts: the table of the fewest blocks finds the best order of the pieces. No Go function is spoken of here.
-/
import Derived.Test.YtplabaneihjcoaaPFew
namespace Go.Proofs.Ytplabaneihjcoaa
set_option linter.unusedVariables false

/-- A cutting as one number: the length that is used up or lost so far. -/
def val (len : Int) (c : Int × Int) : Int := (c.1 - 1) * len + c.2
/-- A cutting that some order leads to. -/
def Good (len : Int) (c : Int × Int) : Prop := (0 ≤ c.1 ∧ 1 ≤ c.2) ∧ c.2 ≤ len
theorem good_S {len z : Int} {c : Int × Int} (h : Good len c) (h1 : 1 ≤ z) (h2 : z ≤ len) : Good len (stpS len c z) := by
  obtain ⟨⟨a, b⟩, d⟩ := h
  unfold stpS Good
  split <;> simp only <;> omega
/-- The order on cuttings is the order on the numbers. -/
theorem lex_val {len : Int} {c d : Int × Int} (hl : 1 ≤ len) (hc : Good len c) (hd : Good len d) : (c.1 < d.1 ∨ (c.1 = d.1 ∧ c.2 < d.2)) ↔ val len c < val len d := by
  obtain ⟨⟨a1, a2⟩, a3⟩ := hc
  obtain ⟨⟨b1, b2⟩, b3⟩ := hd
  unfold val
  constructor
  · rintro (h | ⟨h, h'⟩)
    · have : (c.1 - 1) * len + len ≤ (d.1 - 1) * len := by
        have e : (c.1 - 1) * len + len = c.1 * len := by rw [Int.sub_mul]; omega
        rw [e]
        exact Int.mul_le_mul_of_nonneg_right (by omega) (by omega)
      omega
    · rw [h]; omega
  · intro h
    rcases Int.lt_trichotomy c.1 d.1 with h1 | h1 | h1
    · exact .inl h1
    · rw [h1] at h
      exact .inr ⟨h1, by omega⟩
    · exfalso
      have : (d.1 - 1) * len + len ≤ (c.1 - 1) * len := by
        have e : (d.1 - 1) * len + len = d.1 * len := by rw [Int.sub_mul]; omega
        rw [e]
        exact Int.mul_le_mul_of_nonneg_right (by omega) (by omega)
      omega
theorem val_over {len z : Int} {c : Int × Int} (h : len < c.2 + z) : val len (stpS len c z) = c.1 * len + z := by
  rw [stpS_over h]; unfold val; simp only
  have : c.1 + 1 - 1 = c.1 := by omega
  rw [this]
theorem val_in {len z : Int} {c : Int × Int} (h : ¬ len < c.2 + z) : val len (stpS len c z) = val len c + z := by
  rw [stpS_in h]; unfold val; simp only; omega
theorem val_le {len : Int} {c : Int × Int} (h : Good len c) : val len c ≤ c.1 * len := by
  unfold val
  rw [Int.sub_mul]
  have := h.2
  omega
/-- One step more: it grows by the piece at least. -/
theorem val_grow {len z : Int} {c : Int × Int} (h : Good len c) : val len c + z ≤ val len (stpS len c z) := by
  by_cases hc : len < c.2 + z
  · rw [val_over hc]; have := val_le h; omega
  · rw [val_in hc]; omega
/-- A step keeps the order. -/
theorem val_mono {len z : Int} {c d : Int × Int} (hl : 1 ≤ len) (h1 : 1 ≤ z) (h2 : z ≤ len) (hc : Good len c) (hd : Good len d) (h : val len c ≤ val len d) : val len (stpS len c z) ≤ val len (stpS len d z) := by
  by_cases hx : len < c.2 + z
  · rw [val_over hx]
    by_cases hy : len < d.2 + z
    · rw [val_over hy]
      have : c.1 ≤ d.1 := by
        by_cases h' : d.1 < c.1
        · have := (lex_val hl hd hc).1 (.inl h')
          omega
        · omega
      have := Int.mul_le_mul_of_nonneg_right this (show (0 : Int) ≤ len by omega)
      omega
    · rw [val_in hy]
      have hlt : c.1 < d.1 := by
        rcases Int.lt_trichotomy c.1 d.1 with h' | h' | h'
        · exact h'
        · exfalso
          unfold val at h
          rw [h'] at h
          omega
        · have := (lex_val hl hd hc).1 (.inl h')
          omega
      have e : c.1 * len ≤ (d.1 - 1) * len := Int.mul_le_mul_of_nonneg_right (by omega) (by omega)
      unfold val
      have := hd.1.2
      omega
  · rw [val_in hx]
    have := val_grow (len := len) (z := z) hd
    omega

/-- What an order (of the pieces' numbers) leads to. -/
def run (len : Int) (zs : List Int) (c : Int × Int) : List Nat → Int × Int
  | [] => c
  | k :: r => run len zs (stpS len c (nth zs k)) r
theorem run_append (len : Int) (zs : List Int) : ∀ (c : Int × Int) (l r : List Nat), run len zs c (l ++ r) = run len zs (run len zs c l) r
  | _, [], _ => rfl
  | c, k :: l, r => run_append len zs _ l r
def OkZ (len : Int) (zs : List Int) (n : Nat) : Prop := ∀ k, k < n → 1 ≤ nth zs k ∧ nth zs k ≤ len
theorem good_run {len : Int} {zs : List Int} {n : Nat} (hz : OkZ len zs n) : ∀ (l : List Nat) (c : Int × Int), (∀ k ∈ l, k < n) → Good len c → Good len (run len zs c l)
  | [], _, _, h => h
  | k :: l, c, hl, h => good_run hz l _ (fun j hj => hl j (by simp [hj])) (good_S h (hz k (hl k (by simp))).1 (hz k (hl k (by simp))).2)
theorem run_mono {len : Int} {zs : List Int} {n : Nat} (hlen : 1 ≤ len) (hz : OkZ len zs n) : ∀ (l : List Nat) (c d : Int × Int), (∀ k ∈ l, k < n) → Good len c → Good len d → val len c ≤ val len d → val len (run len zs c l) ≤ val len (run len zs d l)
  | [], _, _, _, _, _, h => h
  | k :: l, c, d, hl, hc, hd, h => run_mono hlen hz l _ _ (fun j hj => hl j (by simp [hj])) (good_S hc (hz k (hl k (by simp))).1 (hz k (hl k (by simp))).2) (good_S hd (hz k (hl k (by simp))).1 (hz k (hl k (by simp))).2) (val_mono hlen (hz k (hl k (by simp))).1 (hz k (hl k (by simp))).2 hc hd h)

/-- The number of a set of pieces. -/
def code : List Nat → Nat
  | [] => 0
  | k :: r => p2 k + code r
theorem code_append : ∀ l r : List Nat, code (l ++ r) = code l + code r
  | [], r => by simp [code]
  | k :: l, r => by simp [code, code_append l r]; omega
theorem code_perm {l r : List Nat} (h : l.Perm r) : code l = code r := by
  induction h with
  | nil => rfl
  | cons x _ ih => simp [code, ih]
  | swap x y l => simp [code]; omega
  | trans _ _ ih1 ih2 => rw [ih1, ih2]

/-! ### Bits of a set's number -/
theorem p2_succ (k : Nat) : p2 (k + 1) = 2 * p2 k := by simp [p2, Nat.pow_succ]; omega
theorem p2_add (j d : Nat) : p2 (j + d) = p2 j * p2 d := by simp [p2, Nat.pow_add]
theorem bit_self {s k : Nat} (h : s / p2 k % 2 = 0) : (s + p2 k) / p2 k % 2 = 1 := by
  rw [Nat.add_div_right _ (p2_pos k)]; omega
theorem bit_low {s k j : Nat} (hj : j < k) : (s + p2 k) / p2 j % 2 = s / p2 j % 2 := by
  obtain ⟨d, rfl⟩ : ∃ d, k = j + (d + 1) := ⟨k - j - 1, by omega⟩
  have e : p2 (j + (d + 1)) = p2 j * (2 * p2 d) := by rw [p2_add, p2_succ]
  rw [e, Nat.add_mul_div_left _ _ (p2_pos j)]
  omega
theorem bit_high {s k j : Nat} (h : s / p2 k % 2 = 0) (hj : k < j) : (s + p2 k) / p2 j % 2 = s / p2 j % 2 := by
  obtain ⟨d, rfl⟩ : ∃ d, j = k + 1 + d := ⟨j - k - 1, by omega⟩
  have e : p2 (k + 1 + d) = p2 (k + 1) * p2 d := p2_add _ _
  have hp := p2_pos k
  have h1 : (s + p2 k) / p2 (k + 1) = s / p2 (k + 1) := by
    rw [p2_succ, Nat.mul_comm, ← Nat.div_div_eq_div_mul, ← Nat.div_div_eq_div_mul, Nat.add_div_right _ hp]
    omega
  rw [e, ← Nat.div_div_eq_div_mul, ← Nat.div_div_eq_div_mul, h1]
theorem code_bit : ∀ (l : List Nat), l.Nodup → ∀ k, code l / p2 k % 2 = if k ∈ l then 1 else 0
  | [], _, k => by simp [code]
  | a :: l, hn, k => by
    obtain ⟨ha, hn'⟩ := List.nodup_cons.1 hn
    have ih := code_bit l hn'
    have h0 : code l / p2 a % 2 = 0 := by rw [ih a, if_neg ha]
    show (p2 a + code l) / p2 k % 2 = _
    rw [Nat.add_comm]
    rcases Nat.lt_trichotomy k a with h | h | h
    · rw [bit_low h, ih k]
      have : k ≠ a := by omega
      simp [this]
    · subst h
      rw [bit_self h0]; simp
    · rw [bit_high h0 h, ih k]
      have : k ≠ a := by omega
      simp [this]
theorem small_zero : ∀ (n s : Nat), s < p2 n → (∀ k, k < n → s / p2 k % 2 = 0) → s = 0
  | 0, s, h, _ => by simp [p2] at h; exact h
  | n + 1, s, h, hb => by
    have hp := p2_pos n
    rw [p2_succ] at h
    have h2 := hb n (by omega)
    have h3 : s / p2 n < 2 := (Nat.div_lt_iff_lt_mul hp).2 (by omega)
    have h4 : s / p2 n = 0 := by generalize s / p2 n = x at *; omega
    have h5 : s < p2 n := by
      rcases Nat.lt_or_ge s (p2 n) with h | h
      · exact h
      · have := (Nat.le_div_iff_mul_le hp).2 (show 1 * p2 n ≤ s by omega)
        omega
    exact small_zero n s h5 (fun k hk => hb k (by omega))
theorem code_lt : ∀ (n : Nat) (l : List Nat), l.Nodup → (∀ k ∈ l, k < n) → code l < p2 n := by
  intro n l hn hl
  rcases Nat.lt_or_ge (code l) (p2 n) with h | h
  · exact h
  · exfalso
    obtain ⟨m, hm⟩ : ∃ m, code l < p2 m := ⟨code l, Nat.lt_two_pow_self⟩
    have hz : code l / p2 n = 0 := by
      refine small_zero m (code l / p2 n) (Nat.lt_of_le_of_lt (Nat.div_le_self _ _) hm) fun k _ => ?_
      rw [Nat.div_div_eq_div_mul, ← p2_add, code_bit l hn, if_neg (fun hk => by have := hl _ hk; omega)]
    have := (Nat.le_div_iff_mul_le (p2_pos n)).2 (show 1 * p2 n ≤ code l by omega)
    omega

/-! ### The table -/
section
variable {len : Int} {zs : List Int} {n : Nat}
def D (len : Int) (zs : List Int) (n s : Nat) : Int × Int := tab (stpS len) (0, len) zs n s s
theorem tab_stay (f : Int × Int → Int → Int × Int) (b0 : Int × Int) (zs : List Int) (n : Nat) : ∀ S s, s ≤ S → tab f b0 zs n S s = tab f b0 zs n s s
  | 0, s, h => by obtain rfl : s = 0 := by omega
                  rfl
  | S + 1, s, h => by
    by_cases e : s = S + 1
    · subst e; rfl
    · rw [tab, upd_other _ _ e]; exact tab_stay f b0 zs n S s (by omega)
theorem D_zero : D len zs n 0 = (0, len) := rfl
theorem D_succ (s : Nat) : D len zs n (s + 1) = innr (stpS len) (D len zs n) zs n (s + 1) n := by
  show tab _ _ _ _ (s + 1) (s + 1) = _
  rw [tab, upd_same]
  refine innr_congr (fun k hk hb => ?_) n (Nat.le_refl _)
  have hle := p2_le_of_bit hb
  have hp := p2_pos k
  rw [tab_stay _ _ _ _ s (s + 1 - p2 k) (by omega)]
  rfl
theorem run_fst {len : Int} {zs : List Int} : ∀ (l : List Nat) (c : Int × Int), c.1 ≤ (run len zs c l).1 ∧ (run len zs c l).1 ≤ c.1 + l.length
  | [], c => by simp [run]
  | k :: l, c => by
    have ih := run_fst (len := len) (zs := zs) l (stpS len c (nth zs k))
    have h : c.1 ≤ (stpS len c (nth zs k)).1 ∧ (stpS len c (nth zs k)).1 ≤ c.1 + 1 := by unfold stpS; split <;> simp only <;> omega
    simp only [run, List.length_cons]
    omega
theorem nodup_len {l : List Nat} {n : Nat} (hn : l.Nodup) (hl : ∀ k ∈ l, k < n) : l.length ≤ n := by
  have := List.Nodup.length_le_of_subset hn (l₂ := List.range n) (fun k hk => List.mem_range.2 (hl k hk))
  simpa using this
/-- An order of the pieces of set s that leads to c. -/
def Ord (len : Int) (zs : List Int) (n s : Nat) (c : Int × Int) : Prop := ∃ l : List Nat, l.Nodup ∧ (∀ k ∈ l, k < n) ∧ code l = s ∧ c = run len zs (0, len) l
theorem ord_fst {s : Nat} {c : Int × Int} (h : Ord len zs n s c) : 0 ≤ c.1 ∧ c.1 ≤ n := by
  obtain ⟨l, hn, hl, _, rfl⟩ := h
  have h1 := run_fst (len := len) (zs := zs) l (0, len)
  have h2 := nodup_len hn hl
  simp only at h1
  omega
theorem ord_step {s k : Nat} {c : Int × Int} (hk : k < n) (hb : s / p2 k % 2 = 1) (h : Ord len zs n (s - p2 k) c) : Ord len zs n s (stpS len c (nth zs k)) := by
  obtain ⟨l, hn, hl, hc, rfl⟩ := h
  have hle := p2_le_of_bit hb
  have hkl : k ∉ l := by
    intro hm
    have h1 := code_bit l hn k
    rw [if_pos hm, hc] at h1
    have h2 : (s - p2 k) / p2 k = s / p2 k - 1 := by
      obtain ⟨d, rfl⟩ : ∃ d, s = d + p2 k := ⟨s - p2 k, by omega⟩
      rw [Nat.add_sub_cancel, Nat.add_div_right _ (p2_pos k), Nat.add_sub_cancel]
    rw [h2] at h1
    omega
  refine ⟨l ++ [k], ?_, ?_, ?_, ?_⟩
  · exact List.nodup_append.2 ⟨hn, by simp, fun a ha b hb => by simp at hb; subst hb; exact fun e => hkl (e ▸ ha)⟩
  · intro j hj
    rcases List.mem_append.1 hj with hj | hj
    · exact hl j hj
    · simp at hj; omega
  · rw [code_append, hc]
    simp [code]
    omega
  · rw [run_append]; rfl
/-- What the inner loop finds is one of its candidates, once there was one. -/
theorem innr_one {s : Nat} (ih : ∀ k, k < n → s / p2 k % 2 = 1 → Ord len zs n (s - p2 k) (D len zs n (s - p2 k))) :
    ∀ m, m ≤ n → (innr (stpS len) (D len zs n) zs n s m = ((n : Int) + 1, 0) ∧ ∀ k, k < m → s / p2 k % 2 = 0) ∨ Ord len zs n s (innr (stpS len) (D len zs n) zs n s m)
  | 0, _ => .inl ⟨rfl, fun k hk => absurd hk (by omega)⟩
  | m + 1, hm => by
    have h := innr_one ih m (by omega)
    by_cases hb : s / p2 m % 2 = 1
    · have ho := ord_step (by omega) hb (ih m (by omega) hb)
      rw [innr_bit hb]
      rcases h with ⟨e, _⟩ | h
      · have := ord_fst ho
        rw [e, pickP_t (.inl (by simp only; omega))]
        exact .inr ho
      · unfold pickP
        split
        · exact .inr ho
        · exact .inr h
    · rw [innr_no (by omega)]
      rcases h with ⟨e, hz⟩ | h
      · exact .inl ⟨e, fun k hk => by
          by_cases hkm : k = m
          · subst hkm; omega
          · exact hz k (by omega)⟩
      · exact .inr h
theorem D_ord : ∀ s, s < p2 n → Ord len zs n s (D len zs n s) := by
  intro s
  induction s using Nat.strongRecOn with
  | ind s ih =>
    intro hs
    match s, ih, hs with
    | 0, _, _ => exact ⟨[], List.nodup_nil, by simp, rfl, rfl⟩
    | s + 1, ih, hs =>
      rw [D_succ]
      rcases innr_one (len := len) (zs := zs) (n := n) (s := s + 1) (fun k hk hb => by
          have hp := p2_pos k
          exact ih (s + 1 - p2 k) (by omega) (by omega)) n (Nat.le_refl _) with ⟨_, hz⟩ | h
      · have := small_zero n (s + 1) hs hz
        omega
      · exact h
theorem ord_good (hlen : 1 ≤ len) (hz : OkZ len zs n) {s : Nat} {c : Int × Int} (h : Ord len zs n s c) : Good len c := by
  obtain ⟨l, hn, hl, _, rfl⟩ := h
  exact good_run hz l _ hl ⟨⟨by simp, by simpa using hlen⟩, by simp⟩
/-- It is no worse than any candidate. -/
theorem innr_le (hlen : 1 ≤ len) (hz : OkZ len zs n) {s : Nat} (hs : s < p2 n) (hs0 : 0 < s) :
    ∀ m, m ≤ n → ∀ k, k < m → s / p2 k % 2 = 1 → val len (innr (stpS len) (D len zs n) zs n s m) ≤ val len (stpS len (D len zs n (s - p2 k)) (nth zs k))
  | 0, _, k, hk, _ => absurd hk (by omega)
  | m + 1, hm, k, hk, hb => by
    have hio := fun j (hj : j < n) (hbj : s / p2 j % 2 = 1) => D_ord (len := len) (zs := zs) (n := n) (s - p2 j) (by have := p2_pos j; omega)
    have ih := innr_le hlen hz hs hs0 m (by omega)
    by_cases hbm : s / p2 m % 2 = 1
    · have ho := ord_step (by omega) hbm (hio m (by omega) hbm)
      have go := ord_good hlen hz ho
      rw [innr_bit hbm]
      rcases innr_one hio m (by omega) with ⟨e, hzz⟩ | h
      · have := ord_fst ho
        rw [e, pickP_t (.inl (by simp only; omega))]
        have hkm : k = m := by
          rcases Nat.lt_or_ge k m with h' | h'
          · have := hzz k h'; omega
          · omega
        subst hkm
        exact Int.le_refl _
      · have gh := ord_good hlen hz h
        by_cases hl : (stpS len (D len zs n (s - p2 m)) (nth zs m)).1 < (innr (stpS len) (D len zs n) zs n s m).1 ∨ ((stpS len (D len zs n (s - p2 m)) (nth zs m)).1 = (innr (stpS len) (D len zs n) zs n s m).1 ∧ (stpS len (D len zs n (s - p2 m)) (nth zs m)).2 < (innr (stpS len) (D len zs n) zs n s m).2)
        · rw [pickP_t hl]
          have hv := (lex_val hlen go gh).1 hl
          by_cases hkm : k = m
          · subst hkm; exact Int.le_refl _
          · have := ih k (by omega) hb
            omega
        · rw [pickP_f hl]
          have hv : ¬ val len (stpS len (D len zs n (s - p2 m)) (nth zs m)) < val len (innr (stpS len) (D len zs n) zs n s m) := fun h => hl ((lex_val hlen go gh).2 h)
          by_cases hkm : k = m
          · subst hkm; omega
          · exact ih k (by omega) hb
    · rw [innr_no (by omega)]
      have hkm : k ≠ m := fun e => hbm (e ▸ hb)
      exact ih k (by omega) hb
/-- The table's entry is no worse than any order. -/
theorem D_best (hlen : 1 ≤ len) (hz : OkZ len zs n) : ∀ (r : List Nat), r.reverse.Nodup → (∀ k ∈ r, k < n) → val len (D len zs n (code r.reverse)) ≤ val len (run len zs (0, len) r.reverse)
  | [], _, _ => Int.le_refl _
  | k :: r, hn, hl => by
    rw [List.reverse_cons] at hn ⊢
    obtain ⟨hn1, _, hd⟩ := List.nodup_append.1 hn
    have hk : k ∉ r.reverse := fun h => hd k h k (by simp) rfl
    have hlr : ∀ j ∈ r, j < n := fun j hj => hl j (by simp [hj])
    have ih := D_best hlen hz r hn1 hlr
    have hb : code (r.reverse ++ [k]) / p2 k % 2 = 1 := by rw [code_bit _ hn k]; simp
    have hs : code (r.reverse ++ [k]) < p2 n := code_lt n _ hn (fun j hj => by
      rcases List.mem_append.1 hj with hj | hj
      · exact hlr j (by simpa using hj)
      · simp at hj; subst hj; exact hl j (by simp))
    have hle := p2_le_of_bit hb
    have hp := p2_pos k
    have e : code (r.reverse ++ [k]) - p2 k = code r.reverse := by rw [code_append]; simp [code]
    have hkn : k < n := hl k (by simp)
    have h1 : val len (D len zs n (code (r.reverse ++ [k]))) ≤ val len (stpS len (D len zs n (code r.reverse)) (nth zs k)) := by
      have h := innr_le hlen hz hs (by omega) n (Nat.le_refl _) k hkn hb
      rw [e] at h
      obtain ⟨s, hs'⟩ : ∃ s, code (r.reverse ++ [k]) = s + 1 := ⟨code (r.reverse ++ [k]) - 1, by omega⟩
      rw [hs'] at h ⊢
      rw [D_succ]
      exact h
    refine Int.le_trans h1 ?_
    rw [run_append]
    have g1 := ord_good hlen hz (D_ord (len := len) (zs := zs) (n := n) (code r.reverse) (by omega))
    have g2 : Good len (run len zs (0, len) r.reverse) := good_run hz _ _ (fun j hj => hlr j (by simpa using hj)) ⟨⟨by simp, by simpa using hlen⟩, by simp⟩
    exact val_mono hlen (hz k hkn).1 (hz k hkn).2 g1 g2 ih
end
end Go.Proofs.Ytplabaneihjcoaa
