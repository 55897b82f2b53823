/-
  Plain facts on the fewest blocks: they hold all pieces; there are at most as many as pieces; cutting in order needs at most twice as many; a piece of a whole block needs one more. No Go function is spoken of here.
-/
import Derived.Test.YtplabaneihjcoaaPFewLaw
namespace Go.Proofs.Ytplabaneihjcoaa
set_option linter.unusedVariables false

section
variable {len : Int} {zs : List Int} {n : Nat}
/-- The sum of the pieces of an order. -/
def sumAt (zs : List Int) : List Nat → Int
  | [] => 0
  | k :: r => nth zs k + sumAt zs r
theorem sumAt_perm {l r : List Nat} (h : l.Perm r) : sumAt zs l = sumAt zs r := by
  induction h with
  | nil => rfl
  | cons x _ ih => simp [sumAt, ih]
  | swap x y l => simp [sumAt]; omega
  | trans _ _ ih1 ih2 => rw [ih1, ih2]
theorem sumAt_append : ∀ l r : List Nat, sumAt zs (l ++ r) = sumAt zs l + sumAt zs r
  | [], r => by simp [sumAt]
  | k :: l, r => by simp [sumAt, sumAt_append l r]; omega
theorem run_grow (hz : OkZ len zs n) : ∀ (l : List Nat) (c : Int × Int), (∀ k ∈ l, k < n) → Good len c → val len c + sumAt zs l ≤ val len (run len zs c l)
  | [], c, _, _ => by simp [sumAt, run]
  | k :: l, c, hl, h => by
    have hk := hz k (hl k (by simp))
    have ih := run_grow hz l (stpS len c (nth zs k)) (fun j hj => hl j (by simp [hj])) (good_S h hk.1 hk.2)
    have hg := val_grow (len := len) (z := nth zs k) h
    simp only [sumAt, run]
    omega
theorem good0 (hlen : 1 ≤ len) : Good len ((0 : Int), len) := ⟨⟨by simp, by simpa using hlen⟩, by simp⟩
theorem val0 : val len ((0 : Int), len) = 0 := by simp [val]; omega
theorem code_range : ∀ n : Nat, code (List.range n) = p2 n - 1
  | 0 => by simp [code, p2]
  | n + 1 => by
    have hp := p2_pos n
    rw [List.range_succ, code_append, code_range n, p2_succ]
    simp [code]
    omega
/-- An order of all pieces. -/
theorem full_perm {l : List Nat} (hn : l.Nodup) (hl : ∀ k ∈ l, k < n) (hc : code l = p2 n - 1) : l.Perm (List.range n) := by
  refine (List.perm_ext_iff_of_nodup hn List.nodup_range).2 fun k => ⟨fun h => List.mem_range.2 (hl k h), fun h => ?_⟩
  have h1 := code_bit l hn k
  rw [hc, ← code_range, code_bit _ List.nodup_range k, if_pos h] at h1
  by_cases hm : k ∈ l
  · exact hm
  · rw [if_neg hm] at h1; omega
theorem okZ_of {len : Int} {zs : List Int} (h : okB zs len = true) : OkZ len zs zs.length := (okB_out h).2.2
/-- The best order of all pieces. -/
theorem few_ord {zs : List Int} {len : Int} (h : okB zs len = true) : ∃ l : List Nat, l.Perm (List.range zs.length) ∧ fewI zs len = (run len zs (0, len) l).1 ∧ D len zs zs.length (p2 zs.length - 1) = run len zs (0, len) l := by
  obtain ⟨b1, b2, b3⟩ := okB_out h
  have hp := p2_pos zs.length
  obtain ⟨l, hn, hl, hc, hr⟩ := D_ord (len := len) (zs := zs) (n := zs.length) (p2 zs.length - 1) (by omega)
  refine ⟨l, full_perm hn hl hc, ?_, hr⟩
  rw [← few_eq, fewS_t h]
  show (D len zs zs.length (p2 zs.length - 1)).1 = _
  rw [hr]
def sumI (zs : List Int) : Int := sumAt zs (List.range zs.length)
theorem few_ge {zs : List Int} {len : Int} (h : okB zs len = true) : sumI zs ≤ fewI zs len * len := by
  obtain ⟨b1, b2, b3⟩ := okB_out h
  obtain ⟨l, hp, hf, _⟩ := few_ord h
  have hl : ∀ k ∈ l, k < zs.length := fun k hk => List.mem_range.1 (hp.mem_iff.1 hk)
  have h1 := run_grow (okZ_of h) l (0, len) hl (good0 b1.1)
  have h2 := val_le (good_run (okZ_of h) l (0, len) hl (good0 b1.1))
  rw [val0, sumAt_perm hp] at h1
  rw [hf]
  show sumAt zs (List.range zs.length) ≤ _
  omega
theorem few_le {zs : List Int} {len : Int} (h : okB zs len = true) : 0 ≤ fewI zs len ∧ fewI zs len ≤ zs.length := by
  obtain ⟨l, hp, hf, _⟩ := few_ord h
  have h1 := run_fst (len := len) (zs := zs) l (0, len)
  rw [hp.length_eq, List.length_range] at h1
  simp only at h1
  rw [hf]
  omega
/-- No order of all pieces needs fewer. -/
theorem few_best {zs : List Int} {len : Int} (h : okB zs len = true) {l : List Nat} (hp : l.Perm (List.range zs.length)) : val len (D len zs zs.length (p2 zs.length - 1)) ≤ val len (run len zs (0, len) l) := by
  obtain ⟨b1, b2, b3⟩ := okB_out h
  have h1 := D_best (n := zs.length) b1.1 (okZ_of h) l.reverse (by rw [List.reverse_reverse]; exact hp.nodup_iff.2 List.nodup_range) (fun k hk => List.mem_range.1 (hp.mem_iff.1 (by simpa using hk)))
  rw [List.reverse_reverse, code_perm hp, code_range] at h1
  exact h1
theorem few_le_of {zs : List Int} {len : Int} (h : okB zs len = true) {l : List Nat} (hp : l.Perm (List.range zs.length)) {m : Int} (hv : val len (run len zs (0, len) l) ≤ m * len) : fewI zs len ≤ m := by
  obtain ⟨b1, b2, b3⟩ := okB_out h
  have h1 := few_best h hp
  obtain ⟨l0, hp0, hf, hr⟩ := few_ord h
  have hl : ∀ k ∈ l0, k < zs.length := fun k hk => List.mem_range.1 (hp0.mem_iff.1 hk)
  have g := good_run (okZ_of h) l0 (0, len) hl (good0 b1.1)
  rw [hr] at h1
  have h2 : (fewI zs len - 1) * len < m * len := by
    rw [hf]
    have : val len (run len zs (0, len) l0) = ((run len zs (0, len) l0).1 - 1) * len + (run len zs (0, len) l0).2 := rfl
    have := g.1.2
    omega
  have := Int.lt_of_mul_lt_mul_right h2 (show (0 : Int) ≤ len by omega)
  omega

/-! ### Cutting in order -/
/-- From a full block on: one bin's pieces lie in one block. -/
theorem bin_run (hlen : 1 ≤ len) (hz : OkZ len zs n) : ∀ (b : List Nat) (c : Int × Int), (∀ k ∈ b, k < n) → Good len c → c.2 + sumAt zs b ≤ len → val len (run len zs c b) = val len c + sumAt zs b
  | [], c, _, _, _ => by simp [run, sumAt]
  | k :: b, c, hl, h, hs => by
    have hk := hz k (hl k (by simp))
    have hb : ∀ b : List Nat, (∀ k ∈ b, k < n) → 0 ≤ sumAt zs b := fun b => by
      induction b with
      | nil => intro _; simp [sumAt]
      | cons a b ih => intro hb; have := ih (fun j hj => hb j (by simp [hj])); have := (hz a (hb a (by simp))).1; simp only [sumAt]; omega
    have h0 := hb b (fun j hj => hl j (by simp [hj]))
    simp only [sumAt] at hs ⊢
    have hin : ¬ len < c.2 + nth zs k := by omega
    have ih := bin_run hlen hz b (stpS len c (nth zs k)) (fun j hj => hl j (by simp [hj])) (good_S h hk.1 hk.2) (by rw [stpS_in hin]; simp only; omega)
    simp only [run]
    rw [ih, val_in hin]
    omega
theorem bin_full (hlen : 1 ≤ len) (hz : OkZ len zs n) {b : List Nat} (hl : ∀ k ∈ b, k < n) (hs : sumAt zs b ≤ len) (j : Int) (hj : 0 ≤ j) : val len (run len zs (j, len) b) ≤ j * len + len := by
  have hv : val len (j, len) = j * len := by simp [val, Int.sub_mul]
  cases b with
  | nil => simp only [run]; rw [hv]; omega
  | cons k b =>
    have hk := hz k (hl k (by simp))
    have ho : len < (j, len).2 + nth zs k := by simp only; omega
    have g : Good len (stpS len (j, len) (nth zs k)) := good_S ⟨⟨hj, hlen⟩, Int.le_refl _⟩ hk.1 hk.2
    simp only [sumAt] at hs
    have h1 := bin_run hlen hz b (stpS len (j, len) (nth zs k)) (fun i hi => hl i (by simp [hi])) g (by rw [stpS_over ho]; simp only; omega)
    simp only [run]
    rw [h1, val_over ho]
    simp only
    omega
theorem bins_run (hlen : 1 ≤ len) (hz : OkZ len zs n) : ∀ (bs : List (List Nat)) (c : Int × Int) (j : Int), 0 ≤ j → (∀ b ∈ bs, (∀ k ∈ b, k < n) ∧ sumAt zs b ≤ len) → Good len c → val len c ≤ j * len →
    val len (run len zs c bs.flatten) ≤ (j + bs.length) * len
  | [], c, j, _, _, _, h => by simpa [run] using h
  | b :: bs, c, j, hj, hb, hc, h => by
    obtain ⟨h1, h2⟩ := hb b (by simp)
    have hv : val len (j, len) = j * len := by simp [val, Int.sub_mul]
    have hm := run_mono hlen hz b c (j, len) h1 hc ⟨⟨hj, hlen⟩, Int.le_refl _⟩ (by rw [hv]; exact h)
    have hf := bin_full hlen hz h1 h2 j hj
    have ih := bins_run hlen hz bs (run len zs c b) (j + 1) (by omega) (fun b' hb' => hb b' (by simp [hb'])) (good_run hz b c h1 hc) (by rw [Int.add_mul]; omega)
    rw [List.flatten_cons, run_append]
    have e : (j + 1 + (bs.length : Int)) = j + ((b :: bs).length : Int) := by simp; omega
    rw [e] at ih
    exact ih
/-- What the first k pieces, cut in order, leave: the bins and their rooms. -/
def Bins (len : Int) (zs : List Int) (k : Nat) (rm : List Int) (bs : List (List Nat)) : Prop :=
  bs.flatten.Perm (List.range k) ∧ bs.length = rm.length ∧ (∀ i, i < rm.length → sumAt zs (bs.getD i []) = len - nth rm i) ∧ (∀ i, i < rm.length → 0 ≤ nth rm i ∧ nth rm i < len) ∧ (∀ i j, i < j → j < rm.length → nth rm i + nth rm j < len)
theorem fit_low (rm : List Int) (z : Int) : ∀ i, i < fit rm z → nth rm i < z := fun i hi => by
  have hl : i < rm.length := Nat.lt_of_lt_of_le hi (List.findIdx_le_length)
  have := List.not_of_lt_findIdx hi
  rw [nth_get rm i hl]
  simpa using this
theorem fit_ge (rm : List Int) (z : Int) (h : fit rm z < rm.length) : z ≤ nth rm (fit rm z) := by
  have := List.findIdx_getElem (p := fun r => decide (z ≤ r)) (xs := rm) (w := h)
  rw [nth_get _ _ h]
  exact of_decide_eq_true this
theorem nth_set (rm : List Int) (t : Nat) (x : Int) (i : Nat) (ht : t < rm.length) : nth (rm.set t x) i = if i = t then x else nth rm i := by
  unfold nth
  by_cases h : i = t
  · subst h; simp [List.getD, ht]
  · simp [List.getD, h, List.getElem?_set_ne (Ne.symm h)]
theorem nth_snoc (rm : List Int) (x : Int) (i : Nat) : nth (rm ++ [x]) i = if i = rm.length then x else nth rm i := by
  unfold nth
  by_cases h : i = rm.length
  · subst h; simp [List.getD]
  · by_cases h2 : i < rm.length
    · simp [List.getD, h, List.getElem?_append_left h2]
    · simp [List.getD, h, List.getElem?_eq_none (show (rm ++ [x]).length ≤ i by simp; omega), List.getElem?_eq_none (show rm.length ≤ i by omega)]
theorem flatten_set {bs : List (List Nat)} {t k : Nat} (ht : t < bs.length) : (bs.set t (bs.getD t [] ++ [k])).flatten.Perm (bs.flatten ++ [k]) := by
  induction bs generalizing t with
  | nil => simp at ht
  | cons b bs ih =>
    cases t with
    | zero =>
      simp only [List.set_cons_zero, List.flatten_cons, List.getD_cons_zero]
      rw [List.append_assoc, List.append_assoc]
      exact List.Perm.append_left b List.perm_append_comm
    | succ t =>
      simp only [List.set_cons_succ, List.flatten_cons, List.getD_cons_succ]
      rw [List.append_assoc]
      exact List.Perm.append_left b (ih (by simpa using ht))
theorem bins_step {k : Nat} {rm : List Int} {bs : List (List Nat)} (h : Bins len zs k rm bs) (h1 : 1 ≤ nth zs k) (h2 : nth zs k ≤ len) : ∃ bs', Bins len zs (k + 1) (cutStep len rm (nth zs k)) bs' := by
  obtain ⟨hp, hl, hs, hb, hr⟩ := h
  by_cases ht : fit rm (nth zs k) < rm.length
  · have hge := fit_ge rm (nth zs k) ht
    have hlow := fit_low rm (nth zs k)
    rw [cutStep_in rfl ht]
    generalize fit rm (nth zs k) = t at *
    have htb : t < bs.length := by omega
    refine ⟨bs.set t (bs.getD t [] ++ [k]), ?_, by simp [hl], ?_, ?_, ?_⟩
    · rw [List.range_succ]
      exact (flatten_set htb).trans (hp.append_right _)
    · intro i hi
      rw [List.length_set] at hi
      rw [nth_set _ _ _ _ ht]
      by_cases e : i = t
      · subst e
        have : (bs.set i (bs.getD i [] ++ [k])).getD i [] = bs.getD i [] ++ [k] := by simp [List.getD, htb]
        rw [this, sumAt_append, hs i hi, if_pos rfl]
        simp [sumAt]
        omega
      · have : (bs.set t (bs.getD t [] ++ [k])).getD i [] = bs.getD i [] := by simp [List.getD, List.getElem?_set_ne (Ne.symm e)]
        rw [this, hs i hi, if_neg e]
    · intro i hi
      rw [List.length_set] at hi
      rw [nth_set _ _ _ _ ht]
      have := hb i hi
      split
      · rename_i e; subst e; omega
      · exact this
    · intro i j hij hj
      rw [List.length_set] at hj
      rw [nth_set _ _ _ _ ht, nth_set _ _ _ _ ht]
      have := hr i j hij hj
      split <;> split <;> (rename_i e1 e2; first | (subst e1; omega) | (subst e2; omega) | omega)
  · have hn : fit rm (nth zs k) = rm.length := by
      have : fit rm (nth zs k) ≤ rm.length := List.findIdx_le_length
      omega
    have hlow := fit_low rm (nth zs k)
    rw [hn] at hlow
    rw [cutStep_new hn]
    refine ⟨bs ++ [[k]], ?_, by simp [hl], ?_, ?_, ?_⟩
    · rw [List.range_succ]
      simp only [List.flatten_append, List.flatten_cons, List.flatten_nil, List.append_nil]
      exact hp.append_right _
    · intro i hi
      simp at hi
      rw [nth_snoc]
      by_cases e : i = rm.length
      · have : (bs ++ [[k]]).getD i [] = [k] := by rw [e, ← hl]; simp [List.getD]
        rw [this, if_pos e]
        simp [sumAt]
        omega
      · have : (bs ++ [[k]]).getD i [] = bs.getD i [] := by simp [List.getD, List.getElem?_append_left (show i < bs.length by omega)]
        rw [this, if_neg e, hs i (by omega)]
    · intro i hi
      simp at hi
      rw [nth_snoc]
      split
      · omega
      · exact hb i (by omega)
    · intro i j hij hj
      simp at hj
      rw [nth_snoc, nth_snoc, if_neg (by omega)]
      have := hlow i (by omega)
      split
      · omega
      · exact hr i j hij (by omega)
theorem bins_all {zs : List Int} {len : Int} (h : okB zs len = true) : ∀ k, k ≤ zs.length → ∃ bs, Bins len zs k (cutRoom len zs k) bs
  | 0, _ => ⟨[], by simp [Bins, cutRoom]⟩
  | k + 1, hk => by
    obtain ⟨bs, hb⟩ := bins_all h k (by omega)
    have hz := (okB_out h).2.2 k (by omega)
    exact bins_step hb hz.1 hz.2
/-- The rooms of bins of which no two go into one block. -/
theorem rooms_sum (L : Int) (hL : 1 ≤ L) : ∀ r : List Int, (∀ x ∈ r, x < L) → r.Pairwise (fun a b => a + b < L) → r.sum ≤ (((r.length + 1) / 2 : Nat) : Int) * (L - 1)
  | [], _, _ => by simp
  | [a], h, _ => by
    have := h a (by simp)
    simp
    omega
  | a :: b :: r, h, hp => by
    have ih := rooms_sum L hL r (fun x hx => h x (by simp [hx])) ((List.pairwise_cons.1 (List.pairwise_cons.1 hp).2).2)
    have hab := (List.pairwise_cons.1 hp).1 b (by simp)
    have e : (((a :: b :: r).length + 1) / 2) = (r.length + 1) / 2 + 1 := by simp; omega
    rw [e]
    simp only [List.sum_cons]
    rw [Int.natCast_add, Int.add_mul]
    omega
theorem sum_flatten : ∀ (rm : List Int) (bs : List (List Nat)), bs.length = rm.length → (∀ i, i < rm.length → sumAt zs (bs.getD i []) = len - nth rm i) → sumAt zs bs.flatten = (rm.length : Int) * len - rm.sum
  | [], bs, hl, _ => by
    obtain rfl : bs = [] := List.eq_nil_of_length_eq_zero (by simpa using hl)
    simp [sumAt]
  | x :: rm, [], hl, _ => by simp at hl
  | x :: rm, b :: bs, hl, h => by
    have h0 := h 0 (by simp)
    have ih := sum_flatten rm bs (by simpa using hl) (fun i hi => by
      have := h (i + 1) (by simpa using hi)
      simpa [nth] using this)
    simp [nth] at h0
    rw [List.flatten_cons, sumAt_append, ih, h0]
    simp [Int.add_mul]
    omega
theorem cut_few {zs : List Int} {len : Int} (h : okB zs len = true) : fewI zs len ≤ cutN zs len ∧ cutN zs len ≤ 2 * fewI zs len := by
  obtain ⟨b1, b2, b3⟩ := okB_out h
  obtain ⟨bs, hp, hl, hs, hb, hr⟩ := bins_all h zs.length (Nat.le_refl _)
  rw [cutN_t h]
  generalize hrm : cutRoom len zs zs.length = rm at *
  have hsum := sum_flatten rm bs hl hs
  rw [sumAt_perm hp] at hsum
  constructor
  · refine few_le_of h hp ?_
    have hbin : ∀ b ∈ bs, (∀ k ∈ b, k < zs.length) ∧ sumAt zs b ≤ len := fun b hbm => by
      obtain ⟨i, hi, rfl⟩ := List.getElem_of_mem hbm
      refine ⟨fun k hk => List.mem_range.1 (hp.mem_iff.1 (List.mem_flatten.2 ⟨_, hbm, hk⟩)), ?_⟩
      have h1 := hs i (by omega)
      have h2 := hb i (by omega)
      have e : bs.getD i [] = bs[i] := by simp [List.getD, hi]
      rw [e] at h1
      omega
    have := bins_run b1.1 (okZ_of h) bs (0, len) 0 (Int.le_refl _) hbin (good0 b1.1) (by rw [val0]; simp)
    rw [Int.zero_add, hl] at this
    exact this
  · have hge := few_ge h
    have hf := few_le h
    have hpw : rm.Pairwise (fun a b => a + b < len) := by
      rw [List.pairwise_iff_getElem]
      intro i j hi hj hij
      have := hr i j hij hj
      rwa [nth_get rm i hi, nth_get rm j hj] at this
    have hlt : ∀ x ∈ rm, x < len := fun x hx => by
      obtain ⟨i, hi, rfl⟩ := List.getElem_of_mem hx
      have := (hb i hi).2
      rwa [nth_get rm i hi] at this
    have hrs := rooms_sum len b1.1 rm hlt hpw
    have hss : sumI zs = (rm.length : Int) * len - rm.sum := hsum
    rw [hss] at hge
    -- m len - ((m + 1) / 2) (len - 1) ≤ few len
    by_cases hz : rm.length = 0
    · rw [hz]; omega
    · have e : (rm.length : Int) = ((rm.length / 2 : Nat) : Int) + (((rm.length + 1) / 2 : Nat) : Int) := by omega
      generalize ((rm.length / 2 : Nat) : Int) = t at *
      have ht1 : (1 : Int) ≤ (((rm.length + 1) / 2 : Nat) : Int) := by omega
      have ht2 : (((rm.length + 1) / 2 : Nat) : Int) ≤ t + 1 := by omega
      generalize (((rm.length + 1) / 2 : Nat) : Int) = u at *
      have h3 : t * len < fewI zs len * len := by
        rw [e] at hge
        rw [Int.add_mul] at hge
        rw [Int.mul_sub] at hrs
        omega
      have := Int.lt_of_mul_lt_mul_right h3 (show (0 : Int) ≤ len by omega)
      omega

/-! ### A piece of a whole block more -/
theorem nth_app_left {zs : List Int} {x : Int} {k : Nat} (h : k < zs.length) : nth (zs ++ [x]) k = nth zs k := by rw [nth_snoc, if_neg (by omega)]
theorem run_app {zs : List Int} {x : Int} : ∀ (l : List Nat) (c : Int × Int), (∀ k ∈ l, k < zs.length) → run len (zs ++ [x]) c l = run len zs c l
  | [], _, _ => rfl
  | k :: l, c, h => by
    simp only [run]
    rw [nth_app_left (h k (by simp))]
    exact run_app l _ (fun j hj => h j (by simp [hj]))
theorem okB_app {zs : List Int} {len : Int} (h : okB zs len = true) (h9 : zs.length ≤ 9) : okB (zs ++ [len]) len = true := by
  obtain ⟨b1, b2, b3⟩ := okB_out h
  refine okB_t (inB_t b1) (by simp; omega) (fun j hj => ?_)
  rw [List.length_append, List.length_singleton] at hj
  rw [nth_snoc]
  split
  · exact inB_t (by omega)
  · exact inB_t (b3 j (by omega))
theorem run_shift {len : Int} {zs : List Int} : ∀ (l : List Nat) (c : Int × Int), run len zs (c.1 + 1, c.2) l = ((run len zs c l).1 + 1, (run len zs c l).2)
  | [], _ => rfl
  | k :: l, c => by
    simp only [run]
    have e : stpS len (c.1 + 1, c.2) (nth zs k) = ((stpS len c (nth zs k)).1 + 1, (stpS len c (nth zs k)).2) := by unfold stpS; split <;> rfl
    rw [e]
    exact run_shift l _
theorem few_app {zs : List Int} {len : Int} (h : okB zs len = true) (h9 : zs.length ≤ 9) : fewI (zs ++ [len]) len = fewI zs len + 1 := by
  obtain ⟨b1, b2, b3⟩ := okB_out h
  have h' := okB_app h h9
  obtain ⟨l, hp, hf, hr⟩ := few_ord h
  have hl : ∀ k ∈ l, k < zs.length := fun k hk => List.mem_range.1 (hp.mem_iff.1 hk)
  have g := good_run (okZ_of h) l (0, len) hl (good0 b1.1)
  have hlast : nth (zs ++ [len]) zs.length = len := by rw [nth_snoc, if_pos rfl]
  refine Int.le_antisymm ?_ ?_
  · have hp' : (l ++ [zs.length]).Perm (List.range (zs ++ [len]).length) := by
      rw [List.length_append, List.length_singleton, List.range_succ]
      exact hp.append_right _
    refine few_le_of h' hp' ?_
    rw [run_append, run_app l _ hl]
    simp only [run]
    rw [hlast, val_over (by have := g.1.2; omega), ← hf, Int.add_mul]
    omega
  · obtain ⟨l', hp', hf', hr'⟩ := few_ord h'
    have hmem : zs.length ∈ l' := hp'.mem_iff.2 (by simp)
    obtain ⟨a, b, rfl⟩ := List.append_of_mem hmem
    have hnd : (a ++ zs.length :: b).Nodup := hp'.nodup_iff.2 List.nodup_range
    have hab : (a ++ b).Perm (List.range zs.length) := by
      have h1 : (zs.length :: (a ++ b)).Perm (List.range (zs.length + 1)) := (List.perm_middle.symm).trans (by simpa using hp')
      rw [List.range_succ] at h1
      have h2 := h1.trans (List.perm_append_comm (l₁ := List.range zs.length) (l₂ := [zs.length]))
      exact (List.perm_cons zs.length).1 h2
    have ha : ∀ k ∈ a, k < zs.length := fun k hk => List.mem_range.1 (hab.mem_iff.1 (List.mem_append_left _ hk))
    have hb : ∀ k ∈ b, k < zs.length := fun k hk => List.mem_range.1 (hab.mem_iff.1 (List.mem_append_right _ hk))
    have hbest := few_best h hab
    rw [hr, run_append] at hbest
    have ga := good_run (okZ_of h) a (0, len) ha (good0 b1.1)
    have hrun : run len (zs ++ [len]) (0, len) (a ++ zs.length :: b) = run len zs (stpS len (run len zs (0, len) a) len) b := by
      rw [run_append, run_app a _ ha]
      simp only [run]
      rw [hlast, run_app b _ hb]
    have hover : len < (run len zs (0, len) a).2 + len := by have := ga.1.2; omega
    have gs : Good len (stpS len (run len zs (0, len) a) len) := good_S ga b1.1 (Int.le_refl _)
    have gsh : Good len ((run len zs (0, len) a).1 + 1, (run len zs (0, len) a).2) := ⟨⟨by have := ga.1.1; simp only; omega, ga.1.2⟩, ga.2⟩
    have hm := run_mono b1.1 (okZ_of h) b _ _ hb gsh gs (by
      rw [val_over hover]
      have := val_le gsh
      simp only [Int.add_mul] at this
      omega)
    rw [run_shift, ← hrun] at hm
    have gb := good_run (okZ_of h) b _ hb ga
    have hl' : ∀ k ∈ a ++ zs.length :: b, k < (zs ++ [len]).length := fun k hk => List.mem_range.1 (hp'.mem_iff.1 hk)
    have g' := good_run (okZ_of h') (a ++ zs.length :: b) (0, len) hl' (good0 b1.1)
    have hv' := val_le g'
    rw [← hf'] at hv'
    have e1 : val len ((run len zs (run len zs (0, len) a) b).1 + 1, (run len zs (run len zs (0, len) a) b).2) = val len (run len zs (run len zs (0, len) a) b) + len := by
      unfold val
      simp only
      rw [show (run len zs (run len zs (0, len) a) b).1 + 1 - 1 = (run len zs (run len zs (0, len) a) b).1 - 1 + 1 by omega, Int.add_mul]
      omega
    rw [e1] at hm
    have e2 : val len (run len zs (0, len) l) = (fewI zs len - 1) * len + (run len zs (0, len) l).2 := by rw [hf]; rfl
    have hg2 := g.1.2
    have h3 : fewI zs len * len < fewI (zs ++ [len]) len * len := by
      rw [e2, Int.sub_mul] at hbest
      omega
    have := Int.lt_of_mul_lt_mul_right h3 (show (0 : Int) ≤ len by omega)
    omega
end
end Go.Proofs.Ytplabaneihjcoaa
