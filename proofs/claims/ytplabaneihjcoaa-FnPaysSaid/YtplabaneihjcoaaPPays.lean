/-
  Plain facts for FnPays: fair marks are as fair as can be; the pay for all marks is the pay for all stones. No Go function is spoken of here.
-/
import Derived.Test.YtplabaneihjcoaaPMarks
import Derived.Test.YtplabaneihjcoaaWPayAll
import Derived.Test.YtplabaneihjcoaaPBusy
namespace Go.Proofs.Ytplabaneihjcoaa
open Go.RowKit

/-! ### Every row of marks is a row of digits -/
theorem fill_nth {q n : Nat} {f : Nat → Int} (hq : 0 < q) (hf : ∀ j, j < n → 1 ≤ f j ∧ f j ≤ (q : Int)) : ∀ k, k ≤ n → ∀ L : List Int, L.length = n →
    (fillGo q L (dec q f k) k).length = n ∧ (∀ j, j < k → nth (fillGo q L (dec q f k) k) j = f j) ∧ ∀ j, k ≤ j → nth (fillGo q L (dec q f k) k) j = nth L j
  | 0, _, L, hL => ⟨by simpa [fillGo] using hL, fun j hj => absurd hj (by omega), fun j _ => by simp [fillGo]⟩
  | k + 1, hk, L, hL => by
    have h1 := hf k (by omega)
    have hlt : (f k - 1).toNat < q := by omega
    have hm : (dec q f k * q + (f k - 1).toNat) % q = (f k - 1).toNat := by
      rw [Nat.add_comm, Nat.add_mul_mod_self_right]; exact Nat.mod_eq_of_lt hlt
    have hd : (dec q f k * q + (f k - 1).toNat) / q = dec q f k := by
      rw [Nat.add_comm, Nat.add_mul_div_right _ _ hq, Nat.div_eq_of_lt hlt]; omega
    have e : fillGo q L (dec q f (k + 1)) (k + 1) = fillGo q (L.set k (f k)) (dec q f k) k := by
      simp only [fillGo, dec]
      rw [hm, hd]
      congr 2
      omega
    rw [e]
    obtain ⟨i1, i2, i3⟩ := fill_nth hq hf k (by omega) (L.set k (f k)) (by simpa using hL)
    refine ⟨i1, fun j hj => ?_, fun j hj => ?_⟩
    · by_cases hjk : j = k
      · subst hjk
        rw [i3 j (Nat.le_refl _), nth_set _ _ _ _ (by omega), if_pos rfl]
      · exact i2 j (by omega)
    · rw [i3 j (by omega), nth_set _ _ _ _ (by omega), if_neg (by omega)]
theorem digs_dec {q n : Nat} {M : List Int} (hq : 0 < q) (hl : M.length = n) (hf : ∀ j, j < n → 1 ≤ nth M j ∧ nth M j ≤ (q : Int)) : digs q n (dec q (nth M) n) = M := by
  obtain ⟨i1, i2, _⟩ := fill_nth hq hf n (Nat.le_refl _) (List.replicate n 0) (by simp)
  refine List.ext_getElem (by rw [digs, i1, hl]) fun j h1 h2 => ?_
  have := i2 j (by omega)
  rw [nth_get _ _ (by rw [i1]; omega), nth_get _ _ h2] at this
  exact this
theorem dec_lt {q : Nat} {f : Nat → Int} (hq : 0 < q) : ∀ {n : Nat}, (∀ j, j < n → 1 ≤ f j ∧ f j ≤ (q : Int)) → dec q f n < q ^ n
  | 0, _ => by simp [dec]
  | n + 1, h => by
    have ih := dec_lt hq (n := n) (fun j hj => h j (by omega))
    have h1 := h n (by omega)
    have h2 : (f n - 1).toNat < q := by omega
    have h3 : (dec q f n + 1) * q ≤ q ^ n * q := Nat.mul_le_mul_right q (by omega)
    rw [Nat.add_mul] at h3
    rw [dec, Nat.pow_succ]
    omega
theorem bestS_min (W : Nat → Int) : ∀ s t, t ≤ s → W (bestS W s) ≤ W t
  | 0, t, h => by obtain rfl : t = 0 := by omega
                  exact Int.le_refl _
  | s + 1, t, h => by
    by_cases c : W (s + 1) < W (bestS W s)
    · simp only [bestS, if_pos c]
      by_cases e : t = s + 1
      · subst e; exact Int.le_refl _
      · have := bestS_min W s t (by omega); omega
    · simp only [bestS, if_neg c]
      by_cases e : t = s + 1
      · subst e; omega
      · exact bestS_min W s t (by omega)
theorem fair_min {ws M : List Int} {q : Nat} (hq : 0 < q) (hl : M.length = ws.length) (hf : ∀ j, j < ws.length → 1 ≤ nth M j ∧ nth M j ≤ (q : Int)) : worst ws (fairL ws q) ≤ worst ws M := by
  have h1 := dec_lt hq hf
  have h2 := bestS_min (fairW ws q) (q ^ ws.length - 1) (dec q (nth M) ws.length) (by omega)
  unfold fairW at h2
  rw [digs_dec hq hl hf] at h2
  exact h2

/-! ### Sums -/
def wsTo (ws : List Int) : Nat → Int
  | 0 => 0
  | k + 1 => wsTo ws k + nth ws k
theorem wsTo_bd {ws : List Int} (hw : ∀ k, 0 ≤ nth ws k ∧ nth ws k ≤ 10000) : ∀ k : Nat, 0 ≤ wsTo ws k ∧ wsTo ws k ≤ 10000 * (k : Int)
  | 0 => by simp [wsTo]
  | k + 1 => by
    have ih := wsTo_bd hw k
    have := hw k
    simp only [wsTo]
    omega
theorem sums_all {ws ms : List Int} (hm : ∀ k, k < ms.length → 1 ≤ nth ms k ∧ nth ms k ≤ 3) : ∀ k, k ≤ ms.length →
    nth (sumsGo ws ms k) 0 = 0 ∧ nth (sumsGo ws ms k) 1 + nth (sumsGo ws ms k) 2 + nth (sumsGo ws ms k) 3 = wsTo ws k
  | 0, _ => by simp [sumsGo, nth, wsTo]
  | k + 1, hk => by
    have ih := sums_all (ws := ws) hm k (by omega)
    have h1 := hm k (by omega)
    have hl : (nth ms k).toNat < (sumsGo ws ms k).length := by rw [sumsGo_length]; omega
    simp only [sumsGo, wsTo, nth_set _ _ _ _ hl]
    have hc : (nth ms k).toNat = 1 ∨ (nth ms k).toNat = 2 ∨ (nth ms k).toNat = 3 := by omega
    rcases hc with e | e | e <;> simp only [e] <;> simp <;> omega
theorem sums_two {ws ms : List Int} (hm : ∀ k, k < ms.length → 1 ≤ nth ms k ∧ nth ms k ≤ 2) : ∀ k, k ≤ ms.length → nth (sumsGo ws ms k) 3 = 0
  | 0, _ => by simp [sumsGo, nth]
  | k + 1, hk => by
    have ih := sums_two (ws := ws) hm k (by omega)
    have h1 := hm k (by omega)
    have hl : (nth ms k).toNat < (sumsGo ws ms k).length := by rw [sumsGo_length]; omega
    rw [sumsGo, nth_set _ _ _ _ hl, if_neg (by omega)]
    exact ih

/-- What FnPays asks of fair marks. -/
structure FairLaw (ws F G : List Int) : Prop where
  okF : fairOk ws 2 = true
  okG : fairOk ws 3 = true
  lenF : F.length = ws.length
  lenG : G.length = ws.length
  bdF : ∀ k, k < ws.length → 1 ≤ nth F k ∧ nth F k ≤ 2
  bdG : ∀ k, k < ws.length → 1 ≤ nth G k ∧ nth G k ≤ 3
  sumF : ∀ k, k ≤ ws.length → ∀ j, 0 ≤ nth (sumsGo ws F k) j ∧ nth (sumsGo ws F k) j ≤ 10000 * (k : Int)
  sumG : ∀ k, k ≤ ws.length → ∀ j, 0 ≤ nth (sumsGo ws G k) j ∧ nth (sumsGo ws G k) j ≤ 10000 * (k : Int)
  two : wsTo ws ws.length ≤ 2 * max (nth (sumsGo ws F ws.length) 1) (nth (sumsGo ws F ws.length) 2)
  less : max (max (nth (sumsGo ws G ws.length) 1) (nth (sumsGo ws G ws.length) 2)) (nth (sumsGo ws G ws.length) 3) ≤ max (nth (sumsGo ws F ws.length) 1) (nth (sumsGo ws F ws.length) 2)
  three : wsTo ws ws.length ≤ 3 * max (max (nth (sumsGo ws G ws.length) 1) (nth (sumsGo ws G ws.length) 2)) (nth (sumsGo ws G ws.length) 3)
theorem fairL_bd {ws : List Int} {q : Nat} (hq : 1 ≤ q) (hq3 : q ≤ 3) (hn : ws.length ≤ 7) : (fairL ws q).length = ws.length ∧ ∀ k, k < ws.length → 1 ≤ nth (fairL ws q) k ∧ nth (fairL ws q) k ≤ (q : Int) := by
  have hp : 0 < q ^ ws.length := Nat.pow_pos hq
  have hb := bestS_le (fairW ws q) (q ^ ws.length - 1)
  have hd := dig_facts hq hq3 hn (s := bestS (fairW ws q) (q ^ ws.length - 1)) (by omega)
  refine ⟨hd.len, fun k hk => ?_⟩
  have hk' : k < (fairL ws q).length := by rw [fairL, hd.len]; exact hk
  rw [nth_get _ _ hk']
  exact hd.bd _ (List.getElem_mem hk')
theorem fair_law {ws : List Int} (hw : ∀ k, k < ws.length → 0 ≤ nth ws k ∧ nth ws k ≤ 59) (hn : ws.length ≤ 6) : FairLaw ws (fairL ws 2) (fairL ws 3) := by
  have h10 : ∀ k, k < ws.length → inB (nth ws k) 0 10000 = true := fun k hk => by have := hw k hk; exact inB_t (by omega)
  have ok2 := fairOk_mk h10 (q := 2) (by omega) (by omega)
  have ok3 := fairOk_mk h10 (q := 3) (by omega) (by omega)
  have hall := (fairOk_t ok2).1
  obtain ⟨f1, f2⟩ := fairL_bd (ws := ws) (q := 2) (by omega) (by omega) (by omega)
  obtain ⟨g1, g2⟩ := fairL_bd (ws := ws) (q := 3) (by omega) (by omega) (by omega)
  have f3 : ∀ k, k < (fairL ws 2).length → 1 ≤ nth (fairL ws 2) k ∧ nth (fairL ws 2) k ≤ 3 := fun k hk => by have := f2 k (by omega); omega
  have g3 : ∀ k, k < (fairL ws 3).length → 1 ≤ nth (fairL ws 3) k ∧ nth (fairL ws 3) k ≤ 3 := fun k hk => by have := g2 k (by omega); omega
  have s2 := sums_two (ws := ws) (ms := fairL ws 2) (fun k hk => by have := f2 k (by omega); omega) ws.length (by omega)
  have a2 := (sums_all (ws := ws) f3 ws.length (by omega)).2
  have a3 := (sums_all (ws := ws) g3 ws.length (by omega)).2
  have hmin := fair_min (ws := ws) (M := fairL ws 2) (q := 3) (by omega) f1 (fun j hj => by have := f2 j hj; omega)
  have hb2 := (sumsGo_bd hall f3 ws.length (by omega)).2 1
  unfold worst at hmin
  refine ⟨ok2, ok3, f1, g1, fun k hk => by have := f2 k hk; omega, fun k hk => by have := g2 k hk; omega, fun k hk => (sumsGo_bd hall f3 k (by omega)).2, fun k hk => (sumsGo_bd hall g3 k (by omega)).2, ?_, ?_, ?_⟩
  · omega
  · omega
  · omega

/-! ### Pay -/
/-- The pay for the first k stones, whatever their marks. -/
def totTo (L : List (Nat × List Int)) (rate : Int) : Nat → Int
  | 0 => 0
  | k + 1 => totTo L rate k + payAt L rate k
theorem totTo_bd (L : List (Nat × List Int)) {rate : Int} (h : 0 ≤ rate ∧ rate ≤ 1000) : ∀ k : Nat, -(129600000 * (k : Int)) ≤ totTo L rate k ∧ totTo L rate k ≤ 129600000 * (k : Int)
  | 0 => by simp [totTo]
  | k + 1 => by
    have ih := totTo_bd L h k
    have hp := (payAt_bd L k h).2
    simp only [totTo]
    omega
/-- The pay for the marks 1 .. j. -/
def nineTo (L : List (Nat × List Int)) (ms : List Int) (rate : Int) (n : Nat) : Nat → Int
  | 0 => 0
  | j + 1 => nineTo L ms rate n j + payTo L ms ((j : Int) + 1) rate n
theorem nineTo_bd (L : List (Nat × List Int)) (ms : List Int) {rate : Int} (n : Nat) (h : 0 ≤ rate ∧ rate ≤ 1000) (hn : n ≤ 12) : ∀ j : Nat, -(1555200000 * (j : Int)) ≤ nineTo L ms rate n j ∧ nineTo L ms rate n j ≤ 1555200000 * (j : Int)
  | 0 => by simp [nineTo]
  | j + 1 => by
    have ih := nineTo_bd L ms n h hn j
    have hp := payTo_bd L ms ((j : Int) + 1) h n
    simp only [nineTo]
    omega
theorem nine_zero (L : List (Nat × List Int)) (ms : List Int) (rate : Int) : ∀ j, nineTo L ms rate 0 j = 0
  | 0 => rfl
  | j + 1 => by rw [nineTo, nine_zero L ms rate j]; rfl
theorem nine_step (L : List (Nat × List Int)) {ms : List Int} (rate : Int) {n : Nat} : ∀ j : Nat, nineTo L ms rate (n + 1) j = nineTo L ms rate n j + if 1 ≤ nth ms n ∧ nth ms n ≤ (j : Int) then payAt L rate n else 0
  | 0 => by
    have c : ¬ (1 ≤ nth ms n ∧ nth ms n ≤ ((0 : Nat) : Int)) := by omega
    rw [if_neg c]
    rfl
  | j + 1 => by
    rw [nineTo, nineTo, nine_step L rate j]
    by_cases e : nth ms n = (j : Int) + 1
    · have c1 : ¬ (1 ≤ nth ms n ∧ nth ms n ≤ (j : Int)) := by omega
      have c2 : 1 ≤ nth ms n ∧ nth ms n ≤ ((j + 1 : Nat) : Int) := by omega
      rw [payTo_t rate e, if_neg c1, if_pos c2]; omega
    · rw [payTo_f L rate e]
      by_cases c : 1 ≤ nth ms n ∧ nth ms n ≤ (j : Int)
      · have c2 : 1 ≤ nth ms n ∧ nth ms n ≤ ((j + 1 : Nat) : Int) := by omega
        rw [if_pos c, if_pos c2]; omega
      · have c2 : ¬ (1 ≤ nth ms n ∧ nth ms n ≤ ((j + 1 : Nat) : Int)) := by omega
        rw [if_neg c, if_neg c2]; omega
theorem nine_all (L : List (Nat × List Int)) {ms : List Int} (rate : Int) : ∀ {n : Nat}, (∀ i, i < n → 1 ≤ nth ms i ∧ nth ms i ≤ 9) → nineTo L ms rate n 9 = totTo L rate n
  | 0, _ => nine_zero L ms rate 9
  | n + 1, h => by
    rw [nine_step, nine_all L rate (n := n) (fun i hi => h i (by omega)), if_pos (show 1 ≤ nth ms n ∧ nth ms n ≤ ((9 : Nat) : Int) from by have := h n (by omega); omega), totTo]

/-- What FnPays asks of pays. -/
structure PayLaw (L : List (Nat × List Int)) (ms : List Int) (n : Nat) (rate : Int) : Prop where
  marks : marksB L n ms n = true
  ok : payOkB L n ms n rate = true
  all : payAllL L n ms n rate = payAllTo L n ms n rate 9
  one : ∀ k : Nat, k < 9 → nth (payAllTo L n ms n rate 9) k = payTo L ms ((k : Int) + 1) rate n ∧ payI L n ms n ((k : Int) + 1) rate = payTo L ms ((k : Int) + 1) rate n
  sum : nineTo L ms rate n 9 = totTo L rate n
  busy : (0 < busyI L n ms n) ↔ 0 < n
theorem pay_law {L : List (Nat × List Int)} {ms : List Int} {n : Nat} {rate : Int} (hn : n ≤ 5) (hs : ∀ i, i < n → stoneB (rowZ L i) (rowN L i) = true) (hm : ∀ i, i < n → 1 ≤ nth ms i ∧ nth ms i ≤ 4) (hr : 0 ≤ rate ∧ rate ≤ 1000) : PayLaw L ms n rate := by
  have hmk : marksB L n ms n = true := by
    simp only [marksB, Bool.and_eq_true, decide_eq_true_eq]
    exact ⟨by omega, trivial, allB_t fun i hi => marksAt_t (hs i hi) (inB_t (by have := hm i hi; omega))⟩
  have hok : payOkB L n ms n rate = true := by
    simp only [payOkB, Bool.and_eq_true]
    exact ⟨hmk, inB_t hr⟩
  refine ⟨hmk, hok, payAllL_t hok, fun k hk => ⟨?_, payI_t _ hok⟩, nine_all L rate (fun i hi => by have := hm i hi; omega), ?_⟩
  · rw [nth_get _ _ (by rw [payAllTo_len]; exact hk)]
    simp only [payAllTo, List.getElem_map, List.getElem_range]
    exact payI_t _ hok
  · constructor
    · intro h
      rcases Nat.eq_zero_or_pos n with rfl | h0
      · rw [busyI_0] at h; omega
      · exact h0
    · intro h0
      rw [busyI_t hmk]
      obtain ⟨h1, h2⟩ := bmTo_spec L ms n 9
      have hp := (sumM_pos (L := L) (ms := ms) (m := nth ms 0) (k := n) (fun i hi => weight_pos (hs i hi))).2 ⟨0, h0, rfl⟩
      have h3 := h1 (nth ms 0) (by have := hm 0 h0; omega) (by have := hm 0 h0; omega)
      rcases h2 with h2 | h2
      · rw [h2] at h3; simp only at h3; omega
      · omega
end Go.Proofs.Ytplabaneihjcoaa
