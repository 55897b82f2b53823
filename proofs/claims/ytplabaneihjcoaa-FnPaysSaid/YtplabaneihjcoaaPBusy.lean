/-
  Plain facts: a valid stone weighs something; the mark with the greatest weight, as the reference looks for it and as a map's range finds it. No Go function is spoken of here.
-/
import Derived.Test.YtplabaneihjcoaaWMarks
import Derived.Test.YtplabaneihjcoaaPWeight
import Derived.Maps.OwnOps
import Derived.Maps.RangeWalk
import Derived.Maps.Views
namespace Go.Proofs.Ytplabaneihjcoaa
open Go.RowKit Go.Maps

/-! ### The weight of a valid stone -/
/-- The sum of the areas as seen from corner 0. -/
def fanTo (zs : List Int) : Nat → Int
  | 0 => 0
  | k + 1 => fanTo zs k + sd zs 0 k (k + 1)
def crs (zs : List Int) (i j : Nat) : Int := crossI (nth zs (i * 2)) (nth zs (i * 2 + 1)) (nth zs (j * 2)) (nth zs (j * 2 + 1))
theorem sd_crs (zs : List Int) (k : Nat) : sd zs 0 k (k + 1) = crs zs k (k + 1) - crs zs 0 (k + 1) + crs zs 0 k := by
  unfold sd sideI crs crossI
  grind
theorem crs_self (zs : List Int) (k : Nat) : crs zs k k = 0 := by unfold crs crossI; grind
theorem crs_anti (zs : List Int) (i j : Nat) : crs zs i j = -crs zs j i := by unfold crs crossI; grind
theorem over_fan (zs : List Int) (n : Nat) : ∀ k, k < n → overTo facOne zs n k = fanTo zs k + crs zs 0 k
  | 0, _ => by simp [overTo, fanTo, crs_self]
  | k + 1, h => by
    have ih := over_fan zs n k (by omega)
    have e : (k + 1) % n = k + 1 := Nat.mod_eq_of_lt h
    have h1 := sd_crs zs k
    have h2 : part facOne zs k (k + 1) = crs zs k (k + 1) := part_one _ _ _
    simp only [overTo, fanTo]
    rw [e]
    omega
theorem fan_pos {zs : List Int} {n : Nat} (hn : 3 ≤ n) (h : turnTo zs n n) : ∀ k, k < n → 0 ≤ fanTo zs k ∧ (2 ≤ k → 0 < fanTo zs k)
  | 0, _ => by simp [fanTo]
  | k + 1, hk => by
    have ih := fan_pos hn h k (by omega)
    have h1 := h k (by omega)
    simp only [turnB, hk, if_true, Bool.and_eq_true, decide_eq_true_eq] at h1
    refine ⟨by simp only [fanTo]; omega, fun h2 => ?_⟩
    simp only [fanTo]
    by_cases e : k = 1
    · subst e
      have h0 := h 0 (by omega)
      simp only [turnB, Bool.and_eq_true, decide_eq_true_eq] at h0
      have e1 : (0 + 1) % n = 1 := Nat.mod_eq_of_lt (by omega)
      have e2 : (0 + 2) % n = 2 := Nat.mod_eq_of_lt (by omega)
      rw [e1, e2] at h0
      show 0 < fanTo zs 1 + sd zs 0 1 2
      omega
    · have := ih.2 (by omega)
      omega
theorem weight_pos {zs : List Int} {n : Nat} (h : stoneB zs n = true) : 0 < weightI zs n := by
  obtain ⟨hn, _, ht⟩ := stoneB_out h
  obtain ⟨m, rfl⟩ : ∃ m, n = m + 1 := ⟨n - 1, by omega⟩
  have h1 := over_fan zs (m + 1) m (by omega)
  have h2 := (fan_pos hn.1 ht m (by omega)).2 (by omega)
  have h3 : part facOne zs m 0 = crs zs m 0 := part_one _ _ _
  have h4 := crs_anti zs m 0
  unfold weightI
  rw [overI_t h]
  simp only [overTo, Nat.mod_self]
  omega

/-! ### Sums by mark -/
/-- The weight of the first k stones that bear a mark. -/
def sumM (L : List (Nat × List Int)) (ms : List Int) (m : Int) : Nat → Int
  | 0 => 0
  | k + 1 => sumM L ms m k + if nth ms k = m then weightI (rowZ L k) (rowN L k) else 0
theorem sumM_t {L : List (Nat × List Int)} {ms : List Int} {m : Int} {k : Nat} (h : nth ms k = m) : sumM L ms m (k + 1) = sumM L ms m k + weightI (rowZ L k) (rowN L k) := by simp [sumM, h]
theorem sumM_f {L : List (Nat × List Int)} {ms : List Int} {m : Int} {k : Nat} (h : ¬ nth ms k = m) : sumM L ms m (k + 1) = sumM L ms m k := by simp [sumM, h]
theorem sumM_bd (L : List (Nat × List Int)) (ms : List Int) (m : Int) : ∀ k : Nat, -(129600 * (k : Int)) ≤ sumM L ms m k ∧ sumM L ms m k ≤ 129600 * (k : Int)
  | 0 => by simp [sumM]
  | k + 1 => by
    have ih := sumM_bd L ms m k
    have h := weightI_bd (rowZ L k) (rowN L k)
    simp only [sumM]
    split <;> omega
/-- Some of the first k stones bears the mark. -/
def Bears (ms : List Int) (m : Int) (k : Nat) : Prop := ∃ i, i < k ∧ nth ms i = m
theorem sumM_none {L : List (Nat × List Int)} {ms : List Int} {m : Int} : ∀ {k : Nat}, ¬ Bears ms m k → sumM L ms m k = 0
  | 0, _ => rfl
  | k + 1, h => by
    rw [sumM_f (fun e => h ⟨k, by omega, e⟩)]
    exact sumM_none fun ⟨i, hi, e⟩ => h ⟨i, by omega, e⟩
theorem sumM_pos {L : List (Nat × List Int)} {ms : List Int} {m : Int} : ∀ {k : Nat}, (∀ i, i < k → 0 < weightI (rowZ L i) (rowN L i)) → 0 ≤ sumM L ms m k ∧ (Bears ms m k → 0 < sumM L ms m k)
  | 0, _ => ⟨by simp [sumM], fun ⟨i, hi, _⟩ => absurd hi (by omega)⟩
  | k + 1, hw => by
    have ih := sumM_pos (L := L) (ms := ms) (m := m) (k := k) (fun i hi => hw i (by omega))
    have h := hw k (by omega)
    by_cases e : nth ms k = m
    · rw [sumM_t e]
      exact ⟨by omega, fun _ => by omega⟩
    · rw [sumM_f e]
      refine ⟨ih.1, fun ⟨i, hi, he⟩ => ih.2 ⟨i, ?_, he⟩⟩
      by_cases hik : i = k
      · subst hik; exact absurd he e
      · omega

/-- What the reference has behind the marks 1 .. j: the best mark, and its sum. -/
def bmTo (L : List (Nat × List Int)) (ms : List Int) (n : Nat) : Nat → Int × Int
  | 0 => (0, 0)
  | j + 1 => if (bmTo L ms n j).2 < sumM L ms ((j : Int) + 1) n then ((j : Int) + 1, sumM L ms ((j : Int) + 1) n) else bmTo L ms n j
theorem bmTo_t {L : List (Nat × List Int)} {ms : List Int} {n j : Nat} (h : (bmTo L ms n j).2 < sumM L ms ((j : Int) + 1) n) : bmTo L ms n (j + 1) = ((j : Int) + 1, sumM L ms ((j : Int) + 1) n) := by simp [bmTo, h]
theorem bmTo_f {L : List (Nat × List Int)} {ms : List Int} {n j : Nat} (h : ¬ (bmTo L ms n j).2 < sumM L ms ((j : Int) + 1) n) : bmTo L ms n (j + 1) = bmTo L ms n j := by simp [bmTo, h]
theorem bmTo_bd (L : List (Nat × List Int)) (ms : List Int) (n : Nat) : ∀ j, 0 ≤ (bmTo L ms n j).2 ∧ (bmTo L ms n j).2 ≤ 129600 * (n : Int)
  | 0 => by simp [bmTo]; omega
  | j + 1 => by
    have ih := bmTo_bd L ms n j
    have h := sumM_bd L ms ((j : Int) + 1) n
    by_cases e : (bmTo L ms n j).2 < sumM L ms ((j : Int) + 1) n
    · rw [bmTo_t e]; simp only; omega
    · rw [bmTo_f e]; exact ih
theorem bmTo_spec (L : List (Nat × List Int)) (ms : List Int) (n : Nat) : ∀ j : Nat, (∀ m : Int, 1 ≤ m → m ≤ (j : Int) → sumM L ms m n ≤ (bmTo L ms n j).2) ∧
    ((bmTo L ms n j = (0, 0)) ∨ (1 ≤ (bmTo L ms n j).1 ∧ (bmTo L ms n j).1 ≤ j ∧ (bmTo L ms n j).2 = sumM L ms (bmTo L ms n j).1 n ∧ 0 < (bmTo L ms n j).2 ∧ ∀ m : Int, 1 ≤ m → m < (bmTo L ms n j).1 → sumM L ms m n < (bmTo L ms n j).2))
  | 0 => ⟨fun m h1 h2 => by omega, .inl rfl⟩
  | j + 1 => by
    have ih := bmTo_spec L ms n j
    have hb := bmTo_bd L ms n j
    by_cases e : (bmTo L ms n j).2 < sumM L ms ((j : Int) + 1) n
    · rw [bmTo_t e]
      refine ⟨fun m h1 h2 => ?_, .inr ⟨by simp only; omega, by simp, rfl, by simp only; omega, fun m h1 h2 => ?_⟩⟩
      · by_cases em : m = (j : Int) + 1
        · subst em; exact Int.le_refl _
        · have := ih.1 m h1 (by omega)
          simp only
          omega
      · simp only at h2 ⊢
        have := ih.1 m h1 (by omega)
        omega
    · rw [bmTo_f e]
      refine ⟨fun m h1 h2 => ?_, ?_⟩
      · by_cases em : m = (j : Int) + 1
        · subst em; omega
        · exact ih.1 m h1 (by omega)
      · rcases ih.2 with h | ⟨h1, h2, h3⟩
        · exact .inl h
        · exact .inr ⟨h1, by omega, h3⟩
def busyI (L : List (Nat × List Int)) (n : Nat) (ms : List Int) (q : Nat) : Int := if marksB L n ms q = true then (bmTo L ms n 9).1 else 0
theorem busyI_t {L : List (Nat × List Int)} {n : Nat} {ms : List Int} {q : Nat} (h : marksB L n ms q = true) : busyI L n ms q = (bmTo L ms n 9).1 := by simp [busyI, h]
theorem busyI_f {L : List (Nat × List Int)} {n : Nat} {ms : List Int} {q : Nat} (h : marksB L n ms q = false) : busyI L n ms q = 0 := by simp [busyI, h]
theorem busyI_0 {L : List (Nat × List Int)} {ms : List Int} {q : Nat} : busyI L 0 ms q = 0 := by
  have h : ∀ j, bmTo L ms 0 j = (0, 0) := by
    intro j
    induction j with
    | zero => rfl
    | succ j ih => rw [bmTo_f (by rw [ih]; simp [sumM]), ih]
  unfold busyI
  rw [h]
  split <;> rfl

/-- What a range over the sums finds: 'seen' are the marks that have come. -/
def BusySeen (L : List (Nat × List Int)) (ms : List Int) (n : Nat) (seen : Int → Prop) (b : Int) : Prop :=
  (b = 0 ∧ ∀ m, ¬ seen m) ∨ (seen b ∧ 1 ≤ b ∧ b ≤ 9 ∧ ∀ m, seen m → sumM L ms m n < sumM L ms b n ∨ (sumM L ms m n = sumM L ms b n ∧ b ≤ m))
theorem busySeen_end {L : List (Nat × List Int)} {n : Nat} {ms : List Int} {b : Int} (hm : marksB L n ms n = true) (h : BusySeen L ms n (fun m => Bears ms m n) b) : busyI L n ms n = b := by
  obtain ⟨_, _, hall⟩ := marksB_out hm
  have hw : ∀ i, i < n → 0 < weightI (rowZ L i) (rowN L i) := fun i hi => by
    have := hall i hi
    simp only [marksAt, Bool.and_eq_true] at this
    exact weight_pos this.1
  have hr : ∀ i, i < n → 1 ≤ nth ms i ∧ nth ms i ≤ 9 := fun i hi => by
    have := hall i hi
    simp only [marksAt, Bool.and_eq_true, inB_iff] at this
    exact this.2
  rw [busyI_t hm]
  obtain ⟨h1, h2⟩ := bmTo_spec L ms n 9
  rcases h with ⟨rfl, h0⟩ | ⟨hb, hb1, hb9, hmax⟩
  · rcases h2 with h2 | ⟨g1, g2, g3, g4, _⟩
    · rw [h2]
    · have : ¬ Bears ms (bmTo L ms n 9).1 n := h0 _
      have := sumM_none (L := L) this
      omega
  · have hp := (sumM_pos (L := L) (m := b) hw).2 hb
    have hle := h1 b hb1 (by omega)
    rcases h2 with h2 | ⟨g1, g2, g3, g4, g5⟩
    · rw [h2] at hle; simp only at hle; omega
    · have hbr : Bears ms (bmTo L ms n 9).1 n := Classical.byContradiction fun hn => by
        have := sumM_none (L := L) hn
        omega
      rcases hmax _ hbr with h | ⟨h, hle2⟩
      · omega
      · by_cases e : (bmTo L ms n 9).1 = b
        · exact e
        · have := g5 b hb1
          by_cases e2 : b < (bmTo L ms n 9).1
          · have := this e2; omega
          · omega
theorem busySeen_first {L : List (Nat × List Int)} {ms : List Int} {n : Nat} {seen : Int → Prop} {x : Int} (h0 : ∀ m, ¬ seen m) (h1 : 1 ≤ x) (h9 : x ≤ 9) : BusySeen L ms n (fun m => seen m ∨ m = x) x :=
  .inr ⟨.inr rfl, h1, h9, fun m hm => by rcases hm with hm | rfl; exact absurd hm (h0 m); exact .inr ⟨rfl, Int.le_refl _⟩⟩
theorem busySeen_new {L : List (Nat × List Int)} {ms : List Int} {n : Nat} {seen : Int → Prop} {b x : Int} (h : BusySeen L ms n seen b) (hb : b ≠ 0) (h1 : 1 ≤ x) (h9 : x ≤ 9)
    (hx : sumM L ms b n < sumM L ms x n ∨ (sumM L ms x n = sumM L ms b n ∧ x < b)) : BusySeen L ms n (fun m => seen m ∨ m = x) x := by
  rcases h with ⟨h, _⟩ | ⟨_, _, _, hmax⟩
  · exact absurd h hb
  · refine .inr ⟨.inr rfl, h1, h9, fun m hm => ?_⟩
    rcases hm with hm | rfl
    · rcases hmax m hm with h | ⟨h, hle⟩ <;> omega
    · exact .inr ⟨rfl, Int.le_refl _⟩
theorem busySeen_old {L : List (Nat × List Int)} {ms : List Int} {n : Nat} {seen : Int → Prop} {b x : Int} (h : BusySeen L ms n seen b) (hb : b ≠ 0)
    (hx : ¬ sumM L ms b n < sumM L ms x n) (hx2 : sumM L ms x n = sumM L ms b n → ¬ x < b) : BusySeen L ms n (fun m => seen m ∨ m = x) b := by
  rcases h with ⟨h, _⟩ | ⟨hs, hb1, hb9, hmax⟩
  · exact absurd h hb
  · refine .inr ⟨.inl hs, hb1, hb9, fun m hm => ?_⟩
    rcases hm with hm | rfl
    · exact hmax m hm
    · by_cases e : sumM L ms m n = sumM L ms b n
      · have := hx2 e; omega
      · omega
theorem BusySeen.congr {L : List (Nat × List Int)} {ms : List Int} {n : Nat} {seen seen' : Int → Prop} {b : Int} (h : BusySeen L ms n seen b) (e : ∀ m, seen m ↔ seen' m) : BusySeen L ms n seen' b := by
  have : seen = seen' := funext fun m => propext (e m)
  exact this ▸ h

/-! ### The map of the sums -/
def keyL (m : Int) : Lit := .int .i64 m
def elI (x : Int) : DataW Unit := .lit (.int .i64 x)
/-- What the map reads as behind k stones. -/
def sumsD (L : List (Nat × List Int)) (ms : List Int) : Nat → DataW Unit
  | 0 => .map []
  | k + 1 => (sumsD L ms k).put (keyL (nth ms k)) (elI (sumM L ms (nth ms k) (k + 1)))
theorem sumsD_isMap (L : List (Nat × List Int)) (ms : List Int) : ∀ k, IsMap (sumsD L ms k)
  | 0 => isMap_empty
  | k + 1 => (sumsD_isMap L ms k).put _ _
theorem keyL_ne {a b : Int} (h : a ≠ b) : keyL a ≠ keyL b := by
  intro e
  exact h (by simpa [keyL] using e)
theorem sumsD_has (L : List (Nat × List Int)) (ms : List Int) (m : Int) : ∀ k, Maps.has (sumsD L ms k) (keyL m) = true ↔ Bears ms m k
  | 0 => by simp [sumsD, Maps.has, Bears]
  | k + 1 => by
    by_cases e : nth ms k = m
    · subst e
      simp only [sumsD]
      rw [has_put_same (sumsD_isMap L ms k) (by exact trivial)]
      exact ⟨fun _ => ⟨k, by omega, rfl⟩, fun _ => rfl⟩
    · simp only [sumsD]
      rw [has_put_other (keyL_ne (fun h => e h.symm)), sumsD_has L ms m k]
      constructor
      · rintro ⟨i, hi, he⟩; exact ⟨i, by omega, he⟩
      · rintro ⟨i, hi, he⟩
        refine ⟨i, ?_, he⟩
        by_cases hik : i = k
        · subst hik; exact absurd he e
        · omega
theorem sumsD_at (L : List (Nat × List Int)) (ms : List Int) (m : Int) : ∀ k, (sumsD L ms k).atKey (keyL m) (elI 0) = elI (sumM L ms m k)
  | 0 => by simp [sumsD, DataW.atKey, sumM]
  | k + 1 => by
    by_cases e : nth ms k = m
    · subst e
      simp only [sumsD]
      rw [atKey_put_same (sumsD_isMap L ms k) (by exact trivial)]
    · simp only [sumsD]
      rw [atKey_put_other (keyL_ne (fun h => e h.symm)), sumsD_at L ms m k, sumM_f e]
theorem elI_inj {a b : Int} (h : elI a = elI b) : a = b := by simpa [elI] using h
end Go.Proofs.Ytplabaneihjcoaa
