/-
  Plain facts on the fewest blocks: tables over sets of pieces. No Go function is spoken of here.
-/
import Derived.Test.YtplabaneihjcoaaPCut
import Derived.Laws.BitsAllLaws
import Derived.Laws.BitsLemmas
namespace Go.Proofs.Ytplabaneihjcoaa
open Go.RowKit

def p2 (k : Nat) : Nat := 2 ^ k
theorem p2_pos (k : Nat) : 0 < p2 k := Nat.two_pow_pos k
theorem p2_le (n : Nat) (h : n ≤ 10) : p2 n ≤ 1024 := Nat.pow_le_pow_right (by omega) h
theorem p2_lt {k n : Nat} (h : k < n) : p2 k < p2 n := Nat.pow_lt_pow_right (by omega) h
theorem wrap_p2 (n : Nat) (h : n ≤ 10) : wrap64 (2 ^ n) = ((p2 n : Nat) : Int) := by
  have h1 := p2_le n h
  have e : (2 : Int) ^ n = ((p2 n : Nat) : Int) := by simp [p2]
  rw [e]
  unfold wrap64
  omega
theorem p2_le_of_bit {s k : Nat} (h : s / p2 k % 2 = 1) : p2 k ≤ s := by
  rcases Nat.lt_or_ge s (p2 k) with h' | h'
  · rw [Nat.div_eq_of_lt h'] at h; omega
  · exact h'

theorem ofInt_64 (a : Nat) (ha : a < 9223372036854775808) : (BitVec.ofInt 64 (a : Int)).toNat = a := by
  rw [BitVec.ofInt_natCast, BitVec.toNat_ofNat]; exact Nat.mod_eq_of_lt (by omega)
theorem bit_at (s k : Nat) (h : s < 9223372036854775808) : bits .and .i64 ((s : Int) / 2 ^ k) 1 = ((s / p2 k % 2 : Nat) : Int) := by
  have e : (s : Int) / 2 ^ k = ((s / p2 k : Nat) : Int) := by simp [p2]
  have hle : s / p2 k ≤ s := Nat.div_le_self _ _
  rw [e]
  show IntKind.i64.wrap ((BitVec.ofInt 64 ((s / p2 k : Nat) : Int) &&& BitVec.ofInt 64 ((1 : Nat) : Int)).toNat : Int) = _
  rw [BitVec.toNat_and, ofInt_64 _ (by omega), ofInt_64 1 (by omega), Nat.and_one_is_mod, IntKind.wrap_i64]
  omega

/-- A piece is cut, as the reference does it; as the program does it. -/
def stpS (len : Int) (c : Int × Int) (z : Int) : Int × Int := if len < c.2 + z then (c.1 + 1, z) else (c.1, c.2 + z)
def stpI (len : Int) (c : Int × Int) (z : Int) : Int × Int := if 0 < c.1 ∧ c.2 + z ≤ len then (c.1, c.2 + z) else (c.1 + 1, z)
def lessP (c d : Int × Int) : Bool := decide (c.1 < d.1 ∨ (c.1 = d.1 ∧ c.2 < d.2))
def pickP (c d : Int × Int) : Int × Int := if lessP c d = true then c else d
def innr (f : Int × Int → Int → Int × Int) (T : Nat → Int × Int) (zs : List Int) (n s : Nat) : Nat → Int × Int
  | 0 => ((n : Int) + 1, 0)
  | k + 1 => if s / p2 k % 2 = 1 then pickP (f (T (s - p2 k)) (nth zs k)) (innr f T zs n s k) else innr f T zs n s k
def upd (T : Nat → Int × Int) (s : Nat) (c : Int × Int) (j : Nat) : Int × Int := if j = s then c else T j
def tab (f : Int × Int → Int → Int × Int) (b0 : Int × Int) (zs : List Int) (n : Nat) : Nat → Nat → Int × Int
  | 0 => fun j => if j = 0 then b0 else (0, 0)
  | s + 1 => upd (tab f b0 zs n s) (s + 1) (innr f (tab f b0 zs n s) zs n (s + 1) n)
theorem upd_same (T : Nat → Int × Int) (s : Nat) (c : Int × Int) : upd T s c s = c := by simp [upd]
theorem upd_other (T : Nat → Int × Int) {s j : Nat} (c : Int × Int) (h : j ≠ s) : upd T s c j = T j := by simp [upd, h]
theorem upd_upd (T : Nat → Int × Int) (s : Nat) (c d : Int × Int) (j : Nat) : (if j = s then d else upd T s c j) = upd T s d j := by
  unfold upd; split <;> rfl
theorem tab_far (f : Int × Int → Int → Int × Int) (b0 : Int × Int) (zs : List Int) (n : Nat) : ∀ s j, s < j → tab f b0 zs n s j = (0, 0)
  | 0, j, h => by simp [tab]; omega
  | s + 1, j, h => by rw [tab, upd_other _ _ (by omega)]; exact tab_far f b0 zs n s j (by omega)
theorem tab_next (f : Int × Int → Int → Int × Int) (b0 : Int × Int) (zs : List Int) (n S : Nat) (h : 1 ≤ S) : tab f b0 zs n S = upd (tab f b0 zs n (S - 1)) S (innr f (tab f b0 zs n (S - 1)) zs n S n) := by
  obtain ⟨s, rfl⟩ : ∃ s, S = s + 1 := ⟨S - 1, by omega⟩
  rfl
theorem innr_bit {f : Int × Int → Int → Int × Int} {T : Nat → Int × Int} {zs : List Int} {n s k : Nat} (h : s / p2 k % 2 = 1) : innr f T zs n s (k + 1) = pickP (f (T (s - p2 k)) (nth zs k)) (innr f T zs n s k) := by simp [innr, h]
theorem innr_no {f : Int × Int → Int → Int × Int} {T : Nat → Int × Int} {zs : List Int} {n s k : Nat} (h : s / p2 k % 2 = 0) : innr f T zs n s (k + 1) = innr f T zs n s k := by simp [innr, h]
theorem pickP_t {c d : Int × Int} (h : c.1 < d.1 ∨ (c.1 = d.1 ∧ c.2 < d.2)) : pickP c d = c := by simp [pickP, lessP, h]
theorem pickP_f {c d : Int × Int} (h : ¬ (c.1 < d.1 ∨ (c.1 = d.1 ∧ c.2 < d.2))) : pickP c d = d := by
  unfold pickP lessP
  rw [decide_eq_false h]
  rfl

/-- What every entry of a table meets. -/
def Fine (n : Nat) (len : Int) (c : Int × Int) : Prop := 0 ≤ c.1 ∧ c.1 ≤ n + 1 ∧ 0 ≤ c.2 ∧ c.2 ≤ len
/-- What a step makes of it. -/
def Fine' (n : Nat) (len : Int) (c : Int × Int) : Prop := 0 ≤ c.1 ∧ c.1 ≤ n + 2 ∧ 0 ≤ c.2 ∧ c.2 ≤ len
theorem fine_S {n : Nat} {len z : Int} {c : Int × Int} (h : Fine n len c) (h1 : 1 ≤ z) (h2 : z ≤ len) : Fine' n len (stpS len c z) := by
  obtain ⟨a1, a2, a3, a4⟩ := h
  unfold stpS Fine'
  split <;> simp only <;> omega
theorem fine_I {n : Nat} {len z : Int} {c : Int × Int} (h : Fine n len c) (h1 : 1 ≤ z) (h2 : z ≤ len) : Fine' n len (stpI len c z) := by
  obtain ⟨a1, a2, a3, a4⟩ := h
  unfold stpI Fine'
  split <;> simp only <;> omega
theorem fine_pick {n : Nat} {len : Int} {c d : Int × Int} (h : Fine' n len c) (h' : Fine n len d) : Fine n len (pickP c d) := by
  by_cases hl : c.1 < d.1 ∨ (c.1 = d.1 ∧ c.2 < d.2)
  · rw [pickP_t hl]
    obtain ⟨a1, a2, a3, a4⟩ := h
    obtain ⟨b1, b2, b3, b4⟩ := h'
    exact ⟨a1, by omega, a3, a4⟩
  · rw [pickP_f hl]; exact h'
theorem fine_innr {f : Int × Int → Int → Int × Int} {T : Nat → Int × Int} {zs : List Int} {n s : Nat} {len : Int} (hl : 0 ≤ len) (hT : ∀ j, Fine n len (T j)) (hf : ∀ c k, k < n → Fine n len c → Fine' n len (f c (nth zs k))) :
    ∀ k, k ≤ n → Fine n len (innr f T zs n s k)
  | 0, _ => ⟨by simp only [innr]; omega, by simp [innr], by simp [innr], by simpa [innr] using hl⟩
  | k + 1, hk => by
    have ih := fine_innr hl hT hf k (by omega) (s := s)
    by_cases h : s / p2 k % 2 = 1
    · rw [innr_bit h]; exact fine_pick (hf _ k (by omega) (hT _)) ih
    · rw [innr_no (by omega)]; exact ih
theorem fine_tab {f : Int × Int → Int → Int × Int} {b0 : Int × Int} {zs : List Int} {n : Nat} {len : Int} (hl : 0 ≤ len) (h0 : Fine n len b0) (hf : ∀ c k, k < n → Fine n len c → Fine' n len (f c (nth zs k))) :
    ∀ s j, Fine n len (tab f b0 zs n s j)
  | 0, j => by
    unfold tab
    split
    · exact h0
    · exact ⟨by simp, by simp; omega, by simp, by simpa using hl⟩
  | s + 1, j => by
    unfold tab upd
    split
    · exact fine_innr hl (fine_tab hl h0 hf s) hf n (Nat.le_refl _)
    · exact fine_tab hl h0 hf s j

theorem stp_eq {len : Int} {c : Int × Int} (h : 1 ≤ c.1) (z : Int) : stpS len c z = stpI len c z := by
  unfold stpS stpI
  by_cases hc : len < c.2 + z
  · rw [if_pos hc, if_neg (by omega)]
  · rw [if_neg hc, if_pos (by omega)]
theorem stpS_over {len z : Int} {c : Int × Int} (h : len < c.2 + z) : stpS len c z = (c.1 + 1, z) := by unfold stpS; rw [if_pos h]
theorem stpS_in {len z : Int} {c : Int × Int} (h : ¬ len < c.2 + z) : stpS len c z = (c.1, c.2 + z) := by unfold stpS; rw [if_neg h]
theorem stpI_in {len z : Int} {c : Int × Int} (h1 : 0 < c.1) (h : c.2 + z ≤ len) : stpI len c z = (c.1, c.2 + z) := by unfold stpI; rw [if_pos ⟨h1, h⟩]
theorem stpI_over {len z : Int} {c : Int × Int} (h : ¬ (0 < c.1 ∧ c.2 + z ≤ len)) : stpI len c z = (c.1 + 1, z) := by unfold stpI; rw [if_neg h]

/-- The two tables agree but at the empty set. -/
theorem innr_congr {f f' : Int × Int → Int → Int × Int} {T T' : Nat → Int × Int} {zs : List Int} {n s : Nat} (h : ∀ k, k < n → s / p2 k % 2 = 1 → f (T (s - p2 k)) (nth zs k) = f' (T' (s - p2 k)) (nth zs k)) :
    ∀ k, k ≤ n → innr f T zs n s k = innr f' T' zs n s k
  | 0, _ => rfl
  | k + 1, hk => by
    have ih := innr_congr h k (by omega)
    by_cases hb : s / p2 k % 2 = 1
    · rw [innr_bit hb, innr_bit hb, ih, h k (by omega) hb]
    · rw [innr_no (by omega), innr_no (by omega), ih]
theorem innr_pos {T : Nat → Int × Int} {zs : List Int} {n s : Nat} {len : Int} (hT : ∀ j, 0 ≤ (T j).1) : ∀ k, 1 ≤ (innr (stpI len) T zs n s k).1
  | 0 => by simp only [innr]; omega
  | k + 1 => by
    have ih := innr_pos (zs := zs) (n := n) (s := s) (len := len) hT k
    by_cases hb : s / p2 k % 2 = 1
    · rw [innr_bit hb]
      have := hT (s - p2 k)
      unfold pickP
      split
      · unfold stpI
        split <;> simp only <;> omega
      · exact ih
    · rw [innr_no (by omega)]; exact ih
theorem tab_agree {zs : List Int} {n : Nat} {len : Int} (hl : 0 ≤ len) (hz : ∀ k, k < n → 1 ≤ nth zs k ∧ nth zs k ≤ len) :
    ∀ s j, 1 ≤ j → tab (stpS len) (0, len) zs n s j = tab (stpI len) (0, 0) zs n s j ∧ (j ≤ s → 1 ≤ (tab (stpI len) (0, 0) zs n s j).1)
  | 0, j, hj => by
    refine ⟨by simp [tab]; omega, fun h => by omega⟩
  | s + 1, j, hj => by
    have ih := tab_agree hl hz s
    have fI := fine_tab (f := stpI len) (b0 := (0, 0)) (zs := zs) (n := n) hl ⟨by simp, by simp; omega, by simp, by simpa using hl⟩ (fun c k hk h => fine_I h (hz k hk).1 (hz k hk).2)
    by_cases h : j = s + 1
    · subst h
      rw [tab, tab, upd_same, upd_same]
      refine ⟨innr_congr (fun k hk hb => ?_) n (Nat.le_refl _), fun _ => innr_pos (fun j => (fI s j).1) n⟩
      have hz1 := hz k hk
      have hle := p2_le_of_bit hb
      have hp := p2_pos k
      by_cases h0 : s + 1 - p2 k = 0
      · rw [h0]
        have e0 : ∀ s, tab (stpS len) (0, len) zs n s 0 = (0, len) := fun s => by
          induction s with
          | zero => rfl
          | succ s ih' => rw [tab, upd_other _ _ (by omega)]; exact ih'
        have e1 : ∀ s, tab (stpI len) (0, 0) zs n s 0 = (0, 0) := fun s => by
          induction s with
          | zero => rfl
          | succ s ih' => rw [tab, upd_other _ _ (by omega)]; exact ih'
        rw [e0, e1]
        unfold stpS stpI
        rw [if_pos (by simp only; omega), if_neg (by simp only; omega)]
      · obtain ⟨i1, i2⟩ := ih (s + 1 - p2 k) (by omega)
        rw [i1]
        have i3 := i2 (by omega)
        exact stp_eq i3 _
    · rw [tab, tab, upd_other _ _ h, upd_other _ _ h]
      exact ⟨(ih j hj).1, fun hjs => (ih j hj).2 (by omega)⟩

def fewS (zs : List Int) (len : Int) : Int := if okB zs len = true then (tab (stpS len) (0, len) zs zs.length (p2 zs.length - 1) (p2 zs.length - 1)).1 else -1
def fewI (zs : List Int) (len : Int) : Int := if okB zs len = true then (tab (stpI len) (0, 0) zs zs.length (p2 zs.length - 1) (p2 zs.length - 1)).1 else -1
theorem few_eq (zs : List Int) (len : Int) : fewS zs len = fewI zs len := by
  unfold fewS fewI
  split
  · rename_i h
    obtain ⟨b1, b2, b3⟩ := okB_out h
    by_cases h0 : p2 zs.length - 1 = 0
    · rw [h0]; simp [tab]
    · rw [(tab_agree (by omega) b3 _ _ (by omega)).1]
  · rfl
theorem fewS_t {zs : List Int} {len : Int} (h : okB zs len = true) : fewS zs len = (tab (stpS len) (0, len) zs zs.length (p2 zs.length - 1) (p2 zs.length - 1)).1 := by simp [fewS, h]
theorem fewS_f {zs : List Int} {len : Int} (h : okB zs len = false) : fewS zs len = -1 := by simp [fewS, h]
theorem fewI_t {zs : List Int} {len : Int} (h : okB zs len = true) : fewI zs len = (tab (stpI len) (0, 0) zs zs.length (p2 zs.length - 1) (p2 zs.length - 1)).1 := by simp [fewI, h]
theorem fewI_f {zs : List Int} {len : Int} (h : okB zs len = false) : fewI zs len = -1 := by simp [fewI, h]
end Go.Proofs.Ytplabaneihjcoaa
