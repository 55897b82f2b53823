/-
  Plain facts on cutting pieces in order: no Go function is spoken of here.
-/
import Derived.Test.YtplabaneihjcoaaBase
namespace Go.Proofs.Ytplabaneihjcoaa

/-- Pieces and a length of blocks are valid. -/
def okB (zs : List Int) (len : Int) : Bool := inB len 1 1000 && (decide (zs.length ≤ 10) && zs.all (fun z => inB z 1 len))
def allOk (zs : List Int) (len : Int) (k : Nat) : Prop := ∀ j, j < k → inB (nth zs j) 1 len = true
theorem allOk_0 (zs : List Int) (len : Int) : allOk zs len 0 := fun j hj => absurd hj (by omega)
theorem allOk_step {zs : List Int} {len : Int} {k : Nat} (h : allOk zs len k) (e : inB (nth zs k) 1 len = true) : allOk zs len (k + 1) := by
  intro j hj
  by_cases hjk : j = k
  · subst hjk; exact e
  · exact h j (by omega)
theorem all_of_allOk {zs : List Int} {len : Int} (h : allOk zs len zs.length) : zs.all (fun z => inB z 1 len) = true := by
  rw [List.all_eq_true]
  intro z hz
  obtain ⟨k, hk, rfl⟩ := List.getElem_of_mem hz
  rw [← nth_get zs k hk]
  exact h k hk
theorem okB_t {zs : List Int} {len : Int} (h1 : inB len 1 1000 = true) (h2 : zs.length ≤ 10) (h3 : allOk zs len zs.length) : okB zs len = true := by
  simp only [okB, h1, decide_eq_true h2, all_of_allOk h3, Bool.and_self]
theorem okB_f1 {zs : List Int} {len : Int} (h1 : inB len 1 1000 = false) : okB zs len = false := by simp [okB, h1]
theorem okB_f2 {zs : List Int} {len : Int} (h2 : 10 < zs.length) : okB zs len = false := by
  have : decide (zs.length ≤ 10) = false := decide_eq_false (by omega)
  simp [okB, this]
theorem okB_f3 {zs : List Int} {len : Int} {k : Nat} (hk : k < zs.length) (h : inB (nth zs k) 1 len = false) : okB zs len = false := by
  have : zs.all (fun z => inB z 1 len) = false := by
    rw [List.all_eq_false]
    exact ⟨zs[k], List.getElem_mem hk, by rw [← nth_get zs k hk, h]; simp⟩
  simp [okB, this]
theorem okB_out {zs : List Int} {len : Int} (h : okB zs len = true) : (1 ≤ len ∧ len ≤ 1000) ∧ zs.length ≤ 10 ∧ ∀ k, k < zs.length → 1 ≤ nth zs k ∧ nth zs k ≤ len := by
  simp only [okB, Bool.and_eq_true, decide_eq_true_eq, List.all_eq_true, inB_iff] at h
  refine ⟨h.1, h.2.1, fun k hk => ?_⟩
  rw [nth_get zs k hk]
  exact h.2.2 _ (List.getElem_mem hk)

/-- The first j rooms are all too small. -/
def lowTo (rm : List Int) (z : Int) (j : Nat) : Prop := ∀ i, i < j → nth rm i < z
theorem lowTo_0 (rm : List Int) (z : Int) : lowTo rm z 0 := fun i hi => absurd hi (by omega)
theorem lowTo_step {rm : List Int} {z : Int} {j : Nat} (h : lowTo rm z j) (e : nth rm j < z) : lowTo rm z (j + 1) := by
  intro i hi
  by_cases hij : i = j
  · subst hij; exact e
  · exact h i (by omega)
/-- The first block with room for a piece; one behind the last if there is none. -/
def fit (rm : List Int) (z : Int) : Nat := rm.findIdx (fun r => decide (z ≤ r))
theorem fit_eq {rm : List Int} {z : Int} {j : Nat} (h : lowTo rm z j) (hj : j ≤ rm.length) (he : j < rm.length → z ≤ nth rm j) : fit rm z = j := by
  unfold fit
  by_cases hlt : j < rm.length
  · refine (List.findIdx_eq hlt).2 ⟨?_, fun i hi => ?_⟩
    · have := he hlt
      rw [nth_get rm j hlt] at this
      simpa using this
    · have := h i hi
      rw [nth_get rm i (by omega)] at this
      simpa using this
  · have : j = rm.length := by omega
    subst this
    refine List.findIdx_eq_length_of_false (fun x hx => ?_)
    obtain ⟨i, hi, rfl⟩ := List.getElem_of_mem hx
    have := h i hi
    rw [nth_get rm i hi] at this
    simpa using this
/-- One piece is cut. -/
def cutStep (len : Int) (rm : List Int) (z : Int) : List Int :=
  if fit rm z < rm.length then rm.set (fit rm z) (nth rm (fit rm z) - z) else rm ++ [len - z]
def cutRoom (len : Int) (zs : List Int) : Nat → List Int
  | 0 => []
  | k + 1 => cutStep len (cutRoom len zs k) (nth zs k)
def cutN (zs : List Int) (len : Int) : Int := if okB zs len = true then (cutRoom len zs zs.length).length else -1
theorem cutN_t {zs : List Int} {len : Int} (h : okB zs len = true) : cutN zs len = (cutRoom len zs zs.length).length := by simp [cutN, h]
theorem cutN_f {zs : List Int} {len : Int} (h : okB zs len = false) : cutN zs len = -1 := by simp [cutN, h]
theorem cutStep_in {len z : Int} {rm : List Int} {j : Nat} (h : fit rm z = j) (hj : j < rm.length) : cutStep len rm z = rm.set j (nth rm j - z) := by
  subst h; simp [cutStep, hj]
theorem cutStep_new {len z : Int} {rm : List Int} (h : fit rm z = rm.length) : cutStep len rm z = rm ++ [len - z] := by
  simp [cutStep, h]
theorem nth_mem {rm : List Int} {j : Nat} (hj : j < rm.length) : nth rm j ∈ rm := by rw [nth_get rm j hj]; exact List.getElem_mem hj
theorem cutRoom_bd {zs : List Int} {len : Int} (h : okB zs len = true) : ∀ k, k ≤ zs.length → (cutRoom len zs k).length ≤ k ∧ ∀ r ∈ cutRoom len zs k, 0 ≤ r ∧ r ≤ 1000
  | 0, _ => ⟨Nat.le_refl _, fun r hr => by cases hr⟩
  | k + 1, hk => by
    obtain ⟨h1, h2⟩ := cutRoom_bd h k (by omega)
    obtain ⟨b1, _, b3⟩ := okB_out h
    have bz := b3 k (by omega)
    unfold cutRoom cutStep
    split
    · rename_i hlt
      refine ⟨by rw [List.length_set]; omega, fun r hr => ?_⟩
      rcases List.mem_or_eq_of_mem_set hr with hr | hr
      · exact h2 r hr
      · have hm := h2 _ (nth_mem hlt)
        have hge : nth zs k ≤ nth (cutRoom len zs k) (fit (cutRoom len zs k) (nth zs k)) := by
          have := List.findIdx_getElem (p := fun r => decide (nth zs k ≤ r)) (xs := cutRoom len zs k) (w := hlt)
          rw [nth_get _ _ hlt]
          exact of_decide_eq_true this
        omega
    · refine ⟨by simp; omega, fun r hr => ?_⟩
      rcases List.mem_append.1 hr with hr | hr
      · exact h2 r hr
      · simp at hr; omega
end Go.Proofs.Ytplabaneihjcoaa
