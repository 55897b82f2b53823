/-
  Plain facts: a straight line through all joints, as the program and as the reference look for one. No Go function is spoken of here.
-/
import Derived.Test.YtdkdjjdedogcbaaPGeo
import Derived.Test.YtdkdjjdedogcbaaPAll
namespace Go.Proofs.Ytdkdjjdedogcbaa

/-- Corner q of the joints, flattened: 2 m is the inner end of joint m, 2 m + 1 the outer one. -/
def pX (zs : List Int) (q : Nat) : Int := nth zs (q * 2)
def pY (zs : List Int) (q : Nat) : Int := nth zs (q * 2 + 1)
theorem sd_eq (zs : List Int) (i j k : Nat) : sd zs i j k = (pX zs j - pX zs i) * (pY zs k - pY zs i) - (pY zs j - pY zs i) * (pX zs k - pX zs i) := rfl
/-- From an outer end to an inner one. -/
def dX (zs : List Int) (i o : Nat) : Int := pX zs (2 * i) - pX zs (2 * o + 1)
def dY (zs : List Int) (i o : Nat) : Int := pY zs (2 * i) - pY zs (2 * o + 1)

/-- What the program asks of all pairs. -/
def StrI (zs : List Int) (n : Nat) : Prop :=
  (∀ i o, i < n → o < n → dX zs i o = 0 → dY zs i o ≤ 0) ∧
  (∀ i o i' o', i < n → o < n → i' < n → o' < n → 0 < dX zs i o → dX zs i' o' < 0 → dY zs i o * (-dX zs i' o') ≤ (-dY zs i' o') * dX zs i o)
/-- The line from corner u to corner v passes all joints. -/
def LineOk (zs : List Int) (n u v : Nat) : Prop := pX zs u < pX zs v ∧ ∀ m, m < n → sd zs u v (2 * m) ≤ 0 ∧ 0 ≤ sd zs u v (2 * m + 1)
def StrS (zs : List Int) (n : Nat) : Prop := ∃ u v, u < 2 * n ∧ v < 2 * n ∧ LineOk zs n u v

theorem strI_of_strS {zs : List Int} {n : Nat} (h : StrS zs n) : StrI zs n := by
  obtain ⟨u, v, _, _, hx, hl⟩ := h
  have key : ∀ i o, i < n → o < n → (pX zs v - pX zs u) * dY zs i o ≤ (pY zs v - pY zs u) * dX zs i o := by
    intro i o hi ho
    have h1 := (hl i hi).1
    have h2 := (hl o ho).2
    rw [sd_eq] at h1 h2
    unfold dX dY
    grind
  have hD : 0 < pX zs v - pX zs u := by omega
  generalize pX zs v - pX zs u = D at *
  generalize pY zs v - pY zs u = G at *
  refine ⟨fun i o hi ho e => ?_, fun i o i' o' hi ho hi' ho' h1 h2 => ?_⟩
  · have := key i o hi ho
    rw [e, Int.mul_zero] at this
    exact Int.nonpos_of_mul_nonpos_right this hD
  · have k1 := key i o hi ho
    have k2 := key i' o' hi' ho'
    generalize dX zs i o = a at *
    generalize dY zs i o = b at *
    generalize dX zs i' o' = c at *
    generalize dY zs i' o' = d at *
    -- D b ≤ G a, D d ≤ G c, a > 0 > c: D b (-c) ≤ G a (-c) and D (-d) a ≥ G (-c) a
    have m1 : (D * b) * (-c) ≤ (G * a) * (-c) := Int.mul_le_mul_of_nonneg_right k1 (by omega)
    have m2 : (D * d) * a ≤ (G * c) * a := Int.mul_le_mul_of_nonneg_right k2 (by omega)
    have m3 : D * (b * (-c)) ≤ D * ((-d) * a) := by grind
    exact Int.le_of_mul_le_mul_left m3 hD

/-- A pair of ends whose line passes: nothing rises faster on the one side. -/
theorem line_low {zs : List Int} {n i0 o0 : Nat} (hi0 : i0 < n) (ho0 : o0 < n) (h0 : 0 < dX zs i0 o0) (hc : ∀ i o, i < n → o < n → dY zs i o * dX zs i0 o0 ≤ dY zs i0 o0 * dX zs i o) : StrS zs n := by
  refine ⟨2 * o0 + 1, 2 * i0, by omega, by omega, by unfold dX at h0; omega, fun m hm => ⟨?_, ?_⟩⟩
  · have := hc m o0 hm ho0
    rw [sd_eq]
    unfold dX dY at this
    grind
  · have := hc i0 m hi0 hm
    rw [sd_eq]
    unfold dX dY at this
    grind
theorem line_high {zs : List Int} {n i0 o0 : Nat} (hi0 : i0 < n) (ho0 : o0 < n) (h0 : dX zs i0 o0 < 0) (hc : ∀ i o, i < n → o < n → dY zs i o * (-dX zs i0 o0) ≤ (-dY zs i0 o0) * dX zs i o) : StrS zs n := by
  refine ⟨2 * i0, 2 * o0 + 1, by omega, by omega, by unfold dX at h0; omega, fun m hm => ⟨?_, ?_⟩⟩
  · have := hc m o0 hm ho0
    rw [sd_eq]
    unfold dX dY at this
    grind
  · have := hc i0 m hi0 hm
    rw [sd_eq]
    unfold dX dY at this
    grind

/-- Among finitely many slopes (positive denominators) one is the greatest. -/
theorem greatest {α : Type} (num den : α → Int) : ∀ L : List α, L ≠ [] → (∀ x ∈ L, 0 < den x) → ∃ m ∈ L, ∀ x ∈ L, num x * den m ≤ num m * den x
  | [], h, _ => absurd rfl h
  | [a], _, _ => ⟨a, by simp, fun x hx => by simp at hx; subst hx; exact Int.le_refl _⟩
  | a :: b :: L, _, hd => by
    obtain ⟨m, hm, hmx⟩ := greatest num den (b :: L) (by simp) (fun x hx => hd x (by simp [hx]))
    have dm := hd m (by simp [hm])
    have da := hd a (by simp)
    by_cases h : num a * den m ≤ num m * den a
    · refine ⟨m, by simp [hm], fun x hx => ?_⟩
      rcases List.mem_cons.1 hx with rfl | hx
      · exact h
      · exact hmx x hx
    · refine ⟨a, by simp, fun x hx => ?_⟩
      rcases List.mem_cons.1 hx with rfl | hx
      · exact Int.le_refl _
      · have h1 := hmx x hx
        have dx := hd x (by simp [hx])
        have h2 : num m * den a ≤ num a * den m := by omega
        have m1 : num x * den m * den a ≤ num m * den x * den a := Int.mul_le_mul_of_nonneg_right h1 (by omega)
        have m2 : num m * den a * den x ≤ num a * den m * den x := Int.mul_le_mul_of_nonneg_right h2 (by omega)
        have m3 : den m * (num x * den a) ≤ den m * (num a * den x) := by grind
        exact Int.le_of_mul_le_mul_left m3 dm

def pairs (n : Nat) : List (Nat × Nat) := (List.range n).flatMap fun i => (List.range n).map fun o => (i, o)
theorem mem_pairs {n : Nat} {p : Nat × Nat} : p ∈ pairs n ↔ p.1 < n ∧ p.2 < n := by
  obtain ⟨a, b⟩ := p
  simp [pairs]

theorem strS_of_strI {zs : List Int} {n : Nat} (hn : 2 ≤ n) (hx : pX zs 0 < pX zs 2) (h : StrI zs n) : StrS zs n := by
  by_cases hl : ∃ p ∈ pairs n, 0 < dX zs p.1 p.2
  · obtain ⟨m, hm, hmx⟩ := greatest (fun p : Nat × Nat => dY zs p.1 p.2) (fun p => dX zs p.1 p.2) ((pairs n).filter fun p => decide (0 < dX zs p.1 p.2)) (by
        obtain ⟨p, hp, hp2⟩ := hl
        exact List.ne_nil_of_mem (List.mem_filter.2 ⟨hp, by simpa using hp2⟩)) (fun x hx => by have := (List.mem_filter.1 hx).2; simpa using this)
    obtain ⟨hm1, hm2⟩ := List.mem_filter.1 hm
    have hm3 := mem_pairs.1 hm1
    have hm4 : 0 < dX zs m.1 m.2 := by simpa using hm2
    refine line_low hm3.1 hm3.2 hm4 fun i o hi ho => ?_
    by_cases hp : 0 < dX zs i o
    · exact hmx (i, o) (List.mem_filter.2 ⟨mem_pairs.2 ⟨hi, ho⟩, by simpa using hp⟩)
    · by_cases hz : dX zs i o = 0
      · have h0 := h.1 i o hi ho hz
        have : dY zs i o * dX zs m.1 m.2 ≤ 0 := Int.mul_nonpos_of_nonpos_of_nonneg h0 (by omega)
        rw [hz, Int.mul_zero]
        exact this
      · have := h.2 m.1 m.2 i o hm3.1 hm3.2 hi ho hm4 (by omega)
        grind
  · by_cases hh : ∃ p ∈ pairs n, dX zs p.1 p.2 < 0
    · obtain ⟨m, hm, hmx⟩ := greatest (fun p : Nat × Nat => dY zs p.1 p.2) (fun p => -dX zs p.1 p.2) ((pairs n).filter fun p => decide (dX zs p.1 p.2 < 0)) (by
          obtain ⟨p, hp, hp2⟩ := hh
          exact List.ne_nil_of_mem (List.mem_filter.2 ⟨hp, by simpa using hp2⟩)) (fun x hx => by have := (List.mem_filter.1 hx).2; simp at this; omega)
      obtain ⟨hm1, hm2⟩ := List.mem_filter.1 hm
      have hm3 := mem_pairs.1 hm1
      have hm4 : dX zs m.1 m.2 < 0 := by simpa using hm2
      refine line_high hm3.1 hm3.2 hm4 fun i o hi ho => ?_
      by_cases hz : dX zs i o = 0
      · have h0 := h.1 i o hi ho hz
        have : dY zs i o * (-dX zs m.1 m.2) ≤ 0 := Int.mul_nonpos_of_nonpos_of_nonneg h0 (by omega)
        rw [hz, Int.mul_zero]
        exact this
      · have hneg : dX zs i o < 0 := by
          have : ¬ 0 < dX zs i o := fun hp => hl ⟨(i, o), mem_pairs.2 ⟨hi, ho⟩, hp⟩
          omega
        have := hmx (i, o) (List.mem_filter.2 ⟨mem_pairs.2 ⟨hi, ho⟩, by simpa using hneg⟩)
        simp only at this
        grind
    · have e0 : dX zs 0 0 = 0 := by
        have h1 : ¬ 0 < dX zs 0 0 := fun hp => hl ⟨(0, 0), mem_pairs.2 ⟨by omega, by omega⟩, hp⟩
        have h2 : ¬ dX zs 0 0 < 0 := fun hp => hh ⟨(0, 0), mem_pairs.2 ⟨by omega, by omega⟩, hp⟩
        omega
      have e1 : dX zs 1 0 = 0 := by
        have h1 : ¬ 0 < dX zs 1 0 := fun hp => hl ⟨(1, 0), mem_pairs.2 ⟨by omega, by omega⟩, hp⟩
        have h2 : ¬ dX zs 1 0 < 0 := fun hp => hh ⟨(1, 0), mem_pairs.2 ⟨by omega, by omega⟩, hp⟩
        omega
      unfold dX at e0 e1
      simp at e0 e1
      omega
end Go.Proofs.Ytdkdjjdedogcbaa
