/-
  Plain facts for the law FnBlocks: pieces that a draw gives can be cut; boxes of stones are not empty. No Go function is spoken of here.
-/
import Derived.Test.YtplabaneihjcoaaWDrawSizes
import Derived.Test.YtplabaneihjcoaaWNeeds
import Derived.Test.YtplabaneihjcoaaPFewLaw2
import Derived.Test.YtplabaneihjcoaaWWaste
import Derived.Test.YtplabaneihjcoaaWCut
import Derived.Test.YtplabaneihjcoaaWFits
namespace Go.Proofs.Ytplabaneihjcoaa
open Go.RowKit

theorem sumAt_to (zs : List Int) : ∀ k, sumAt zs (List.range k) = sumTo zs k
  | 0 => rfl
  | k + 1 => by rw [List.range_succ, sumAt_append, sumAt_to zs k]; simp [sumAt, sumTo]
theorem sumI_to (zs : List Int) : sumI zs = sumTo zs zs.length := sumAt_to zs _
theorem upTo_ok {L : List Int} {N : Int} (hN : 10 ≤ N ∧ N ≤ 29) (hl : L.length ≤ 8) (h : upTo L N L.length) : okB L N = true :=
  okB_t (inB_t (by omega)) (by omega) (fun j hj => inB_t (h j hj))
theorem upTo_sum {L : List Int} {N : Int} : ∀ k, upTo L N k → (k : Int) ≤ sumTo L k
  | 0, _ => by simp [sumTo]
  | k + 1, h => by
    have h1 := upTo_sum k (fun i hi => h i (by omega))
    have h2 := (h k (by omega)).1
    simp only [sumTo]
    omega
/-- All that the law says of the numbers. -/
theorem blocks_law {L : List Int} {N : Int} {m : Nat} (hN : 10 ≤ N ∧ N ≤ 29) (hl : L.length = m) (hm : m ≤ 8) (h : upTo L N m) :
    okB L N = true ∧ (0 ≤ fewI L N ∧ fewI L N ≤ (m : Int)) ∧ (fewI L N ≤ cutN L N ∧ cutN L N ≤ 2 * fewI L N) ∧ wasteL L N = fewI L N * N - sumTo L m ∧ 0 ≤ fewI L N * N - sumTo L m ∧ (0 < fewI L N ↔ 0 < m) ∧ fewI (L ++ [N]) N = fewI L N + 1 := by
  subst hl
  have ho := upTo_ok hN hm h
  have h1 := few_le ho
  have h2 := cut_few ho
  have h3 := few_ge ho
  rw [sumI_to] at h3
  refine ⟨ho, h1, h2, wasteL_t ho, by omega, ⟨fun hf => by omega, fun hf => ?_⟩, few_app ho (by omega)⟩
  have h4 := upTo_sum _ h
  by_cases hz : fewI L N = 0
  · rw [hz] at h3; omega
  · omega
/-- The box of a stone is not empty. -/
theorem bx_pos {L : List Int} (h : stoneB L 4 = true) (o : Nat) (ho : o < 2) : bxL L 4 o + 1 ≤ bxH L 4 o := by
  have ht := (stoneB_out h).2.2 0 (by decide)
  simp only [turnB, Bool.and_eq_true, decide_eq_true_eq] at ht
  have hs : 0 < sd L 0 1 2 := ht.1
  simp only [bxH, bxL, if_pos h]
  have h1 := mnTo_le L o 4
  have h2 := mxTo_ge L o 4
  have a0 := h1.2 0 (by decide); have a1 := h1.2 1 (by decide); have a2 := h1.2 2 (by decide)
  have b0 := h2.2 0 (by decide); have b1 := h2.2 1 (by decide); have b2 := h2.2 2 (by decide)
  by_cases hc : mnTo L o 4 + 1 ≤ mxTo L o 4
  · exact hc
  · exfalso
    match o, ho with
    | 0, _ =>
      have e1 : nth L (1 * 2) = nth L (0 * 2) := by simp only [Nat.add_zero] at *; omega
      have e2 : nth L (2 * 2) = nth L (0 * 2) := by simp only [Nat.add_zero] at *; omega
      simp only [sd, sideI, e1, e2, Int.sub_self, Int.zero_mul, Int.mul_zero] at hs
      omega
    | 1, _ =>
      have e1 : nth L (1 * 2 + 1) = nth L (0 * 2 + 1) := by omega
      have e2 : nth L (2 * 2 + 1) = nth L (0 * 2 + 1) := by omega
      simp only [sd, sideI, e1, e2, Int.sub_self, Int.zero_mul, Int.mul_zero] at hs
      omega
theorem fits_turn {a b : Int} (ha : 1 ≤ a ∧ a ≤ 120) (hb : 1 ≤ b ∧ b ≤ 120) : fitsB a b b a = true ∧ fitsB a b (a + b) 1 = false := by
  constructor
  · rw [fits_5 (inB_t (by omega)) (inB_t (by omega)) (inB_t (by omega)) (inB_t (by omega))]
    exact fits2_t (by omega)
  · by_cases h : a + b ≤ 200
    · rw [fits_5 (inB_t (by omega)) (inB_t (by omega)) (inB_t (by omega)) (inB_t (by omega))]
      exact fits2_f (by omega)
    · exact fits_3 (by simp [inB]; omega)
/-- Width and height of the k-th box. -/
theorem nd_bd {Z : List Int} {m k : Nat} (h : archB Z m = true) (hk : k + 1 < m) : (1 ≤ ndF Z (k * 2) ∧ ndF Z (k * 2) ≤ 120) ∧ (1 ≤ ndF Z (k * 2 + 1) ∧ ndF Z (k * 2 + 1) ≤ 120) := by
  have hs := nd_stone h hk
  have p0 := bx_pos hs 0 (by decide)
  have p1 := bx_pos hs 1 (by decide)
  have q0 := bx_in hs 0 (by decide)
  have q1 := bx_in hs 1 (by decide)
  rw [ndF_0, ndF_1]
  omega
end Go.Proofs.Ytplabaneihjcoaa
