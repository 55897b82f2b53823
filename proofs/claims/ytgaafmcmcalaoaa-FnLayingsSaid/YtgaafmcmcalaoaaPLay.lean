/-
  Plain facts on the order of laying with an index: no Go function is spoken of here.
-/
import Derived.Test.YtgaafmcmcalaoaaBase
import Derived.Laws.BitsAllLaws
import Derived.Laws.BitsLemmas
namespace Go.Proofs.Ytgaafmcmcalaoaa
open Go.RowKit

/-- The index halved k times. -/
def half (x : Nat) : Nat → Nat
  | 0 => x
  | k + 1 => half x k / 2
theorem half_le (x : Nat) : ∀ k, half x k ≤ x
  | 0 => Nat.le_refl _
  | k + 1 => by have := half_le x k; unfold half; omega
/-- How many of the first k stones were laid at the left. -/
def lo (x : Nat) : Nat → Nat
  | 0 => 0
  | k + 1 => lo x k + (if half x k % 2 = 0 then 1 else 0)
theorem lo_le (x : Nat) : ∀ k, lo x k ≤ k
  | 0 => Nat.le_refl _
  | k + 1 => by have := lo_le x k; unfold lo; split <;> omega
theorem lo_even {x k : Nat} (h : half x k % 2 = 0) : lo x (k + 1) = lo x k + 1 := by simp [lo, h]
theorem lo_odd {x k : Nat} (h : half x k % 2 = 1) : lo x (k + 1) = lo x k := by simp [lo, h]
/-- The number at the right end behind k stones, of m. -/
def hi (m x k : Nat) : Int := (m : Int) - 1 - (k - lo x k : Nat)
theorem hi_even {m x k : Nat} (h : half x k % 2 = 0) : hi m x (k + 1) = hi m x k := by
  have := lo_le x k
  unfold hi; rw [lo_even h]; omega
theorem hi_odd {m x k : Nat} (h : half x k % 2 = 1) : hi m x (k + 1) = hi m x k - 1 := by
  have := lo_le x k
  unfold hi; rw [lo_odd h]; omega
def outL (m x : Nat) : Nat → List Int
  | 0 => []
  | k + 1 => outL m x k ++ [if half x k % 2 = 0 then (lo x k : Int) else hi m x k]
theorem outL_even {m x k : Nat} (h : half x k % 2 = 0) : outL m x (k + 1) = outL m x k ++ [(lo x k : Int)] := by simp [outL, h]
theorem outL_odd {m x k : Nat} (h : half x k % 2 = 1) : outL m x (k + 1) = outL m x k ++ [hi m x k] := by simp [outL, h]
theorem outL_length (m x : Nat) : ∀ k, (outL m x k).length = k
  | 0 => rfl
  | k + 1 => by simp [outL, outL_length m x k]
theorem lo_lt_hi {m x k : Nat} (h : k + 1 < m) : (lo x k : Int) < hi m x k := by
  have := lo_le x k
  unfold hi; omega
theorem lo_ge_hi {m x k : Nat} (h : k + 1 = m) : ¬ (lo x k : Int) < hi m x k := by
  have := lo_le x k
  unfold hi; omega
theorem hi_bd {m x k : Nat} (h : k < m) : 0 ≤ hi m x k ∧ hi m x k ≤ m := by
  have := lo_le x k
  unfold hi; omega
/-- The order with an index. -/
def layL (n x : Int) : List Int := outL n.toNat x.toNat (n.toNat - 1) ++ [(lo x.toNat (n.toNat - 1) : Int)]
theorem layL_cast (m x : Nat) : layL (m : Int) (x : Int) = outL m x (m - 1) ++ [(lo x (m - 1) : Int)] := by simp [layL]
def layings (n : Int) : Int := if 1 ≤ n ∧ n ≤ 8 then wrap64 (2 ^ (n.toNat - 1)) else 0
theorem layings_t {n : Int} (h : 1 ≤ n ∧ n ≤ 8) : layings n = wrap64 (2 ^ (n.toNat - 1)) := by simp [layings, h]
theorem layings_f {n : Int} (h : ¬ (1 ≤ n ∧ n ≤ 8)) : layings n = 0 := by simp only [layings, if_neg h]
theorem layings_bd (n : Int) : 0 ≤ layings n ∧ layings n ≤ 128 := by
  by_cases h : 1 ≤ n ∧ n ≤ 8
  · rw [layings_t h]
    obtain ⟨h1, h2⟩ := h
    have : n = 1 ∨ n = 2 ∨ n = 3 ∨ n = 4 ∨ n = 5 ∨ n = 6 ∨ n = 7 ∨ n = 8 := by omega
    rcases this with rfl | rfl | rfl | rfl | rfl | rfl | rfl | rfl <;> simp [wrap64]
  · rw [layings_f h]; omega
/-- There is an order with an index. -/
def layOk (n x : Int) : Bool := inB n 1 8 && inB x 0 (layings n - 1)
theorem layOk_t {n x : Int} (h1 : inB n 1 8 = true) (h2 : inB x 0 (layings n - 1) = true) : layOk n x = true := by simp [layOk, h1, h2]
theorem layOk_f1 {n x : Int} (h1 : inB n 1 8 = false) : layOk n x = false := by simp [layOk, h1]
theorem layOk_f2 {n x : Int} (h2 : inB x 0 (layings n - 1) = false) : layOk n x = false := by simp [layOk, h2]
theorem inB_no {n x : Int} (h : inB n 1 8 = false) : inB x 0 (layings n - 1) = false := by
  rw [layings_f (inB_iff_f.1 h)]
  exact inB_f (by omega)
theorem ofInt64 (a : Nat) (ha : a < 9223372036854775808) : (BitVec.ofInt 64 (a : Int)).toNat = a := by
  rw [BitVec.ofInt_natCast, BitVec.toNat_ofNat]; exact Nat.mod_eq_of_lt (by omega)
theorem and_one (x : Nat) (h : x < 9223372036854775808) : bits .and .i64 (x : Int) 1 = ((x % 2 : Nat) : Int) := by
  show IntKind.i64.wrap ((BitVec.ofInt 64 (x : Int) &&& BitVec.ofInt 64 ((1 : Nat) : Int)).toNat : Int) = _
  rw [BitVec.toNat_and, ofInt64 x h, ofInt64 1 (by omega), Nat.and_one_is_mod, IntKind.wrap_i64]
  omega
end Go.Proofs.Ytgaafmcmcalaoaa
