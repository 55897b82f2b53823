/-
  Plain facts on points, stones and joints. A stone is a list of ints: x, y of each corner. No Go function is spoken of here.
-/
import Derived.Test.YtdjhiegolojoaaaOnly
namespace Go.Proofs.Ytdjhiegolojoaaa
open Go.RowKit

def ptB (x y : Int) : Bool := inB x (-60) 60 && inB y (-60) 60
theorem ptB_iff {x y : Int} : ptB x y = true ↔ (-60 ≤ x ∧ x ≤ 60) ∧ (-60 ≤ y ∧ y ≤ 60) := by simp [ptB, inB_iff]
/-- On which side of the way from a to b the point c is. -/
def sideI (ax ay bx b_y cx cy : Int) : Int := (bx - ax) * (cy - ay) - (b_y - ay) * (cx - ax)
theorem mul_bd {a b m n : Int} (ha : -m ≤ a ∧ a ≤ m) (hb : -n ≤ b ∧ b ≤ n) : -(m * n) ≤ a * b ∧ a * b ≤ m * n := by
  have h1 : (m - a) * (n - b) ≥ 0 := Int.mul_nonneg (by omega) (by omega)
  have h2 : (m + a) * (n + b) ≥ 0 := Int.mul_nonneg (by omega) (by omega)
  have h3 : (m - a) * (n + b) ≥ 0 := Int.mul_nonneg (by omega) (by omega)
  have h4 : (m + a) * (n - b) ≥ 0 := Int.mul_nonneg (by omega) (by omega)
  simp only [Int.sub_mul, Int.mul_sub, Int.add_mul, Int.mul_add] at h1 h2 h3 h4
  omega
theorem mul120 {a b : Int} (ha : -120 ≤ a ∧ a ≤ 120) (hb : -120 ≤ b ∧ b ≤ 120) : -14400 ≤ a * b ∧ a * b ≤ 14400 := by
  have := mul_bd (m := 120) (n := 120) ha hb
  omega
theorem sideI_bd {ax ay bx b_y cx cy : Int} (ha : ptB ax ay = true) (hb : ptB bx b_y = true) (hc : ptB cx cy = true) : -28800 ≤ sideI ax ay bx b_y cx cy ∧ sideI ax ay bx b_y cx cy ≤ 28800 := by
  rw [ptB_iff] at ha hb hc
  have h1 := mul120 (a := bx - ax) (b := cy - ay) (by omega) (by omega)
  have h2 := mul120 (a := b_y - ay) (b := cx - ax) (by omega) (by omega)
  unfold sideI
  omega
/-- Point k of a stone. -/
def ptA (zs : List Int) (k : Nat) : Bool := ptB (nth zs (k * 2)) (nth zs (k * 2 + 1))
def sd (zs : List Int) (i j k : Nat) : Int := sideI (nth zs (i * 2)) (nth zs (i * 2 + 1)) (nth zs (j * 2)) (nth zs (j * 2 + 1)) (nth zs (k * 2)) (nth zs (k * 2 + 1))
theorem sd_self (zs : List Int) (k : Nat) : sd zs 0 0 k = 0 := by simp [sd, sideI]
def ptsTo (zs : List Int) (k : Nat) : Prop := ∀ i, i < k → ptA zs i = true
theorem ptsTo_0 (zs : List Int) : ptsTo zs 0 := fun i hi => absurd hi (by omega)
theorem ptsTo_step {zs : List Int} {k : Nat} (h : ptsTo zs k) (e : ptA zs k = true) : ptsTo zs (k + 1) := by
  intro i hi
  by_cases hik : i = k
  · subst hik; exact e
  · exact h i (by omega)
/-- The turn at corner k, and the turn as seen from corner 0. -/
def turnB (zs : List Int) (n k : Nat) : Bool := decide (0 < sd zs k ((k + 1) % n) ((k + 2) % n)) && (if k + 1 < n then decide (0 ≤ sd zs 0 k (k + 1)) else true)
def turnTo (zs : List Int) (n k : Nat) : Prop := ∀ i, i < k → turnB zs n i = true
theorem turnTo_0 (zs : List Int) (n : Nat) : turnTo zs n 0 := fun i hi => absurd hi (by omega)
theorem turnTo_step {zs : List Int} {n k : Nat} (h : turnTo zs n k) (e : turnB zs n k = true) : turnTo zs n (k + 1) := by
  intro i hi
  by_cases hik : i = k
  · subst hik; exact e
  · exact h i (by omega)
def stoneB (zs : List Int) (n : Nat) : Bool := inB (n : Int) 3 6 && ((List.range n).all (ptA zs) && (List.range n).all (turnB zs n))
theorem stoneB_f1 {zs : List Int} {n : Nat} (h : inB (n : Int) 3 6 = false) : stoneB zs n = false := by simp [stoneB, h]
theorem stoneB_f2 {zs : List Int} {n k : Nat} (hk : k < n) (h : ptA zs k = false) : stoneB zs n = false := by
  have : (List.range n).all (ptA zs) = false := by
    rw [List.all_eq_false]
    exact ⟨k, by simpa using hk, by simp [h]⟩
  simp [stoneB, this]
theorem stoneB_f3 {zs : List Int} {n k : Nat} (hk : k < n) (h : turnB zs n k = false) : stoneB zs n = false := by
  have : (List.range n).all (turnB zs n) = false := by
    rw [List.all_eq_false]
    exact ⟨k, by simpa using hk, by simp [h]⟩
  simp [stoneB, this]
theorem stoneB_t {zs : List Int} {n : Nat} (h1 : inB (n : Int) 3 6 = true) (h2 : ptsTo zs n) (h3 : turnTo zs n n) : stoneB zs n = true := by
  have e2 : (List.range n).all (ptA zs) = true := by
    rw [List.all_eq_true]
    exact fun i hi => h2 i (by simpa using hi)
  have e3 : (List.range n).all (turnB zs n) = true := by
    rw [List.all_eq_true]
    exact fun i hi => h3 i (by simpa using hi)
  simp [stoneB, h1, e2, e3]
theorem stoneB_out {zs : List Int} {n : Nat} (h : stoneB zs n = true) : (3 ≤ n ∧ n ≤ 6) ∧ ptsTo zs n ∧ turnTo zs n n := by
  simp only [stoneB, Bool.and_eq_true, inB_iff, List.all_eq_true] at h
  exact ⟨by omega, fun i hi => h.2.1 i (by simpa using hi), fun i hi => h.2.2 i (by simpa using hi)⟩
theorem turnB_f1 {zs : List Int} {n k : Nat} (h : sd zs k ((k + 1) % n) ((k + 2) % n) ≤ 0) : turnB zs n k = false := by
  have : decide (0 < sd zs k ((k + 1) % n) ((k + 2) % n)) = false := decide_eq_false (by omega)
  simp [turnB, this]
theorem turnB_f2 {zs : List Int} {n k : Nat} (hk : k + 1 < n) (h : sd zs 0 k (k + 1) < 0) : turnB zs n k = false := by
  have : decide (0 ≤ sd zs 0 k (k + 1)) = false := decide_eq_false (by omega)
  simp [turnB, this, hk]
theorem turnB_t1 {zs : List Int} {n k : Nat} (h : 0 < sd zs k ((k + 1) % n) ((k + 2) % n)) (hk : ¬ k + 1 < n) : turnB zs n k = true := by
  simp [turnB, h, hk]
theorem turnB_t2 {zs : List Int} {n k : Nat} (h : 0 < sd zs k ((k + 1) % n) ((k + 2) % n)) (hk : k + 1 < n) (h2 : 0 ≤ sd zs 0 k (k + 1)) : turnB zs n k = true := by
  simp [turnB, h, hk, h2]
end Go.Proofs.Ytdjhiegolojoaaa
