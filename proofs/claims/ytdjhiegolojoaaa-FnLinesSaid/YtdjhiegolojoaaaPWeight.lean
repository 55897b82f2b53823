/-
  Plain facts: sums over the corners of a stone. No Go function is spoken of here.
-/
import Derived.Test.YtdjhiegolojoaaaPGeo
namespace Go.Proofs.Ytdjhiegolojoaaa

def crossI (ax ay bx b_y : Int) : Int := ax * b_y - ay * bx
theorem crossI_bd {ax ay bx b_y : Int} (ha : ptB ax ay = true) (hb : ptB bx b_y = true) : -7200 ≤ crossI ax ay bx b_y ∧ crossI ax ay bx b_y ≤ 7200 := by
  rw [ptB_iff] at ha hb
  have h1 := mul_bd (m := 60) (n := 60) (a := ax) (b := b_y) (by omega) (by omega)
  have h2 := mul_bd (m := 60) (n := 60) (a := ay) (b := bx) (by omega) (by omega)
  unfold crossI
  omega
/-- A factor of two points. -/
abbrev Fac := Int → Int → Int → Int → Int
def FacOk (F : Fac) : Prop := ∀ ax ay bx b_y, ptB ax ay = true → ptB bx b_y = true → -120 ≤ F ax ay bx b_y ∧ F ax ay bx b_y ≤ 120
def facOne : Fac := fun _ _ _ _ => 1
def facX : Fac := fun ax _ bx _ => ax + bx
theorem facOne_ok : FacOk facOne := fun _ _ _ _ _ _ => by simp [facOne]
theorem facX_ok : FacOk facX := fun ax ay bx b_y ha hb => by rw [ptB_iff] at ha hb; unfold facX; omega
/-- The part of two corners. -/
def part (F : Fac) (zs : List Int) (i j : Nat) : Int := F (nth zs (i * 2)) (nth zs (i * 2 + 1)) (nth zs (j * 2)) (nth zs (j * 2 + 1)) * crossI (nth zs (i * 2)) (nth zs (i * 2 + 1)) (nth zs (j * 2)) (nth zs (j * 2 + 1))
theorem part_bd {F : Fac} (hF : FacOk F) {zs : List Int} {i j : Nat} (hi : ptA zs i = true) (hj : ptA zs j = true) : -864000 ≤ part F zs i j ∧ part F zs i j ≤ 864000 := by
  unfold ptA at hi hj
  have h1 := hF _ _ _ _ hi hj
  have h2 := crossI_bd hi hj
  have := mul_bd (m := 120) (n := 7200) h1 h2
  unfold part
  omega
/-- The sum of the parts of the first k corners. -/
def overTo (F : Fac) (zs : List Int) (n : Nat) : Nat → Int
  | 0 => 0
  | k + 1 => overTo F zs n k + part F zs k ((k + 1) % n)
theorem overTo_bd {F : Fac} (hF : FacOk F) {zs : List Int} {n : Nat} (hp : ptsTo zs n) : ∀ k, k ≤ n → -(864000 * (k : Int)) ≤ overTo F zs n k ∧ overTo F zs n k ≤ 864000 * (k : Int)
  | 0, _ => by simp [overTo]
  | k + 1, hk => by
    have ih := overTo_bd hF hp k (by omega)
    have h := part_bd hF (hp k (by omega)) (hp ((k + 1) % n) (Nat.mod_lt _ (by omega)))
    simp only [overTo]
    omega
def overI (F : Fac) (zs : List Int) (n : Nat) : Int := if stoneB zs n = true then overTo F zs n n else 0
theorem overI_t {F : Fac} {zs : List Int} {n : Nat} (h : stoneB zs n = true) : overI F zs n = overTo F zs n n := by simp [overI, h]
theorem overI_f {F : Fac} {zs : List Int} {n : Nat} (h : stoneB zs n = false) : overI F zs n = 0 := by simp [overI, h]
theorem overI_bd {F : Fac} (hF : FacOk F) (zs : List Int) (n : Nat) : -5184000 ≤ overI F zs n ∧ overI F zs n ≤ 5184000 := by
  cases h : stoneB zs n
  · rw [overI_f h]; omega
  · have ho := stoneB_out h
    rw [overI_t h]
    have := overTo_bd hF ho.2.1 n (Nat.le_refl _)
    have := ho.1
    omega
def weightI (zs : List Int) (n : Nat) : Int := 3 * overI facOne zs n
theorem part_one (zs : List Int) (i j : Nat) : part facOne zs i j = crossI (nth zs (i * 2)) (nth zs (i * 2 + 1)) (nth zs (j * 2)) (nth zs (j * 2 + 1)) := by simp [part, facOne]
/-- Twice the area, by the crosses alone: a smaller bound. -/
theorem areaTo_bd {zs : List Int} {n : Nat} (hp : ptsTo zs n) : ∀ k, k ≤ n → -(7200 * (k : Int)) ≤ overTo facOne zs n k ∧ overTo facOne zs n k ≤ 7200 * (k : Int)
  | 0, _ => by simp [overTo]
  | k + 1, hk => by
    have ih := areaTo_bd hp k (by omega)
    have h1 := hp k (by omega)
    have h2 := hp ((k + 1) % n) (Nat.mod_lt _ (by omega))
    unfold ptA at h1 h2
    have h := crossI_bd h1 h2
    simp only [overTo, part_one]
    omega
theorem weightI_bd (zs : List Int) (n : Nat) : -129600 ≤ weightI zs n ∧ weightI zs n ≤ 129600 := by
  unfold weightI
  cases h : stoneB zs n
  · rw [overI_f h]; omega
  · have ho := stoneB_out h
    rw [overI_t h]
    have := areaTo_bd ho.2.1 n (Nat.le_refl _)
    have := ho.1
    omega
end Go.Proofs.Ytdjhiegolojoaaa
