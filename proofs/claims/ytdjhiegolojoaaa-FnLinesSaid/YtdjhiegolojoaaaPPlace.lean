/-
  Plain facts: moments of a push about the points of a joint, and the place where it passes. No Go function is spoken of here.
-/
import Derived.Test.YtdjhiegolojoaaaPLeft
import Derived.Test.YtdjhiegolojoaaaPGcd
namespace Go.Proofs.Ytdjhiegolojoaaa
open Go.RowKit

/-- The moment about a point of a push with everything left of the joint. -/
def momI (H V M D W Mo px py : Int) : Int := M - D * Mo - px * (V - D * W) + py * H
/-- What the parts of such a moment are bounded by. -/
structure MomBd (H V M D W Mo px py : Int) : Prop where
  m : -10000000000000 ≤ M ∧ M ≤ 10000000000000
  v : -10000000000000 ≤ V ∧ V ≤ 10000000000000
  dm : -80000000000000 ≤ D * Mo ∧ D * Mo ≤ 80000000000000
  dw : -2000000000000 ≤ D * W ∧ D * W ≤ 2000000000000
  px : -720000000000000 ≤ px * (V - D * W) ∧ px * (V - D * W) ≤ 720000000000000
  py : -60000000000000 ≤ py * H ∧ py * H ≤ 60000000000000
theorem momBd {H V M D W Mo px py : Int} (ht : thrB H V M D = true) (hW : -2000000 ≤ W ∧ W ≤ 2000000) (hM : -80000000 ≤ Mo ∧ Mo ≤ 80000000) (hp : ptB px py = true) : MomBd H V M D W Mo px py := by
  obtain ⟨h1, h2, h3, h4, _⟩ := thrB_out ht
  rw [ptB_iff] at hp
  have e1 := mul_bd (a := D) (b := Mo) (m := 1000000) (n := 80000000) (by omega) hM
  have e2 := mul_bd (a := D) (b := W) (m := 1000000) (n := 2000000) (by omega) hW
  have e3 := mul_bd (a := px) (b := V - D * W) (m := 60) (n := 12000000000000) (by omega) (by omega)
  have e4 := mul_bd (a := py) (b := H) (m := 60) (n := 1000000000000) (by omega) (by omega)
  exact ⟨h4, h3, by omega, by omega, by omega, by omega⟩
/-- Within what the places are reckoned. -/
def okM (x : Int) : Prop := -1000000000000000 ≤ x ∧ x ≤ 1000000000000000
theorem momI_ok {H V M D W Mo px py : Int} (h : MomBd H V M D W Mo px py) : okM (momI H V M D W Mo px py) := by
  obtain ⟨h1, h2, h3, h4, h5, h6⟩ := h
  unfold okM momI
  omega
theorem okM_G {x : Int} (h : okM x) : okG x := by unfold okM at h; unfold okG; omega
theorem okM_neg {x : Int} (h : okM x) : okG (-x) ∧ IntKind.i64.wrap (-x) = -x := by
  unfold okM at h
  exact ⟨by unfold okG; omega, IntWalk.i64_in _ (by omega)⟩
theorem okM_sub {x y : Int} (hx : okM x) (hy : okM y) : okG (y - x) ∧ IntKind.i64.wrap (y - x) = y - x := by
  unfold okM at hx hy
  exact ⟨by unfold okG; omega, IntWalk.i64_in _ (by omega)⟩

/-- Everything is valid, and there is a joint. -/
def pushB (zs : List Int) (n : Nat) (ls : List Int) (q : Nat) (H V M D k : Int) : Bool := loadsB zs n ls q && (thrB H V M D && inB k 0 ((n : Int) - 1))
section
variable {zs : List Int} {n : Nat} {ls : List Int} {q : Nat} {H V M D k : Int}
theorem pushB_1 (H V M D k : Int) (h : loadsB zs n ls q = false) : pushB zs n ls q H V M D k = false := by simp [pushB, h]
theorem pushB_2 (zs : List Int) (n : Nat) (ls : List Int) (q : Nat) (k : Int) (h : thrB H V M D = false) : pushB zs n ls q H V M D k = false := by simp [pushB, h]
theorem pushB_3 (zs ls : List Int) (q : Nat) (H V M D : Int) (h : inB k 0 ((n : Int) - 1) = false) : pushB zs n ls q H V M D k = false := by simp [pushB, h]
theorem pushB_t (h1 : loadsB zs n ls q = true) (h2 : thrB H V M D = true) (h3 : inB k 0 ((n : Int) - 1) = true) : pushB zs n ls q H V M D k = true := by simp [pushB, h1, h2, h3]
theorem pushB_out (h : pushB zs n ls q H V M D k = true) : loadsB zs n ls q = true ∧ thrB H V M D = true ∧ 0 ≤ k ∧ k ≤ (n : Int) - 1 := by
  simp only [pushB, Bool.and_eq_true, inB_iff] at h
  exact ⟨h.1, h.2.1, h.2.2.1, h.2.2.2⟩
end
/-- The moments at joint k about its inner and its outer point. -/
def mIn (zs : List Int) (n : Nat) (ls : List Int) (q : Nat) (H V M D k : Int) : Int :=
  if pushB zs n ls q H V M D k = true then momI H V M D (leftW zs ls q k.toNat) (leftM zs ls q k.toNat) (nth zs (k.toNat * 4)) (nth zs (k.toNat * 4 + 1)) else 0
def mOut (zs : List Int) (n : Nat) (ls : List Int) (q : Nat) (H V M D k : Int) : Int :=
  if pushB zs n ls q H V M D k = true then momI H V M D (leftW zs ls q k.toNat) (leftM zs ls q k.toNat) (nth zs (k.toNat * 4 + 2)) (nth zs (k.toNat * 4 + 3)) else 0
section
variable {zs : List Int} {n : Nat} {ls : List Int} {q : Nat} {H V M D k : Int}
theorem m_f (h : pushB zs n ls q H V M D k = false) : mIn zs n ls q H V M D k = 0 ∧ mOut zs n ls q H V M D k = 0 := by simp [mIn, mOut, h]
theorem m_t {K : Nat} (h : pushB zs n ls q H V M D (K : Int) = true) : mIn zs n ls q H V M D (K : Int) = momI H V M D (leftW zs ls q K) (leftM zs ls q K) (nth zs (K * 4)) (nth zs (K * 4 + 1)) ∧
    mOut zs n ls q H V M D (K : Int) = momI H V M D (leftW zs ls q K) (leftM zs ls q K) (nth zs (K * 4 + 2)) (nth zs (K * 4 + 3)) := by simp [mIn, mOut, h]
end
theorem archB_ptsP {zs : List Int} {n : Nat} (h : archB zs n = true) : ∀ m, m < n → ptB (nth zs (m * 4)) (nth zs (m * 4 + 1)) = true ∧ ptB (nth zs (m * 4 + 2)) (nth zs (m * 4 + 3)) = true := by
  obtain ⟨hn, hp⟩ := archB_out h
  intro m hm
  by_cases e : m + 1 < n
  · have h1 := hp m (by omega)
    simp only [pairB, Bool.and_eq_true] at h1
    have h2 := (stoneB_out h1.1).2.1
    exact ⟨h2 0 (by omega), h2 3 (by omega)⟩
  · obtain ⟨k, rfl⟩ : ∃ k, m = k + 1 := ⟨m - 1, by omega⟩
    have h1 := hp k (by omega)
    simp only [pairB, Bool.and_eq_true] at h1
    have h2 := (stoneB_out h1.1).2.1
    exact ⟨h2 1 (by omega), h2 2 (by omega)⟩
theorem left_bds {zs : List Int} {n : Nat} {ls : List Int} {q K : Nat} (h : loadsB zs n ls q = true) (hK : K < n) : (-2000000 ≤ leftW zs ls q K ∧ leftW zs ls q K ≤ 2000000) ∧ (-80000000 ≤ leftM zs ls q K ∧ leftM zs ls q K ≤ 80000000) := by
  obtain ⟨hA, hq, hl⟩ := loadsB_out h
  have hn := (archB_out hA).1
  have h1 := leftW_bd zs hl hq K
  have h2 := leftM_bd zs hl hq K
  omega
theorem m_bds {zs : List Int} {n : Nat} {ls : List Int} {q K : Nat} {H V M D : Int} (h : pushB zs n ls q H V M D (K : Int) = true) :
    MomBd H V M D (leftW zs ls q K) (leftM zs ls q K) (nth zs (K * 4)) (nth zs (K * 4 + 1)) ∧ MomBd H V M D (leftW zs ls q K) (leftM zs ls q K) (nth zs (K * 4 + 2)) (nth zs (K * 4 + 3)) := by
  obtain ⟨h1, h2, h3, h4⟩ := pushB_out h
  have hb := left_bds h1 (K := K) (by omega)
  have hp := archB_ptsP (loadsB_out h1).1 K (by omega)
  exact ⟨momBd h2 hb.1 hb.2 hp.1, momBd h2 hb.1 hb.2 hp.2⟩
theorem m_ok (zs : List Int) (n : Nat) (ls : List Int) (q : Nat) (H V M D k : Int) : okM (mIn zs n ls q H V M D k) ∧ okM (mOut zs n ls q H V M D k) := by
  cases h : pushB zs n ls q H V M D k
  · rw [(m_f h).1, (m_f h).2]
    unfold okM
    omega
  · obtain ⟨h1, h2, h3, h4⟩ := pushB_out h
    obtain ⟨K, rfl⟩ : ∃ K : Nat, k = (K : Int) := ⟨k.toNat, by omega⟩
    rw [(m_t h).1, (m_t h).2]
    exact ⟨momI_ok (m_bds h).1, momI_ok (m_bds h).2⟩
/-- The push passes the joint. -/
def insB (zs : List Int) (n : Nat) (ls : List Int) (q : Nat) (H V M D k : Int) : Bool := pushB zs n ls q H V M D k && (decide (mIn zs n ls q H V M D k ≤ 0) && decide (0 ≤ mOut zs n ls q H V M D k))
/-- .. at a place. -/
def plcB (zs : List Int) (n : Nat) (ls : List Int) (q : Nat) (H V M D k : Int) : Bool := insB zs n ls q H V M D k && !(decide (mIn zs n ls q H V M D k = 0) && decide (mOut zs n ls q H V M D k = 0))
def plcG (zs : List Int) (n : Nat) (ls : List Int) (q : Nat) (H V M D k : Int) : Nat := Nat.gcd (mIn zs n ls q H V M D k).natAbs (mOut zs n ls q H V M D k - mIn zs n ls q H V M D k).natAbs
def plcN (zs : List Int) (n : Nat) (ls : List Int) (q : Nat) (H V M D k : Int) : Int := if plcB zs n ls q H V M D k = true then Int.tdiv (-mIn zs n ls q H V M D k) (plcG zs n ls q H V M D k) else 0
def plcD (zs : List Int) (n : Nat) (ls : List Int) (q : Nat) (H V M D k : Int) : Int := if plcB zs n ls q H V M D k = true then Int.tdiv (mOut zs n ls q H V M D k - mIn zs n ls q H V M D k) (plcG zs n ls q H V M D k) else 0
end Go.Proofs.Ytdjhiegolojoaaa
