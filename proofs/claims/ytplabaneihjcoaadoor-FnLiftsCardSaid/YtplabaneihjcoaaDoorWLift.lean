/-
  Contracts: a lift (a struct of three ints) in the program, the reference and the laws.
-/
import Derived.Test.YtplabaneihjcoaaDoorWSmall
namespace Go.Proofs.YtplabaneihjcoaaDoor
open Go.RowKit

/-- A lift is valid. -/
def liftB (p a x : Int) : Bool := inB p 1 1000 && inB x 1 50 && inB a x 200
theorem liftB_t {p a x : Int} (h1 : inB p 1 1000 = true) (h2 : inB x 1 50 = true) (h3 : inB a x 200 = true) : liftB p a x = true := by simp [liftB, h1, h2, h3]
theorem liftB_f1 {p a x : Int} (h1 : inB p 1 1000 = false) : liftB p a x = false := by simp [liftB, h1]
theorem liftB_f2 {p a x : Int} (h2 : inB x 1 50 = false) : liftB p a x = false := by simp [liftB, h2]
theorem liftB_f3 {p a x : Int} (h3 : inB a x 200 = false) : liftB p a x = false := by simp [liftB, h3]

set_option maxHeartbeats 400000 in
theorem toLift_any (p a x : Int) (w : World) : Calls Tryd.prog 10 #[.agg #[.int .i64 p, .int .i64 a, .int .i64 x]] w fun e w' => e = .returned (.agg #[.int .i64 p, .int .i64 a, .int .i64 x]) ∧ Below w.heap.size w w' := by
  go_enter Tryd.func10, Tryd.ntmps10
  go_wp2
  exact bodyPost_ret (v := .agg #[.int .i64 p, .int .i64 a, .int .i64 x]) (by simp [results, Tryd.results10, go_sem]) rfl ⟨rfl, (((Below.refl _ _).alloc (Nat.le_refl _) _).alloc (by simp) _).alloc (by simp; omega) _⟩

set_option maxHeartbeats 400000 in
theorem sLiftOk_any (p a x : Int) (w : World) : Calls Tryd.prog 22 #[.agg #[.int .i64 p, .int .i64 a, .int .i64 x]] w fun e w' => e = .returned (.bool (liftB p a x)) ∧ Below w.heap.size w w' := by
  cases h1 : inB p 1 1000
  · have H := Lib.hid (liftB_f1 (a := a) (x := x) h1)
    go_enter Tryd.func22, Tryd.ntmps22
    go_wp2_with (go_at_call 38; refine (l01In_any _ _ _ _).mono ?_; rintro e w' ⟨rfl, rfl⟩)
    go_ret
    exact ⟨ret_bool H.out.symm, (Below.refl _ _).alloc (Nat.le_refl _) _⟩
  · cases h2 : inB x 1 50
    · have H := Lib.hid (liftB_f2 (p := p) (a := a) h2)
      go_enter Tryd.func22, Tryd.ntmps22
      go_wp2_with (go_at_call 38; refine (l01In_any _ _ _ _).mono ?_; rintro e w' ⟨rfl, rfl⟩)
      go_ret
      exact ⟨ret_bool H.out.symm, (Below.refl _ _).alloc (Nat.le_refl _) _⟩
    · cases h3 : inB a x 200
      · have H := Lib.hid (liftB_f3 (p := p) h3)
        go_enter Tryd.func22, Tryd.ntmps22
        go_wp2_with (go_at_call 38; refine (l01In_any _ _ _ _).mono ?_; rintro e w' ⟨rfl, rfl⟩)
        go_ret
        exact ⟨ret_bool H.out.symm, (Below.refl _ _).alloc (Nat.le_refl _) _⟩
      · have H := Lib.hid (liftB_t h1 h2 h3)
        go_enter Tryd.func22, Tryd.ntmps22
        go_wp2_with (go_at_call 38; refine (l01In_any _ _ _ _).mono ?_; rintro e w' ⟨rfl, rfl⟩)
        go_ret
        exact ⟨ret_bool H.out.symm, (Below.refl _ _).alloc (Nat.le_refl _) _⟩

set_option maxHeartbeats 400000 in
theorem iLiftOk_any (p a x : Int) (w : World) : Calls Tryd.prog 19 #[.agg #[.int .i64 p, .int .i64 a, .int .i64 x]] w fun e w' => e = .returned (.bool (liftB p a x)) ∧ Below w.heap.size w w' := by
  cases h1 : inB p 1 1000
  · have H := Lib.hid (liftB_f1 (a := a) (x := x) h1)
    go_enter Tryd.func19, Tryd.ntmps19
    go_wp2_with (go_at_call 35; refine (within_any _ _ _ _).mono ?_; rintro e w' ⟨rfl, rfl⟩)
    go_ret
    exact ⟨ret_bool H.out.symm, (Below.refl _ _).alloc (Nat.le_refl _) _⟩
  · cases h2 : inB x 1 50
    · have H := Lib.hid (liftB_f2 (p := p) (a := a) h2)
      go_enter Tryd.func19, Tryd.ntmps19
      go_wp2_with (go_at_call 35; refine (within_any _ _ _ _).mono ?_; rintro e w' ⟨rfl, rfl⟩)
      go_ret
      exact ⟨ret_bool H.out.symm, (Below.refl _ _).alloc (Nat.le_refl _) _⟩
    · cases h3 : inB a x 200
      · have H := Lib.hid (liftB_f3 (p := p) h3)
        go_enter Tryd.func19, Tryd.ntmps19
        go_wp2_with (go_at_call 35; refine (within_any _ _ _ _).mono ?_; rintro e w' ⟨rfl, rfl⟩)
        go_ret
        exact ⟨ret_bool H.out.symm, (Below.refl _ _).alloc (Nat.le_refl _) _⟩
      · have H := Lib.hid (liftB_t h1 h2 h3)
        go_enter Tryd.func19, Tryd.ntmps19
        go_wp2_with (go_at_call 35; refine (within_any _ _ _ _).mono ?_; rintro e w' ⟨rfl, rfl⟩)
        go_ret
        exact ⟨ret_bool H.out.symm, (Below.refl _ _).alloc (Nat.le_refl _) _⟩

/-- What a lift can lift. -/
def capI (p a x : Int) : Int := if liftB p a x = true then p * a / x else 0
theorem capI_t {p a x : Int} (h : liftB p a x = true) : capI p a x = p * a / x := by simp [capI, h]
theorem capI_f {p a x : Int} (h : liftB p a x = false) : capI p a x = 0 := by simp [capI, h]
theorem liftB_bd {p a x : Int} (h : liftB p a x = true) : 1 ≤ p ∧ p ≤ 1000 ∧ 1 ≤ x ∧ x ≤ 50 ∧ x ≤ a ∧ a ≤ 200 := by
  simp only [liftB, Bool.and_eq_true, inB_iff] at h
  omega
theorem mulL_bd {p a : Int} (h1 : 1 ≤ p) (h2 : p ≤ 1000) (h3 : 1 ≤ a) (h4 : a ≤ 200) : 0 ≤ p * a ∧ p * a ≤ 200000 := by
  refine ⟨Int.mul_nonneg (by omega) (by omega), ?_⟩
  have := Int.mul_le_mul h2 h4 (by omega) (by omega)
  simpa using this
theorem divL_bd {m x : Int} (h1 : 0 ≤ m) (h2 : m ≤ 200000) (h3 : 1 ≤ x) : 0 ≤ m / x ∧ m / x ≤ 200000 :=
  ⟨Int.ediv_nonneg h1 (by omega), Int.le_trans (Int.ediv_le_self _ h1) h2⟩
theorem capI_bd (p a x : Int) : 0 ≤ capI p a x ∧ capI p a x ≤ 200000 := by
  unfold capI
  split
  · rename_i h
    have b := liftB_bd h
    have m := mulL_bd (p := p) (a := a) (by omega) (by omega) (by omega) (by omega)
    exact divL_bd m.1 m.2 (by omega)
  · omega

set_option maxHeartbeats 400000 in
theorem sCapacityOf_any (p a x : Int) (w : World) : Calls Tryd.prog 23 #[.agg #[.int .i64 p, .int .i64 a, .int .i64 x]] w fun e w' => e = .returned (.int .i64 (capI p a x)) ∧ Below w.heap.size w w' := by
  cases h : liftB p a x
  · have H := Lib.hid (capI_f h)
    go_enter Tryd.func23, Tryd.ntmps23
    go_wp2_with (go_at_call 22; refine (sLiftOk_any _ _ _ _).mono ?_; rintro e w1 ⟨rfl, hb1⟩)
    go_ret
    exact ⟨ret_int H.out.symm, ((Below.refl _ _).alloc (Nat.le_refl _) _).trans (hb1.mono (by simp))⟩
  · have H := Lib.hid (capI_t h)
    obtain ⟨p1, p2, x1, x2, a1, a2⟩ := liftB_bd h
    have m := mulL_bd (p := p) (a := a) (by omega) (by omega) (by omega) (by omega)
    obtain ⟨m1, m2⟩ := m
    have hx0 : (x == 0) = false := by simp; omega
    go_enter Tryd.func23, Tryd.ntmps23
    go_wp2_with (go_at_call 22; refine (sLiftOk_any _ _ _ _).mono ?_; rintro e w1 ⟨rfl, hb1⟩; obtain ⟨hc1, hf1⟩ := bcell hb1)
    go_ret
    exact ⟨ret_int (by rw [H.out]), ((Below.refl _ _).alloc (Nat.le_refl _) _).trans (hb1.mono (by simp))⟩

set_option maxHeartbeats 400000 in
theorem iCapacityOf_any (p a x : Int) (w : World) : Calls Tryd.prog 17 #[.agg #[.int .i64 p, .int .i64 a, .int .i64 x]] w fun e w' => e = .returned (.int .i64 (capI p a x)) ∧ Below w.heap.size w w' := by
  cases h : liftB p a x
  · have H := Lib.hid (capI_f h)
    go_enter Tryd.func17, Tryd.ntmps17
    go_wp2_with (go_at_call 19; refine (iLiftOk_any _ _ _ _).mono ?_; rintro e w1 ⟨rfl, hb1⟩)
    go_ret
    exact ⟨ret_int H.out.symm, ((Below.refl _ _).alloc (Nat.le_refl _) _).trans (hb1.mono (by simp))⟩
  · have H := Lib.hid (capI_t h)
    obtain ⟨p1, p2, x1, x2, a1, a2⟩ := liftB_bd h
    have m := mulL_bd (p := p) (a := a) (by omega) (by omega) (by omega) (by omega)
    obtain ⟨m1, m2⟩ := m
    have hx0 : (x == 0) = false := by simp; omega
    go_enter Tryd.func17, Tryd.ntmps17
    go_wp2_with (go_at_call 19; refine (iLiftOk_any _ _ _ _).mono ?_; rintro e w1 ⟨rfl, hb1⟩; obtain ⟨hc1, hf1⟩ := bcell hb1)
    go_ret
    exact ⟨ret_int (by rw [H.out]), ((Below.refl _ _).alloc (Nat.le_refl _) _).trans (hb1.mono (by simp))⟩

end Go.Proofs.YtplabaneihjcoaaDoor
