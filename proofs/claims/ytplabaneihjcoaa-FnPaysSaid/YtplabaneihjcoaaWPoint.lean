/-
  Contracts: points, in the reference and in the program.
-/
import Derived.Test.YtplabaneihjcoaaPGeo
import Derived.Test.YtplabaneihjcoaaWSmall
namespace Go.Proofs.Ytplabaneihjcoaa
open Go.RowKit

theorem isPlace_any (x : Int) (w : World) : Calls Try.prog 86 #[.int .i64 x] w fun e w' => e = .returned (.bool (inB x (-60) 60)) ∧ w = w' := by
  go_enter Try.func86, Try.ntmps86
  go_wp2_with (go_at_call 36; refine (within_any _ _ _ _).mono ?_; rintro e w' ⟨rfl, rfl⟩)
  go_ret
  exact ⟨rfl, rfl⟩
theorem ok_any (x y : Int) (w : World) : Calls Try.prog 66 #[.agg #[.int .i64 x, .int .i64 y]] w fun e w' => e = .returned (.bool (ptB x y)) ∧ Below w.heap.size w w' := by
  cases h1 : inB x (-60) 60
  · have HF := Lib.hid (show ptB x y = false by simp [ptB, h1])
    go_enter Try.func66, Try.ntmps66
    go_wp2_with (go_at_call 86; refine (isPlace_any _ _).mono ?_; rintro e w' ⟨rfl, rfl⟩)
    go_ret
    exact ⟨ret_bool HF.out.symm, (Below.refl _ _).alloc (Nat.le_refl _) _⟩
  · have HF := Lib.hid (show ptB x y = inB y (-60) 60 by simp [ptB, h1])
    go_enter Try.func66, Try.ntmps66
    go_wp2_with (go_at_call 86; refine (isPlace_any _ _).mono ?_; rintro e w' ⟨rfl, rfl⟩)
    go_ret
    exact ⟨ret_bool HF.out.symm, (Below.refl _ _).alloc (Nat.le_refl _) _⟩
theorem pointOk_any (x y : Int) (w : World) : Calls Try.prog 87 #[.agg #[.int .i64 x, .int .i64 y]] w fun e w' => e = .returned (.bool (ptB x y)) ∧ Below w.heap.size w w' := by
  cases h1 : inB x (-60) 60
  · have HF := Lib.hid (show ptB x y = false by simp [ptB, h1])
    go_enter Try.func87, Try.ntmps87
    go_wp2_with (go_at_call 73; refine (l01In_any _ _ _ _).mono ?_; rintro e w' ⟨rfl, rfl⟩)
    go_ret
    exact ⟨ret_bool HF.out.symm, (Below.refl _ _).alloc (Nat.le_refl _) _⟩
  · have HF := Lib.hid (show ptB x y = inB y (-60) 60 by simp [ptB, h1])
    go_enter Try.func87, Try.ntmps87
    go_wp2_with (go_at_call 73; refine (l01In_any _ _ _ _).mono ?_; rintro e w' ⟨rfl, rfl⟩)
    go_ret
    exact ⟨ret_bool HF.out.symm, (Below.refl _ _).alloc (Nat.le_refl _) _⟩
set_option maxHeartbeats 800000 in
theorem side_any (ax ay bx b_y cx cy : Int) (w : World) (ha : ptB ax ay = true) (hb : ptB bx b_y = true) (hc : ptB cx cy = true) :
    Calls Try.prog 67 #[.agg #[.int .i64 cx, .int .i64 cy], .agg #[.int .i64 ax, .int .i64 ay], .agg #[.int .i64 bx, .int .i64 b_y]] w fun e w' => e = .returned (.int .i64 (sideI ax ay bx b_y cx cy)) ∧ Below w.heap.size w w' := by
  have hbd := sideI_bd ha hb hc
  have HS : Hid (sideI ax ay bx b_y cx cy = (bx - ax) * (cy - ay) - (b_y - ay) * (cx - ax)) := rfl
  rw [HS.out] at hbd
  rw [ptB_iff] at ha hb hc
  have h1 := mul120 (a := bx - ax) (b := cy - ay) (by omega) (by omega)
  have h2 := mul120 (a := b_y - ay) (b := cx - ax) (by omega) (by omega)
  go_enter Try.func67, Try.ntmps67
  go_wp2
  go_ret
  exact ⟨rfl, (((Below.refl _ _).alloc (Nat.le_refl _) _).alloc (by simp) _).alloc (by simp; omega) _⟩
theorem l02Side_any (ax ay bx b_y cx cy : Int) (w : World) (ha : ptB ax ay = true) (hb : ptB bx b_y = true) (hc : ptB cx cy = true) :
    Calls Try.prog 88 #[.agg #[.int .i64 ax, .int .i64 ay], .agg #[.int .i64 bx, .int .i64 b_y], .agg #[.int .i64 cx, .int .i64 cy]] w fun e w' => e = .returned (.int .i64 (sideI ax ay bx b_y cx cy)) ∧ Below w.heap.size w w' := by
  have hbd := sideI_bd ha hb hc
  have HS : Hid (sideI ax ay bx b_y cx cy = (bx - ax) * (cy - ay) - (b_y - ay) * (cx - ax)) := rfl
  rw [HS.out] at hbd
  rw [ptB_iff] at ha hb hc
  have h1 := mul120 (a := bx - ax) (b := cy - ay) (by omega) (by omega)
  have h2 := mul120 (a := b_y - ay) (b := cx - ax) (by omega) (by omega)
  go_enter Try.func88, Try.ntmps88
  go_wp2
  go_ret
  exact ⟨rfl, (((Below.refl _ _).alloc (Nat.le_refl _) _).alloc (by simp) _).alloc (by simp; omega) _⟩
end Go.Proofs.Ytplabaneihjcoaa
