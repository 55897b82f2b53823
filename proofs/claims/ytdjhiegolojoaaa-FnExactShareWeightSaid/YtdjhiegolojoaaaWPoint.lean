/-
  Contracts: points, in the reference and in the program.
-/
import Derived.Test.YtdjhiegolojoaaaPGeo
import Derived.Test.YtdjhiegolojoaaaWSmall
namespace Go.Proofs.Ytdjhiegolojoaaa
open Go.RowKit

theorem isPlace_any (x : Int) (w : World) : Calls Try.prog 81 #[.int .i64 x] w fun e w' => e = .returned (.bool (inB x (-60) 60)) ∧ w = w' := by
  go_enter Try.func81, Try.ntmps81
  go_wp2_with (go_at_call 31; refine (within_any _ _ _ _).mono ?_; rintro e w' ⟨rfl, rfl⟩)
  go_ret
  exact ⟨rfl, rfl⟩
theorem ok_any (x y : Int) (w : World) : Calls Try.prog 120 #[.agg #[.int .i64 x, .int .i64 y]] w fun e w' => e = .returned (.bool (ptB x y)) ∧ Below w.heap.size w w' := by
  cases h1 : inB x (-60) 60
  · have HF := Lib.hid (show ptB x y = false by simp [ptB, h1])
    go_enter Try.func120, Try.ntmps120
    go_wp2_with (go_at_call 81; refine (isPlace_any _ _).mono ?_; rintro e w' ⟨rfl, rfl⟩)
    go_ret
    exact ⟨ret_bool HF.out.symm, (Below.refl _ _).alloc (Nat.le_refl _) _⟩
  · have HF := Lib.hid (show ptB x y = inB y (-60) 60 by simp [ptB, h1])
    go_enter Try.func120, Try.ntmps120
    go_wp2_with (go_at_call 81; refine (isPlace_any _ _).mono ?_; rintro e w' ⟨rfl, rfl⟩)
    go_ret
    exact ⟨ret_bool HF.out.symm, (Below.refl _ _).alloc (Nat.le_refl _) _⟩
theorem pointOk_any (x y : Int) (w : World) : Calls Try.prog 114 #[.agg #[.int .i64 x, .int .i64 y]] w fun e w' => e = .returned (.bool (ptB x y)) ∧ Below w.heap.size w w' := by
  cases h1 : inB x (-60) 60
  · have HF := Lib.hid (show ptB x y = false by simp [ptB, h1])
    go_enter Try.func114, Try.ntmps114
    go_wp2_with (go_at_call 26; refine (l01In_any _ _ _ _).mono ?_; rintro e w' ⟨rfl, rfl⟩)
    go_ret
    exact ⟨ret_bool HF.out.symm, (Below.refl _ _).alloc (Nat.le_refl _) _⟩
  · have HF := Lib.hid (show ptB x y = inB y (-60) 60 by simp [ptB, h1])
    go_enter Try.func114, Try.ntmps114
    go_wp2_with (go_at_call 26; refine (l01In_any _ _ _ _).mono ?_; rintro e w' ⟨rfl, rfl⟩)
    go_ret
    exact ⟨ret_bool HF.out.symm, (Below.refl _ _).alloc (Nat.le_refl _) _⟩
set_option maxHeartbeats 800000 in
theorem side_any (ax ay bx b_y cx cy : Int) (w : World) (ha : ptB ax ay = true) (hb : ptB bx b_y = true) (hc : ptB cx cy = true) :
    Calls Try.prog 121 #[.agg #[.int .i64 cx, .int .i64 cy], .agg #[.int .i64 ax, .int .i64 ay], .agg #[.int .i64 bx, .int .i64 b_y]] w fun e w' => e = .returned (.int .i64 (sideI ax ay bx b_y cx cy)) ∧ Below w.heap.size w w' := by
  have hbd := sideI_bd ha hb hc
  have HS : Hid (sideI ax ay bx b_y cx cy = (bx - ax) * (cy - ay) - (b_y - ay) * (cx - ax)) := rfl
  rw [HS.out] at hbd
  rw [ptB_iff] at ha hb hc
  have h1 := mul120 (a := bx - ax) (b := cy - ay) (by omega) (by omega)
  have h2 := mul120 (a := b_y - ay) (b := cx - ax) (by omega) (by omega)
  go_enter Try.func121, Try.ntmps121
  go_wp2
  go_ret
  exact ⟨rfl, (((Below.refl _ _).alloc (Nat.le_refl _) _).alloc (by simp) _).alloc (by simp; omega) _⟩
theorem l02Side_any (ax ay bx b_y cx cy : Int) (w : World) (ha : ptB ax ay = true) (hb : ptB bx b_y = true) (hc : ptB cx cy = true) :
    Calls Try.prog 115 #[.agg #[.int .i64 ax, .int .i64 ay], .agg #[.int .i64 bx, .int .i64 b_y], .agg #[.int .i64 cx, .int .i64 cy]] w fun e w' => e = .returned (.int .i64 (sideI ax ay bx b_y cx cy)) ∧ Below w.heap.size w w' := by
  have hbd := sideI_bd ha hb hc
  have HS : Hid (sideI ax ay bx b_y cx cy = (bx - ax) * (cy - ay) - (b_y - ay) * (cx - ax)) := rfl
  rw [HS.out] at hbd
  rw [ptB_iff] at ha hb hc
  have h1 := mul120 (a := bx - ax) (b := cy - ay) (by omega) (by omega)
  have h2 := mul120 (a := b_y - ay) (b := cx - ax) (by omega) (by omega)
  go_enter Try.func115, Try.ntmps115
  go_wp2
  go_ret
  exact ⟨rfl, (((Below.refl _ _).alloc (Nat.le_refl _) _).alloc (by simp) _).alloc (by simp; omega) _⟩
end Go.Proofs.Ytdjhiegolojoaaa
