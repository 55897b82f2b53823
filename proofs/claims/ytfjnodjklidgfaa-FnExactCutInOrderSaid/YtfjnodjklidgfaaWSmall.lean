/-
  Contracts of the small functions of this seat: numbers and a struct of three numbers.
-/
import Derived.Test.YtfjnodjklidgfaaProg
import Derived.Test.YtfjnodjklidgfaaBase
import Derived.WalkKit
import Derived.Outline
namespace Go.Proofs.Ytfjnodjklidgfaa
open Go.RowKit

theorem l01In_any (x a b : Int) (w : World) : Calls Try.prog 41 #[.int .i64 x, .int .i64 a, .int .i64 b] w fun e w' => e = .returned (.bool (inB x a b)) ∧ w = w' := by
  by_cases c1 : a ≤ x
  · by_cases c2 : x ≤ b
    · have H := Lib.hid (inB_t ⟨c1, c2⟩)
      go_enter Try.func41, Try.ntmps41
      go_wp2
      go_ret
      exact ⟨ret_bool H.out.symm, rfl⟩
    · have H := Lib.hid (inB_f (x := x) (a := a) (b := b) (by omega))
      go_enter Try.func41, Try.ntmps41
      go_wp2
      go_ret
      exact ⟨ret_bool H.out.symm, rfl⟩
  · have H := Lib.hid (inB_f (x := x) (a := a) (b := b) (by omega))
    go_enter Try.func41, Try.ntmps41
    go_wp2
    go_ret
    exact ⟨ret_bool H.out.symm, rfl⟩

theorem within_any (x a b : Int) (w : World) : Calls Try.prog 42 #[.int .i64 x, .int .i64 a, .int .i64 b] w fun e w' => e = .returned (.bool (inB x a b)) ∧ w = w' := by
  by_cases c1 : a ≤ x
  · by_cases c2 : x ≤ b
    · have H := Lib.hid (inB_t ⟨c1, c2⟩)
      go_enter Try.func42, Try.ntmps42
      go_wp2
      go_ret
      exact ⟨ret_bool H.out.symm, rfl⟩
    · have H := Lib.hid (inB_f (x := x) (a := a) (b := b) (by omega))
      go_enter Try.func42, Try.ntmps42
      go_wp2
      go_ret
      exact ⟨ret_bool H.out.symm, rfl⟩
  · have H := Lib.hid (inB_f (x := x) (a := a) (b := b) (by omega))
    go_enter Try.func42, Try.ntmps42
    go_wp2
    go_ret
    exact ⟨ret_bool H.out.symm, rfl⟩


/-- How many orders of laying n stones have. -/
def layings (n : Int) : Int := if 1 ≤ n ∧ n ≤ 8 then wrap64 (2 ^ (n.toNat - 1)) else 0
theorem layings_t {n : Int} (h : 1 ≤ n ∧ n ≤ 8) : layings n = wrap64 (2 ^ (n.toNat - 1)) := by simp [layings, h]
theorem layings_f {n : Int} (h : ¬ (1 ≤ n ∧ n ≤ 8)) : layings n = 0 := by simp only [layings, if_neg h]

theorem sCountLayings_any (n : Int) (w : World) (h0 : -9223372036854775808 ≤ n) (h1 : n ≤ 9223372036854775807) : Calls Try.prog 14 #[.int .i64 n] w fun e w' => e = .returned (.int .i64 (layings n)) ∧ w = w' := by
  by_cases c : 1 ≤ n ∧ n ≤ 8
  · have hB := inB_t c
    have H := Lib.hid (layings_t c)
    obtain ⟨c1, c2⟩ := c
    go_enter Try.func14, Try.ntmps14
    go_wp2_with (go_at_call 41; refine (l01In_any _ _ _ _).mono ?_; rintro e w' ⟨rfl, rfl⟩)
    go_ret
    exact ⟨ret_int H.out.symm, rfl⟩
  · have hB := inB_f c
    have H := Lib.hid (layings_f c)
    go_enter Try.func14, Try.ntmps14
    go_wp2_with (go_at_call 41; refine (l01In_any _ _ _ _).mono ?_; rintro e w' ⟨rfl, rfl⟩)
    go_ret
    exact ⟨ret_int H.out.symm, rfl⟩

theorem iCountLayings_any (n : Int) (w : World) (h0 : -9223372036854775808 ≤ n) (h1 : n ≤ 9223372036854775807) : Calls Try.prog 15 #[.int .i64 n] w fun e w' => e = .returned (.int .i64 (layings n)) ∧ w = w' := by
  by_cases c : 1 ≤ n ∧ n ≤ 8
  · have hB := inB_t c
    have H := Lib.hid (layings_t c)
    obtain ⟨c1, c2⟩ := c
    go_enter Try.func15, Try.ntmps15
    go_wp2_with (go_at_call 42; refine (within_any _ _ _ _).mono ?_; rintro e w' ⟨rfl, rfl⟩)
    go_ret
    exact ⟨ret_int H.out.symm, rfl⟩
  · have hB := inB_f c
    have H := Lib.hid (layings_f c)
    go_enter Try.func15, Try.ntmps15
    go_wp2_with (go_at_call 42; refine (within_any _ _ _ _).mono ?_; rintro e w' ⟨rfl, rfl⟩)
    go_ret
    exact ⟨ret_int H.out.symm, rfl⟩

end Go.Proofs.Ytfjnodjklidgfaa
