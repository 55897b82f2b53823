/-
  Contracts of the small functions of this seat: numbers and a struct of three numbers.
-/
import Derived.Test.YtdjhiegolojoaaaProg
import Derived.Test.YtdjhiegolojoaaaBase
import Derived.WalkKit
import Derived.Outline
namespace Go.Proofs.Ytdjhiegolojoaaa
open Go.RowKit

theorem l01In_any (x a b : Int) (w : World) : Calls Try.prog 26 #[.int .i64 x, .int .i64 a, .int .i64 b] w fun e w' => e = .returned (.bool (inB x a b)) ∧ w = w' := by
  by_cases c1 : a ≤ x
  · by_cases c2 : x ≤ b
    · have H := Lib.hid (inB_t ⟨c1, c2⟩)
      go_enter Try.func26, Try.ntmps26
      go_wp2
      go_ret
      exact ⟨ret_bool H.out.symm, rfl⟩
    · have H := Lib.hid (inB_f (x := x) (a := a) (b := b) (by omega))
      go_enter Try.func26, Try.ntmps26
      go_wp2
      go_ret
      exact ⟨ret_bool H.out.symm, rfl⟩
  · have H := Lib.hid (inB_f (x := x) (a := a) (b := b) (by omega))
    go_enter Try.func26, Try.ntmps26
    go_wp2
    go_ret
    exact ⟨ret_bool H.out.symm, rfl⟩

theorem within_any (x a b : Int) (w : World) : Calls Try.prog 31 #[.int .i64 x, .int .i64 a, .int .i64 b] w fun e w' => e = .returned (.bool (inB x a b)) ∧ w = w' := by
  by_cases c1 : a ≤ x
  · by_cases c2 : x ≤ b
    · have H := Lib.hid (inB_t ⟨c1, c2⟩)
      go_enter Try.func31, Try.ntmps31
      go_wp2
      go_ret
      exact ⟨ret_bool H.out.symm, rfl⟩
    · have H := Lib.hid (inB_f (x := x) (a := a) (b := b) (by omega))
      go_enter Try.func31, Try.ntmps31
      go_wp2
      go_ret
      exact ⟨ret_bool H.out.symm, rfl⟩
  · have H := Lib.hid (inB_f (x := x) (a := a) (b := b) (by omega))
    go_enter Try.func31, Try.ntmps31
    go_wp2
    go_ret
    exact ⟨ret_bool H.out.symm, rfl⟩


end Go.Proofs.Ytdjhiegolojoaaa
