/-
  The laws on numbers and small structs: each call returns true.
-/
import Derived.Test.YtfjnodjklidgfaaWSmall
namespace Go.Proofs.Ytfjnodjklidgfaa
open Go.RowKit

theorem fnExactCountLayings.walk (a : Int) (h0 : -9223372036854775808 ≤ a) (h1 : a ≤ 9223372036854775807) (w : World) :
    Calls Try.prog 3 #[.int .i64 a] w fun e w' => e = .returned (.bool true) ∧ Below w.heap.size w w' := by
  go_enter Try.func3, Try.ntmps3
  go_wp2_with (first
    | (go_at_call 14; refine (sCountLayings_any _ _ h0 h1).mono ?_; rintro e w' ⟨rfl, rfl⟩)
    | (go_at_call 15; refine (iCountLayings_any _ _ h0 h1).mono ?_; rintro e w' ⟨rfl, rfl⟩))
  go_ret
  exact ⟨rfl, Below.refl _ _⟩

end Go.Proofs.Ytfjnodjklidgfaa
