/-
  Contracts: CountLayings, in the program and in the reference.
-/
import Derived.Test.YtgaafmcmcalaoaaWSmall
import Derived.Test.YtgaafmcmcalaoaaPLay
namespace Go.Proofs.Ytgaafmcmcalaoaa
open Go.RowKit

theorem sCountLayings_any (n : Int) (w : World) (h0 : -9223372036854775808 ≤ n) (h1 : n ≤ 9223372036854775807) : Calls Try.prog 66 #[.int .i64 n] w fun e w' => e = .returned (.int .i64 (layings n)) ∧ w = w' := by
  by_cases c : 1 ≤ n ∧ n ≤ 8
  · have hB := inB_t c
    have H := Lib.hid (layings_t c)
    obtain ⟨c1, c2⟩ := c
    go_enter Try.func66, Try.ntmps66
    go_wp2_with (go_at_call 33; refine (l01In_any _ _ _ _).mono ?_; rintro e w' ⟨rfl, rfl⟩)
    go_ret
    exact ⟨ret_int H.out.symm, rfl⟩
  · have hB := inB_f c
    have H := Lib.hid (layings_f c)
    go_enter Try.func66, Try.ntmps66
    go_wp2_with (go_at_call 33; refine (l01In_any _ _ _ _).mono ?_; rintro e w' ⟨rfl, rfl⟩)
    go_ret
    exact ⟨ret_int H.out.symm, rfl⟩

theorem iCountLayings_any (n : Int) (w : World) (h0 : -9223372036854775808 ≤ n) (h1 : n ≤ 9223372036854775807) : Calls Try.prog 20 #[.int .i64 n] w fun e w' => e = .returned (.int .i64 (layings n)) ∧ w = w' := by
  by_cases c : 1 ≤ n ∧ n ≤ 8
  · have hB := inB_t c
    have H := Lib.hid (layings_t c)
    obtain ⟨c1, c2⟩ := c
    go_enter Try.func20, Try.ntmps20
    go_wp2_with (go_at_call 34; refine (within_any _ _ _ _).mono ?_; rintro e w' ⟨rfl, rfl⟩)
    go_ret
    exact ⟨ret_int H.out.symm, rfl⟩
  · have hB := inB_f c
    have H := Lib.hid (layings_f c)
    go_enter Try.func20, Try.ntmps20
    go_wp2_with (go_at_call 34; refine (within_any _ _ _ _).mono ?_; rintro e w' ⟨rfl, rfl⟩)
    go_ret
    exact ⟨ret_int H.out.symm, rfl⟩

end Go.Proofs.Ytgaafmcmcalaoaa
