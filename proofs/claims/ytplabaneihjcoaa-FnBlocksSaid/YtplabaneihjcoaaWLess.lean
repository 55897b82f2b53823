/-
  Contract: 'less' on cuttings.
-/
import Derived.Test.YtplabaneihjcoaaProg
import Derived.Test.YtplabaneihjcoaaPFew
namespace Go.Proofs.Ytplabaneihjcoaa
open Go.RowKit

theorem lessP_t {a b c d : Int} (h : a < c ∨ (a = c ∧ b < d)) : lessP (a, b) (c, d) = true := decide_eq_true h
theorem lessP_f {a b c d : Int} (h : ¬ (a < c ∨ (a = c ∧ b < d))) : lessP (a, b) (c, d) = false := decide_eq_false h

set_option maxHeartbeats 800000 in
theorem cutLess_any (a b c d : Int) (w : World) : Calls Try.prog 59 #[.agg #[.int .i64 a, .int .i64 b], .agg #[.int .i64 c, .int .i64 d]] w fun e w' => e = .returned (.bool (lessP (a, b) (c, d))) ∧ Below w.heap.size w w' := by
  rcases (show a < c ∨ a = c ∨ c < a by omega) with hl | he | hg
  · have H := Lib.hid (lessP_t (b := b) (d := d) (.inl hl))
    go_enter Try.func59, Try.ntmps59
    go_wp2
    go_ret
    exact ⟨ret_bool H.out.symm, ((Below.refl _ _).alloc (Nat.le_refl _) _).alloc (by simp) _⟩
  · have e1 : (a == c) = true := beq_iff_eq.2 he
    have d0 : decide (a < c) = false := decide_eq_false (by omega)
    by_cases hu : b < d
    · have H := Lib.hid (lessP_t (.inr ⟨he, hu⟩))
      clear he
      go_enter Try.func59, Try.ntmps59
      go_wp2
      go_ret
      exact ⟨ret_bool H.out.symm, ((Below.refl _ _).alloc (Nat.le_refl _) _).alloc (by simp) _⟩
    · have H := Lib.hid (lessP_f (a := a) (b := b) (c := c) (d := d) (by omega))
      have d1 : decide (b < d) = false := decide_eq_false hu
      clear he
      go_enter Try.func59, Try.ntmps59
      go_wp2
      go_ret
      exact ⟨ret_bool H.out.symm, ((Below.refl _ _).alloc (Nat.le_refl _) _).alloc (by simp) _⟩
  · have H := Lib.hid (lessP_f (a := a) (b := b) (c := c) (d := d) (by omega))
    have e1 : (a == c) = false := by simp; omega
    have d0 : decide (a < c) = false := decide_eq_false (by omega)
    go_enter Try.func59, Try.ntmps59
    go_wp2
    go_ret
    exact ⟨ret_bool H.out.symm, ((Below.refl _ _).alloc (Nat.le_refl _) _).alloc (by simp) _⟩
end Go.Proofs.Ytplabaneihjcoaa
