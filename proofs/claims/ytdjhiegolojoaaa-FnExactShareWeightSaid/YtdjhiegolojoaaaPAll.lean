/-
  A test that holds of all numbers below a bound. No Go function is spoken of here.
-/
import Derived.Test.YtdjhiegolojoaaaBase
namespace Go.Proofs.Ytdjhiegolojoaaa

def allTo (p : Nat → Bool) (k : Nat) : Prop := ∀ i, i < k → p i = true
def allB (p : Nat → Bool) (n : Nat) : Bool := (List.range n).all p
section
variable {p : Nat → Bool} {k n : Nat}
theorem allTo_0 (p : Nat → Bool) : allTo p 0 := fun i hi => absurd hi (by omega)
theorem allTo_step (h : allTo p k) (e : p k = true) : allTo p (k + 1) := by
  intro i hi
  by_cases hik : i = k
  · subst hik; exact e
  · exact h i (by omega)
theorem allB_f (hk : k < n) (h : p k = false) : allB p n = false := by
  rw [allB, List.all_eq_false]
  exact ⟨k, by simpa using hk, by simp [h]⟩
theorem allB_t (h : allTo p n) : allB p n = true := by
  rw [allB, List.all_eq_true]
  exact fun i hi => h i (by simpa using hi)
theorem allB_out (h : allB p n = true) : allTo p n := by
  simp only [allB, List.all_eq_true] at h
  exact fun i hi => h i (by simpa using hi)
end
end Go.Proofs.Ytdjhiegolojoaaa
