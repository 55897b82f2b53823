/-
  Contracts: marking a slice of ints of the call's own, and looking at the marks.
-/
import Derived.Test.YtdjhiegolojoaaaWInts
import Derived.Test.YtdjhiegolojoaaaOwn
namespace Go.Proofs.Ytdjhiegolojoaaa
open Go.RowKit

/-- The first k numbers are replaced by k0, k0 + 1 and so on. -/
def markTo (xs : List Int) (k0 : Int) : Nat → List Int
  | 0 => xs
  | k + 1 => (markTo xs k0 k).set k (k0 + k)
theorem markTo_length (xs : List Int) (k0 : Int) : ∀ k, (markTo xs k0 k).length = xs.length
  | 0 => rfl
  | k + 1 => by rw [markTo, List.length_set, markTo_length xs k0 k]
/-- k0, k0 + 1, .. (n numbers). -/
def iota (k0 : Int) (n : Nat) : List Int := (List.range n).map (fun (i : Nat) => k0 + (i : Int))
theorem iota_length (k0 : Int) (n : Nat) : (iota k0 n).length = n := by simp [iota]
theorem nth_iota {k0 : Int} {n j : Nat} (hj : j < n) : nth (iota k0 n) j = k0 + j := by
  rw [nth_get _ _ (by rw [iota_length]; exact hj)]
  simp [iota]
theorem nth_markTo (xs : List Int) (k0 : Int) : ∀ k, k ≤ xs.length → ∀ j, j < k → nth (markTo xs k0 k) j = k0 + j
  | 0, _, j, hj => absurd hj (by omega)
  | k + 1, hk, j, hj => by
    have hl : j < (markTo xs k0 (k + 1)).length := by rw [markTo_length]; omega
    rw [nth_get _ _ hl]
    simp only [markTo, List.getElem_set]
    by_cases h : k = j
    · subst h; simp
    · rw [if_neg h, ← nth_get]
      exact nth_markTo xs k0 k (by omega) j (by omega)
theorem markTo_end (xs : List Int) (k0 : Int) : markTo xs k0 xs.length = iota k0 xs.length :=
  list_ext_nth (by rw [markTo_length, iota_length]) (fun j hj => by
    rw [markTo_length] at hj
    rw [nth_markTo xs k0 _ (Nat.le_refl _) j hj, nth_iota hj])
theorem markTo_step (xs : List Int) (k0 : Int) (k : Nat) : markTo xs k0 (k + 1) = (markTo xs k0 k).set k (k0 + k) := rfl

end Go.Proofs.Ytdjhiegolojoaaa
