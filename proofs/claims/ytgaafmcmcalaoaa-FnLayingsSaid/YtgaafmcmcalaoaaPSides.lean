/-
  Plain facts: how many stones lie at the left and at the right in an order of laying. No Go function is spoken of here.
-/
import Derived.Test.YtgaafmcmcalaoaaBase
namespace Go.Proofs.Ytgaafmcmcalaoaa

/-- What lies at the left and at the right behind each number, from l and r on; up to a stone that cannot be laid. -/
def layGo (n : Int) : List Int → Int → Int → List (Int × Int)
  | [], _, _ => []
  | x :: xs, l, r => if l + r = n then [] else if x = l then (l + 1, r) :: layGo n xs (l + 1) r else if x = n - 1 - r then (l, r + 1) :: layGo n xs l (r + 1) else []
def sidesL (n : Int) (zs : List Int) : List (Int × Int) := layGo n zs 0 0
section
variable {n l r : Int} {zs : List Int} {k : Nat}
theorem drop_nth (h : k < zs.length) : zs.drop k = nth zs k :: zs.drop (k + 1) := by rw [nth_get _ _ h]; exact List.drop_eq_getElem_cons h
theorem layGo_full (h : k < zs.length) (e : l + r = n) : layGo n (zs.drop k) l r = [] := by rw [drop_nth h]; simp [layGo, e]
theorem layGo_left (h : k < zs.length) (e : ¬ l + r = n) (e1 : nth zs k = l) : layGo n (zs.drop k) l r = (l + 1, r) :: layGo n (zs.drop (k + 1)) (l + 1) r := by rw [drop_nth h]; simp [layGo, e, e1]
theorem layGo_right (h : k < zs.length) (e : ¬ l + r = n) (e1 : ¬ nth zs k = l) (e2 : nth zs k = n - 1 - r) : layGo n (zs.drop k) l r = (l, r + 1) :: layGo n (zs.drop (k + 1)) l (r + 1) := by
  rw [drop_nth h]
  simp only [layGo]
  rw [if_neg e, if_neg e1, if_pos e2]
theorem layGo_no (h : k < zs.length) (e : ¬ l + r = n) (e1 : ¬ nth zs k = l) (e2 : ¬ nth zs k = n - 1 - r) : layGo n (zs.drop k) l r = [] := by
  rw [drop_nth h]
  simp only [layGo]
  rw [if_neg e, if_neg e1, if_neg e2]
theorem layGo_end (h : zs.length ≤ k) : layGo n (zs.drop k) l r = [] := by rw [List.drop_eq_nil_of_le h]; rfl
end
theorem layGo_len (n : Int) : ∀ (zs : List Int) (l r : Int), (layGo n zs l r).length ≤ zs.length
  | [], _, _ => by simp [layGo]
  | x :: xs, l, r => by
    simp only [layGo]
    split
    · simp
    · split
      · have := layGo_len n xs (l + 1) r; simp; omega
      · split
        · have := layGo_len n xs l (r + 1); simp; omega
        · simp
end Go.Proofs.Ytgaafmcmcalaoaa
