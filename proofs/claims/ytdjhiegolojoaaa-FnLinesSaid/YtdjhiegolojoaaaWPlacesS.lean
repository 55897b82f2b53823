/-
  Contract: the places of a push at all joints, in the reference.
-/
import Derived.Test.YtdjhiegolojoaaaPPlaces
import Derived.Test.YtdjhiegolojoaaaOwnC
namespace Go.Proofs.Ytdjhiegolojoaaa
open Go.RowKit
set_option linter.unusedSimpArgs false

theorem infoInts : (Try.prog.info? 53).map (fun i => (i.zero, i.size, i.bytes)) = some (some (.slice none 0 0), 1, 24) := by kernel_rfl
/-- Slice value '.slice A m c' holds m slices of two ints each, flattened to L. -/
def PairsAt (w : World) (B : Nat) (A : Option Addr) (m : Nat) (L : List Int) : Prop :=
  0 < m → ∃ b off, A = some ⟨b, off, none⟩ ∧ b < B ∧ ∀ i, i < m → ∃ g, w.cell? ⟨b, off + i, none⟩ = some (.slice (some ⟨g, 0, none⟩) 2 2) ∧ g < B ∧ w.cell? ⟨g, 0, none⟩ = some (.int .i64 (nth L (i * 2))) ∧ w.cell? ⟨g, 1, none⟩ = some (.int .i64 (nth L (i * 2 + 1)))
theorem PairsAt.after {w w' : World} {A : Option Addr} {m : Nat} {L : List Int} (h : PairsAt w w.heap.size A m L) (hb : Below w.heap.size w w') : PairsAt w' w'.heap.size A m L := fun hm => by
  obtain ⟨b, off, e, hbl, hc⟩ := h hm
  refine ⟨b, off, e, Nat.lt_of_lt_of_le hbl hb.size, fun i hi => ?_⟩
  obtain ⟨g, h1, h2, h3, h4⟩ := hc i hi
  exact ⟨g, (hb.cell (p := ⟨b, off + i, none⟩) hbl).trans h1, Nat.lt_of_lt_of_le h2 hb.size, (hb.cell (p := ⟨g, 0, none⟩) h2).trans h3, (hb.cell (p := ⟨g, 1, none⟩) h2).trans h4⟩
def PlsSPost (w : World) (m : Nat) (L : List Int) (e : Ending) (w' : World) : Prop :=
  ∃ A c, e = .returned (.slice A m c) ∧ PairsAt w' w'.heap.size A m L ∧ m ≤ c ∧ Below w.heap.size w w'
/-- The rows behind the cells. -/
def RowsOf2 (w : World) (cs : List Value) (k : Nat) (N D : Nat → Int) : Prop := ∀ i, i < k → ∃ g, cs[i]? = some (.slice (some ⟨g, 0, none⟩) 2 2) ∧ RowF w g 3 2 (ints [N i, D i])
theorem RowsOf2.after {w w' : World} {cs : List Value} {k : Nat} {N D : Nat → Int} (h : RowsOf2 w cs k N D) (hb : Below w.heap.size w w') : RowsOf2 w' cs k N D := fun i hi => by
  obtain ⟨g, h1, h2⟩ := h i hi
  exact ⟨g, h1, h2.after hb⟩
theorem RowsOf2.snoc {w : World} {cs : List Value} {k g : Nat} {N D : Nat → Int} (h : RowsOf2 w cs k N D) (hl : cs.length = k) (hr : RowF w g 3 2 (ints [N k, D k])) : RowsOf2 w (cs ++ [.slice (some ⟨g, 0, none⟩) 2 2]) (k + 1) N D := fun i hi => by
  by_cases e : i = k
  · subst e
    exact ⟨g, by rw [← hl]; simp, hr⟩
  · obtain ⟨g', h1, h2⟩ := h i (by omega)
    exact ⟨g', by rw [List.getElem?_append_left (by omega)]; exact h1, h2⟩

end Go.Proofs.Ytdjhiegolojoaaa
