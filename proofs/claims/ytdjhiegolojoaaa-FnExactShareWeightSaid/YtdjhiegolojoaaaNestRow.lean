/-
  Words for a slice of cells that the call itself makes, each a slice of records in a row of its own. No Go function is spoken of here.
-/
import Derived.Test.YtdjhiegolojoaaaNest
import Derived.Test.YtdjhiegolojoaaaRow
namespace Go.Proofs.Ytdjhiegolojoaaa
open Go.RowKit

/-- Cell i of row g holds a slice over a row of its own behind g. -/
def filled (w : World) (g : Nat) (E : TypeId) (K : Nat) (f : Nat → Value) (L : List (Nat × List Int)) (i : Nat) : Prop :=
  ∃ gi, f i = .slice (some ⟨gi, 0, none⟩) (rowN L i) (rowN L i) ∧ g < gi ∧ w.rowIs gi E (rowN L i * K) (ints (rowZ L i))
def NestRow (w : World) (g : Nat) (T E : TypeId) (K n : Nat) (L : List (Nat × List Int)) : Prop := ∃ f, w.rowIs g T n f ∧ ∀ i, i < n → filled w g E K f L i
/-- .. the first k cells are filled, the others are nil. -/
def NestTo (w : World) (g : Nat) (T E : TypeId) (K n : Nat) (L : List (Nat × List Int)) (k : Nat) : Prop := ∃ f, w.rowIs g T n f ∧ (∀ i, i < k → filled w g E K f L i) ∧ ∀ i, k ≤ i → f i = .slice none 0 0

section
variable {w w' : World} {g : Nat} {T E : TypeId} {K n k : Nat} {L : List (Nat × List Int)} {f f' : Nat → Value} {i : Nat}
theorem filled.after (h : filled w g E K f L i) (hb : Below w.heap.size w w') : filled w' g E K f L i := by
  obtain ⟨gi, h1, h2, h3⟩ := h
  exact ⟨gi, h1, h2, h3.of_block (hb.block gi h3.lt)⟩
theorem NestTo.after (h : NestTo w g T E K n L k) (hb : Below w.heap.size w w') : NestTo w' g T E K n L k := by
  obtain ⟨f, h1, h2, h3⟩ := h
  exact ⟨f, h1.of_block (hb.block g h1.lt), fun i hi => (h2 i hi).after hb, h3⟩
theorem NestRow.after (h : NestRow w g T E K n L) (hb : Below w.heap.size w w') : NestRow w' g T E K n L := by
  obtain ⟨f, h1, h2⟩ := h
  exact ⟨f, h1.of_block (hb.block g h1.lt), fun i hi => (h2 i hi).after hb⟩
theorem NestRow.lt (h : NestRow w g T E K n L) : g < w.heap.size := by
  obtain ⟨f, h1, _⟩ := h
  exact h1.lt
theorem NestTo.cell (h : NestTo w g T E K n L k) (hk : k < n) : w.cell? ⟨g, k, none⟩ = some (.slice none 0 0) := by
  obtain ⟨f, h1, _, h3⟩ := h
  rw [h1.cell hk, h3 k (Nat.le_refl _)]
theorem NestTo.frozen (h : NestTo w g T E K n L k) (j : Nat) : w.frozen? ⟨g, j, none⟩ = false := by
  obtain ⟨f, h1, _, _⟩ := h
  exact h1.frozen j
theorem NestTo.start (w : World) (T E : TypeId) (K n : Nat) (L : List (Nat × List Int)) : NestTo (w.alloc (.cells (madeCells #[.slice none 0 0] n) T)) w.heap.size T E K n L 0 :=
  ⟨_, World.rowIs_made w (.slice none 0 0) n T, fun i hi => absurd hi (by omega), fun _ _ => rfl⟩
theorem NestTo.step {gi : Nat} (h : NestTo w g T E K n L k) (hg : g < gi) (hr : w.rowIs gi E (rowN L k * K) (ints (rowZ L k))) : NestTo (w.setCell ⟨g, k, none⟩ (.slice (some ⟨gi, 0, none⟩) (rowN L k) (rowN L k))) g T E K n L (k + 1) := by
  obtain ⟨f, h1, h2, h3⟩ := h
  refine ⟨_, h1.set k _, fun i hi => ?_, fun i hi => ?_⟩
  · by_cases hik : i = k
    · subst hik
      exact ⟨gi, by simp, hg, hr.of_block (Below.heap_setCell _ _ _ _ (by simp; omega))⟩
    · obtain ⟨gj, e1, e2, e3⟩ := h2 i (by omega)
      exact ⟨gj, by simp [hik, e1], e2, e3.of_block (Below.heap_setCell _ _ _ _ (by simp; omega))⟩
  · have : i ≠ k := by omega
    simp [this, h3 i (by omega)]
theorem NestTo.done (h : NestTo w g T E K n L n) : NestRow w g T E K n L := by
  obtain ⟨f, h1, h2, _⟩ := h
  exact ⟨f, h1, h2⟩
theorem NestRow.nestAt (h : NestRow w g T E K n L) (hL : L.length = n) (hl : ∀ i, i < n → (rowZ L i).length = rowN L i * K) (hr : ∀ i, i < n → rowN L i ≤ 1048576) : NestAt w w.heap.size K (some ⟨g, 0, none⟩) n L := by
  obtain ⟨f, h1, h2⟩ := h
  refine nestAt_row h1 hL fun i hi => ?_
  obtain ⟨gi, e1, e2, e3⟩ := h2 i hi
  exact ⟨_, _, e1, recsAt_row e3 (hl i hi) (fun k _ => rfl), Nat.le_refl _, by have := hr i hi; unfold maxLen; omega⟩
theorem NestAt.lens {B : Nat} {A : Option Addr} (h : NestAt w B K A n L) : ∀ i, i < n → (rowZ L i).length = rowN L i * K := by
  intro i hi
  obtain ⟨b, off, _, _, hc⟩ := h.2 (by omega)
  obtain ⟨_, _, _, hr, _⟩ := hc i hi
  exact hr.1
end

/-- How many records the first k elements hold together. -/
def sumN (L : List (Nat × List Int)) : Nat → Nat
  | 0 => 0
  | k + 1 => sumN L k + rowN L k
/-- What a count of sizes leaves: nothing (-1), or all is small. -/
def SzPost (l : Int) (n : Nat) (L : List (Nat × List Int)) (w : World) (e : Ending) (w' : World) : Prop :=
  ∃ r : Int, e = .returned (.int .i64 r) ∧ Below w.heap.size w w' ∧ (r = -1 ∨ (0 ≤ r ∧ r ≤ l ∧ (n : Int) ≤ l ∧ (∀ i, i < n → (rowN L i : Int) ≤ l) ∧ (sumN L n : Int) ≤ l))
theorem szPost_no {l : Int} {n : Nat} {L : List (Nat × List Int)} {w w' : World} (hb : Below w.heap.size w w') : SzPost l n L w (.returned (.int .i64 (-1))) w' := ⟨-1, rfl, hb, .inl rfl⟩
theorem szPost_ok {l r : Int} {n : Nat} {L : List (Nat × List Int)} {w w' : World} (hb : Below w.heap.size w w') (h0 : 0 ≤ r) (h1 : r ≤ l) (h2 : (n : Int) ≤ l) (h3 : ∀ i, i < n → (rowN L i : Int) ≤ l) (h4 : (sumN L n : Int) ≤ l) : SzPost l n L w (.returned (.int .i64 r)) w' := ⟨r, rfl, hb, .inr ⟨h0, h1, h2, h3, h4⟩⟩
end Go.Proofs.Ytdjhiegolojoaaa
