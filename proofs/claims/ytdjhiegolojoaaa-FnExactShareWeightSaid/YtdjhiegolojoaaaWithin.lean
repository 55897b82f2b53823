/-
  Words: only the blocks of a range have turned; rows of ints in such a range. No Go function is spoken of here.
-/
import Derived.Test.YtdjhiegolojoaaaNestRow
import Derived.Test.YtdjhiegolojoaaaOnly
namespace Go.Proofs.Ytdjhiegolojoaaa
open Go.RowKit

/-- Of all memory only blocks lo, .., hi - 1 may have turned; no block is new. -/
structure Within (lo hi : Nat) (w w' : World) : Prop where
  os : w'.os = w.os
  tape : w'.tape = w.tape
  output : w'.output = w.output
  size : w'.heap.size = w.heap.size
  block : ∀ k, k < lo ∨ hi ≤ k → w'.heap[k]? = w.heap[k]?

section
variable {lo hi : Nat} {w w' w'' : World}
theorem Within.refl (lo hi : Nat) (w : World) : Within lo hi w w := ⟨rfl, rfl, rfl, rfl, fun _ _ => rfl⟩
theorem Within.trans (h : Within lo hi w w') (h' : Within lo hi w' w'') : Within lo hi w w'' := ⟨h'.os.trans h.os, h'.tape.trans h.tape, h'.output.trans h.output, h'.size.trans h.size, fun k hk => (h'.block k hk).trans (h.block k hk)⟩
theorem Within.of_only {g : Nat} (h : Only g w w') (h1 : lo ≤ g) (h2 : g < hi) : Within lo hi w w' := ⟨h.os, h.tape, h.output, h.size, fun k hk => h.block k (by omega)⟩
theorem Within.below (h : Within lo hi w w') : Below lo w w' := ⟨h.os, h.tape, h.output, Nat.le_of_eq h.size.symm, fun k hk => h.block k (.inl hk)⟩
theorem Within.row {g : Nat} {t : TypeId} {n : Nat} {f : Nat → Value} (h : Within lo hi w w') (hr : w.rowIs g t n f) (hg : g < lo ∨ hi ≤ g) : w'.rowIs g t n f := hr.of_block (h.block g hg)
theorem Within.own {base : Nat} {E : TypeId} {v : Value} {xs : List Int} (h : Within lo hi w w') (ho : OwnV w base E v xs) (hb : hi ≤ base) : OwnV w' base E v xs := by
  rcases ho.form with ⟨rfl, rfl⟩ | ⟨g', cap, rfl, hi'⟩
  · exact OwnV.nil _ _ _
  · refine ⟨hi'.1, ?_⟩
    rcases hi'.2 with h2 | ⟨g'', cap', cur, h1, h2, h3, hr⟩
    · exact .inl h2
    · simp at h1
      obtain ⟨rfl, rfl⟩ := h1
      exact .inr ⟨g', cap, cur, rfl, h2, (h.block g' (.inr (by omega))).trans h3, hr⟩
theorem Within.cell (h : Within lo hi w w') {p : Addr} (hp : p.block < lo ∨ hi ≤ p.block) : w'.cell? p = w.cell? p := World.cell?_of_block (w := w) (h.block _ hp)
theorem Within.box {b : Nat} {v : Value} (h : Within lo hi w w') (hb : w.cell? ⟨b, 0, none⟩ = some v ∧ b < w.heap.size) (hp : b < lo ∨ hi ≤ b) : w'.cell? ⟨b, 0, none⟩ = some v ∧ b < w'.heap.size := ⟨(h.cell (p := ⟨b, 0, none⟩) hp).trans hb.1, by rw [h.size]; exact hb.2⟩
end

theorem intRow_marks {f : Nat → Value} (h : IntRow f) (k0 : Int) (m : Nat) : IntRow (marks f k0 m) := by
  intro j
  unfold marks
  split
  · exact ⟨_, rfl⟩
  · exact h j

/-- A row of ints in a block of a range. -/
def RowI (w : World) (lo hi g : Nat) (E : TypeId) (m : Nat) : Prop := ∃ f, w.rowIs g E m f ∧ IntRow f ∧ lo ≤ g ∧ g < hi
section
variable {w w' : World} {lo hi g : Nat} {E : TypeId} {m : Nat}
theorem RowI.of_row {f : Nat → Value} (h : w.rowIs g E m f) (hi' : IntRow f) (h1 : lo ≤ g) (h2 : w.heap.size ≤ hi) : RowI w lo hi g E m := ⟨f, h, hi', h1, Nat.lt_of_lt_of_le h.lt h2⟩
theorem RowI.after (h : RowI w lo hi g E m) (hb : Below w.heap.size w w') : RowI w' lo hi g E m := by
  obtain ⟨f, h1, h2⟩ := h
  exact ⟨f, h1.of_block (hb.block g h1.lt), h2⟩
theorem RowI.within {lo' hi' : Nat} (h : RowI w lo hi g E m) (hw : Within lo' hi' w w') (hd : hi ≤ lo' ∨ hi' ≤ lo) : RowI w' lo hi g E m := by
  obtain ⟨f, h1, h2, h3, h4⟩ := h
  exact ⟨f, hw.row h1 (by omega), h2, h3, h4⟩
end

/-- A row of cells, each a slice over a row of ints, all in blocks of a range. -/
def NestInts (w : World) (lo hi g : Nat) (T E : TypeId) (K n : Nat) (L : List (Nat × List Int)) : Prop :=
  lo ≤ g ∧ ∃ f, w.rowIs g T n f ∧ ∀ i, i < n → ∃ gi fi, f i = .slice (some ⟨gi, 0, none⟩) (rowN L i) (rowN L i) ∧ g < gi ∧ gi < hi ∧ w.rowIs gi E (rowN L i * K) fi ∧ IntRow fi
section
variable {w w' : World} {lo hi g : Nat} {T E : TypeId} {K n : Nat} {L : List (Nat × List Int)}
theorem NestInts.low (h : NestInts w lo hi g T E K n L) : lo ≤ g := h.1
theorem NestInts.of_row (h : NestRow w g T E K n L) (h1 : lo ≤ g) (h2 : w.heap.size ≤ hi) : NestInts w lo hi g T E K n L := by
  obtain ⟨f, hr, hf⟩ := h
  refine ⟨h1, f, hr, fun i hi' => ?_⟩
  obtain ⟨gi, e1, e2, e3⟩ := hf i hi'
  exact ⟨gi, _, e1, e2, Nat.lt_of_lt_of_le e3.lt h2, e3, intRow_ints _⟩
theorem NestInts.after (h : NestInts w lo hi g T E K n L) (hb : Below w.heap.size w w') : NestInts w' lo hi g T E K n L := by
  obtain ⟨h1, f, hr, hf⟩ := h
  refine ⟨h1, f, hr.of_block (hb.block g hr.lt), fun i hi' => ?_⟩
  obtain ⟨gi, fi, e1, e2, e3, e4, e5⟩ := hf i hi'
  exact ⟨gi, fi, e1, e2, e3, e4.of_block (hb.block gi e4.lt), e5⟩
theorem NestInts.get (h : NestInts w lo hi g T E K n L) {i : Nat} (hi' : i < n) : ∃ gi fi, w.cell? ⟨g, i, none⟩ = some (.slice (some ⟨gi, 0, none⟩) (rowN L i) (rowN L i)) ∧ g < gi ∧ gi < hi ∧ w.rowIs gi E (rowN L i * K) fi ∧ IntRow fi := by
  obtain ⟨_, f, hr, hf⟩ := h
  obtain ⟨gi, fi, e1, e2⟩ := hf i hi'
  exact ⟨gi, fi, by rw [hr.cell hi', e1], e2⟩
theorem rowIs_size {t : TypeId} {m m' : Nat} {f f' : Nat → Value} (h : w.rowIs g t m f) (h' : w.rowIs g t m' f') : m = m' := by
  obtain ⟨c, hb, hn, _⟩ := h
  obtain ⟨c', hb', hn', _⟩ := h'
  rw [hb] at hb'
  simp at hb'
  rw [← hn, ← hn', hb']
theorem NestInts.only {gk m : Nat} {fk fk' : Nat → Value} (h : NestInts w lo hi g T E K n L) (hg : g < gk) (ho : Only gk w w') (hr0 : w.rowIs gk E m fk) (hr : w'.rowIs gk E m fk') (hk : IntRow fk') : NestInts w' lo hi g T E K n L := by
  obtain ⟨h1, f, hrow, hf⟩ := h
  refine ⟨h1, f, ho.row hrow (by omega), fun i hi' => ?_⟩
  obtain ⟨gi, fi, e1, e2, e3, e4, e5⟩ := hf i hi'
  by_cases e : gi = gk
  · subst e
    have := rowIs_size e4 hr0
    exact ⟨gi, fk', e1, e2, e3, by rw [this]; exact hr, hk⟩
  · exact ⟨gi, fi, e1, e2, e3, ho.row e4 e, e5⟩
theorem NestInts.within {lo' hi' : Nat} (h : NestInts w lo hi g T E K n L) (hg : g < hi) (hw : Within lo' hi' w w') (hd : hi ≤ lo' ∨ hi' ≤ lo) : NestInts w' lo hi g T E K n L := by
  obtain ⟨h1, f, hrow, hf⟩ := h
  refine ⟨h1, f, hw.row hrow (by omega), fun i hi' => ?_⟩
  obtain ⟨gi, fi, e1, e2, e3, e4, e5⟩ := hf i hi'
  exact ⟨gi, fi, e1, e2, e3, hw.row e4 (by omega), e5⟩
theorem sumN_mono (L : List (Nat × List Int)) {k n : Nat} (h : k ≤ n) : sumN L k ≤ sumN L n := by
  induction n with
  | zero => obtain rfl : k = 0 := by omega
            exact Nat.le_refl _
  | succ n ih =>
    by_cases e : k = n + 1
    · subst e; exact Nat.le_refl _
    · have := ih (by omega)
      simp only [sumN]
      omega
end
end Go.Proofs.Ytdjhiegolojoaaa
