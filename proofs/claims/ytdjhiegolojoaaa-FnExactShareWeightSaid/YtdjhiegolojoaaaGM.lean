/-
  Words for a grown nest whose rows are marked. No Go function is spoken of here.
-/
import Derived.Test.YtdjhiegolojoaaaGN
import Derived.Test.YtdjhiegolojoaaaRMark
import Derived.Test.YtdjhiegolojoaaaRVault
namespace Go.Proofs.Ytdjhiegolojoaaa
open Go.RowKit
set_option linter.unusedSimpArgs false
set_option linter.unusedVariables false

/-- Only blocks of type E from base on may have turned. -/
structure Turn (base : Nat) (E : TypeId) (w w' : World) : Prop where
  os : w'.os = w.os
  tape : w'.tape = w.tape
  output : w'.output = w.output
  size : w'.heap.size = w.heap.size
  block : ∀ b, (b < base ∨ ∀ c, w.heap[b]? ≠ some (.cells c E)) → w'.heap[b]? = w.heap[b]?
theorem Turn.refl (base : Nat) (E : TypeId) (w : World) : Turn base E w w := ⟨rfl, rfl, rfl, rfl, fun _ _ => rfl⟩
theorem Turn.trans {base : Nat} {E : TypeId} {a b c : World} (h : Turn base E a b) (h' : Turn base E b c) : Turn base E a c :=
  ⟨h'.os.trans h.os, h'.tape.trans h.tape, h'.output.trans h.output, h'.size.trans h.size, fun k hk => by
    have e := h.block k hk
    refine (h'.block k ?_).trans e
    rcases hk with hk | hk
    · exact .inl hk
    · exact .inr fun x => by rw [e]; exact hk x⟩
theorem Turn.of_only {base g m : Nat} {E : TypeId} {f : Nat → Value} {w w' : World} (h : Only g w w') (hr : RowF w g E m f) (hg : base ≤ g) : Turn base E w w' :=
  ⟨h.os, h.tape, h.output, h.size, fun k hk => h.block k (fun e => by
    subst e
    obtain ⟨c, hc, _⟩ := hr
    rcases hk with hk | hk
    · omega
    · exact hk c hc)⟩
theorem Turn.below {base : Nat} {E : TypeId} {w w' : World} (h : Turn base E w w') : Below base w w' := ⟨h.os, h.tape, h.output, Nat.le_of_eq h.size.symm, fun k hk => h.block k (.inl hk)⟩

/-- A grown nest whose rows are only known up to their spare room. -/
structure GM (w : World) (base : Nat) (T E : TypeId) (K : Nat) (v : Value) (n : Nat) (cs : List Value) (L : List (Nat × List Int)) : Prop where
  cells : OwnC w base T v n cs
  row : ∀ i, i < n → ∃ g c, cs[i]? = some (.slice (some ⟨g, 0, none⟩) (rowN L i) c) ∧ base ≤ g ∧ rowN L i ≤ c ∧ c ≤ maxLen ∧ RowF w g E (rowN L i * K) (ints (rowZ L i)) ∧ (rowZ L i).length = rowN L i * K
  apart : ∀ i j, i < n → j < n → i ≠ j → ∀ g, (cs[i]?).bind Value.ownBlock = some g → (cs[j]?).bind Value.ownBlock ≠ some g
def mkTo (L : List (Nat × List Int)) (n K : Nat) (k0 : Int) (k : Nat) : List (Nat × List Int) :=
  (List.range n).map fun i => if i < k then (rowN L i, iota (k0 + (sumN L i * K : Nat)) (rowN L i * K)) else (rowN L i, rowZ L i)
section
variable {w w' : World} {base : Nat} {T E : TypeId} {K n : Nat} {v : Value} {cs : List Value} {L : List (Nat × List Int)}
theorem mkTo_len (L : List (Nat × List Int)) (n K : Nat) (k0 : Int) (k : Nat) : (mkTo L n K k0 k).length = n := by simp [mkTo]
theorem mkTo_get {k0 : Int} {k i : Nat} (hi : i < n) : (mkTo L n K k0 k).getD i (0, []) = if i < k then (rowN L i, iota (k0 + (sumN L i * K : Nat)) (rowN L i * K)) else (rowN L i, rowZ L i) := by simp [mkTo, List.getD, hi]
theorem mkTo_n {k0 : Int} {k i : Nat} (hi : i < n) : rowN (mkTo L n K k0 k) i = rowN L i := by
  rw [rowN, mkTo_get hi]; split <;> rfl
theorem mkTo_lt {k0 : Int} {k i : Nat} (hi : i < n) (hk : i < k) : rowZ (mkTo L n K k0 k) i = iota (k0 + (sumN L i * K : Nat)) (rowN L i * K) := by
  rw [rowZ, mkTo_get hi, if_pos hk]
theorem mkTo_ge {k0 : Int} {k i : Nat} (hi : i < n) (hk : ¬ i < k) : rowZ (mkTo L n K k0 k) i = rowZ L i := by
  rw [rowZ, mkTo_get hi, if_neg hk]
theorem sumN_congr {L' : List (Nat × List Int)} : ∀ k, (∀ i, i < k → rowN L' i = rowN L i) → sumN L' k = sumN L k
  | 0, _ => rfl
  | k + 1, h => by rw [sumN, sumN, sumN_congr k (fun i hi => h i (by omega)), h k (by omega)]
theorem GN.gm (h : GN w base T E K v n cs L) : GM w base T E K v n cs L := by
  refine ⟨h.cells, fun i hi => ?_, h.apart⟩
  obtain ⟨g, c, h1, h2⟩ := h.row i hi
  rcases h2.form with ⟨e, _⟩ | ⟨g0, cap, e, hb, hc, hr⟩
  · simp at e
  · simp at e
    obtain ⟨rfl, rfl⟩ := e
    refine ⟨g, c, h1, hb, hc, ?_, hr, h2.2⟩
    rcases h2.1.2 with ⟨e, _⟩ | ⟨g0, cap0, cur, e, _, _, h4, h5, _⟩
    · simp at e
    · simp at e
      omega
theorem GM.keep (h : GM w base T E K v n cs L) (e : ∀ g c X, w.heap[g]? = some (.cells c X) → base ≤ g → X = T ∨ X = E → w'.heap[g]? = w.heap[g]?) : GM w' base T E K v n cs L := by
  refine ⟨h.cells.ofBlock fun g hg => ?_, fun i hi => ?_, h.apart⟩
  · obtain ⟨c, hc⟩ := h.cells.typeAt g hg
    exact e g c T hc (h.cells.ownLt g hg) (.inl rfl)
  · obtain ⟨g, c, h1, h2, h3, h4, h5, h6⟩ := h.row i hi
    refine ⟨g, c, h1, h2, h3, h4, h5.of_block ?_, h6⟩
    obtain ⟨c', hc', _⟩ := h5
    exact e g c' E hc' h2 (.inr rfl)
theorem GM.after (h : GM w base T E K v n cs L) (hb : Below w.heap.size w w') : GM w' base T E K v n cs L :=
  h.keep fun g _ _ hg _ _ => hb.block g (Array.getElem?_eq_some_iff.1 hg).1
/-- Turns of another type's blocks leave it. -/
theorem GM.turn (h : GM w base T E K v n cs L) {b : Nat} {X : TypeId} (ht : Turn b X w w') (h1 : X ≠ T) (h2 : X ≠ E) : GM w' base T E K v n cs L :=
  h.keep fun g c Y hg _ hY => ht.block g (.inr fun c' e => by
    rw [hg] at e
    simp at e
    rcases hY with hY | hY
    · exact h1 (e.2.symm.trans hY)
    · exact h2 (e.2.symm.trans hY))
theorem GM.nestAt {A : Option Addr} {c : Nat} (h : GM w base T E K (.slice A n c) n cs L) (hL : L.length = n) : NestAt w w.heap.size K A n L := by
  refine ⟨hL, fun hn => ?_⟩
  rcases h.cells.form with ⟨_, h2, _⟩ | ⟨g, cap, e, _, _, hgl, hc⟩
  · omega
  · simp at e
    obtain ⟨rfl, rfl⟩ := e
    refine ⟨g, 0, rfl, hgl, fun i hi => ?_⟩
    obtain ⟨gi, ci, h1, h2, h3, h4, h5, h6⟩ := h.row i hi
    exact ⟨_, ci, by rw [Nat.zero_add, hc i hi, h1], h5.recs h6, h3, h4⟩
theorem GM.congr {L' : List (Nat × List Int)} (h : GM w base T E K v n cs L) (e : ∀ i, i < n → rowN L' i = rowN L i ∧ rowZ L' i = rowZ L i) : GM w base T E K v n cs L' := by
  refine ⟨h.cells, fun i hi => ?_, h.apart⟩
  obtain ⟨e1, e2⟩ := e i hi
  rw [e1, e2]
  exact h.row i hi
theorem GM.start {k0 : Int} (h : GM w base T E K v n cs L) : GM w base T E K v n cs (mkTo L n K k0 0) := h.congr fun i hi => ⟨mkTo_n hi, mkTo_ge hi (by omega)⟩
theorem GM.get {A : Option Addr} {c i : Nat} (h : GM w base T E K (.slice A n c) n cs L) (hi : i < n) : ∃ g gi ci, A = some ⟨g, 0, none⟩ ∧ w.cell? ⟨g, i, none⟩ = some (.slice (some ⟨gi, 0, none⟩) (rowN L i) ci) ∧ cs[i]? = some (.slice (some ⟨gi, 0, none⟩) (rowN L i) ci) ∧ RowF w gi E (rowN L i * K) (ints (rowZ L i)) ∧ base ≤ gi := by
  rcases h.cells.form with ⟨_, h2, _⟩ | ⟨g, cap, e, _, _, hgl, hc⟩
  · omega
  · simp at e
    obtain ⟨rfl, rfl⟩ := e
    obtain ⟨gi, ci, h1, h2, h3, h4, h5, h6⟩ := h.row i hi
    exact ⟨g, gi, ci, rfl, by rw [hc i hi, h1], h1, h5, h2⟩
theorem GM.step {k0 : Int} {k gk ck : Nat} {f : Nat → Value} (hTE : T ≠ E) (h : GM w base T E K v n cs (mkTo L n K k0 k)) (hk : k < n) (hc : cs[k]? = some (.slice (some ⟨gk, 0, none⟩) (rowN L k) ck)) (ho : Only gk w w')
    (hr : RowF w' gk E (rowN L k * K) (marks f (k0 + (sumN L k * K : Nat)) (rowN L k * K))) : GM w' base T E K v n cs (mkTo L n K k0 (k + 1)) := by
  obtain ⟨g0, c0, e0, q1, q2, q3, q4, q5⟩ := h.row k hk
  rw [hc] at e0
  simp [mkTo_n hk] at e0
  obtain ⟨rfl, rfl⟩ := e0
  refine ⟨h.cells.ofBlock fun g hg => ho.block g (fun e => ?_), fun i hi => ?_, h.apart⟩
  · subst e
    obtain ⟨c, hc'⟩ := h.cells.typeAt g hg
    obtain ⟨c', hc2, _⟩ := q4
    rw [hc'] at hc2
    simp at hc2
    exact hTE hc2.2
  · rw [mkTo_n hi]
    by_cases e : i = k
    · subst e
      rw [mkTo_lt hi (by omega)]
      refine ⟨gk, ck, hc, q1, by rwa [mkTo_n hi] at q2, q3, hr.congr (fun j hj => ?_), by simp [iota]⟩
      rw [ints_def, nth_iota hj, marks, if_pos hj]
    · obtain ⟨gi, ci, p1, p2, p3, p4, p5, p6⟩ := h.row i hi
      have ez : rowZ (mkTo L n K k0 (k + 1)) i = rowZ (mkTo L n K k0 k) i := by
        by_cases hlt : i < k
        · rw [mkTo_lt hi hlt, mkTo_lt hi (by omega)]
        · rw [mkTo_ge hi hlt, mkTo_ge hi (by omega)]
      rw [mkTo_n hi] at p1 p3 p5 p6
      rw [ez]
      refine ⟨gi, ci, p1, p2, p3, p4, p5.of_block (ho.block gi (fun e2 => ?_)), p6⟩
      subst e2
      exact h.apart i k hi hk e gi (by rw [p1]; rfl) (by rw [hc]; rfl)
theorem NestInts.turn {lo hi g b : Nat} {X : TypeId} (h : NestInts w lo hi g T E K n L) (ht : Turn b X w w') (h1 : X ≠ T) (h2 : X ≠ E) : NestInts w' lo hi g T E K n L := by
  obtain ⟨h0, f, hrow, hf⟩ := h
  have key : ∀ (g' m : Nat) (Y : TypeId) (f' : Nat → Value), w.rowIs g' Y m f' → X ≠ Y → w'.rowIs g' Y m f' := fun g' m Y f' hr hne => hr.of_block (ht.block g' (.inr fun c e => by
    obtain ⟨c', hc', _⟩ := hr
    rw [hc'] at e
    simp at e
    exact hne e.2.symm))
  refine ⟨h0, f, key _ _ _ _ hrow h1, fun i hi' => ?_⟩
  obtain ⟨gi, fi, e1, e2, e3, e4, e5⟩ := hf i hi'
  exact ⟨gi, fi, e1, e2, e3, key _ _ _ _ e4 h2, e5⟩
end
end Go.Proofs.Ytdjhiegolojoaaa
