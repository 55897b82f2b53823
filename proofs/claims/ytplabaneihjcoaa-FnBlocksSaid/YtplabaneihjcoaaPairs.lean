/-
  Words for a slice of slices of two ints each that the call itself makes. No Go function is spoken of here.
-/
import Derived.Test.YtplabaneihjcoaaOwnC
import Derived.Test.YtplabaneihjcoaaBoxS
import Derived.Test.YtplabaneihjcoaaInside
namespace Go.Proofs.Ytplabaneihjcoaa
open Go.RowKit

theorem infoIntSS : (Try.prog.info? 25).map (fun i => (i.zero, i.size, i.bytes)) = some (some (.slice none 0 0), 1, 24) := by kernel_rfl

/-- Slice value '.slice A m c' holds m slices of two ints each: the i-th one L (2 i) and L (2 i + 1). -/
def PrsAt (w : World) (B : Nat) (A : Option Addr) (m : Nat) (L : Nat → Int) : Prop :=
  0 < m → ∃ b off, A = some ⟨b, off, none⟩ ∧ b < B ∧ ∀ i, i < m → ∃ g, w.cell? ⟨b, off + i, none⟩ = some (.slice (some ⟨g, 0, none⟩) 2 2) ∧ g < B ∧ w.cell? ⟨g, 0, none⟩ = some (.int .i64 (L (i * 2))) ∧ w.cell? ⟨g, 1, none⟩ = some (.int .i64 (L (i * 2 + 1)))
theorem PrsAt.below {w w' : World} {A : Option Addr} {m B : Nat} {L : Nat → Int} (h : PrsAt w B A m L) (hb : Below B w w') : PrsAt w' B A m L := fun hm => by
  obtain ⟨b, off, e, hbl, hc⟩ := h hm
  refine ⟨b, off, e, hbl, fun i hi => ?_⟩
  obtain ⟨g, h1, h2, h3, h4⟩ := hc i hi
  exact ⟨g, (hb.cell (p := ⟨b, off + i, none⟩) hbl).trans h1, h2, (hb.cell (p := ⟨g, 0, none⟩) h2).trans h3, (hb.cell (p := ⟨g, 1, none⟩) h2).trans h4⟩
theorem PrsAt.mono {w : World} {A : Option Addr} {m B B' : Nat} {L : Nat → Int} (h : PrsAt w B A m L) (hb : B ≤ B') : PrsAt w B' A m L := fun hm => by
  obtain ⟨b, off, e, hbl, hc⟩ := h hm
  refine ⟨b, off, e, by omega, fun i hi => ?_⟩
  obtain ⟨g, h1, h2, h3, h4⟩ := hc i hi
  exact ⟨g, h1, by omega, h3, h4⟩
theorem PrsAt.after {w w' : World} {A : Option Addr} {m : Nat} {L : Nat → Int} (h : PrsAt w w.heap.size A m L) (hb : Below w.heap.size w w') : PrsAt w' w'.heap.size A m L := (h.below hb).mono hb.size
theorem ints2 {w : World} {g : Nat} {a b : Int} (h0 : w.cell? ⟨g, 0, none⟩ = some (.int .i64 a)) (h1 : w.cell? ⟨g, 1, none⟩ = some (.int .i64 b)) {B : Nat} (hg : g < B) : IntsAt w B (some ⟨g, 0, none⟩) 2 [a, b] := by
  refine ⟨rfl, fun _ => ⟨g, 0, rfl, hg, fun i hi => ?_⟩⟩
  match i, hi with
  | 0, _ => exact h0
  | 1, _ => exact h1
  | i + 2, hi => omega

/-- The rows behind the cells cs: the i-th one in block G i, from base on, one behind the other. -/
structure Prs (w : World) (base : Nat) (cs : List Value) (m : Nat) (G : Nat → Nat) (L : Nat → Int) : Prop where
  row : ∀ i, i < m → cs[i]? = some (.slice (some ⟨G i, 0, none⟩) 2 2) ∧ base ≤ G i ∧ RowF w (G i) 3 2 (fun j => .int .i64 (L (i * 2 + j)))
  up : ∀ i j, i < j → j < m → G i < G j
theorem Prs.after {w w' : World} {base m : Nat} {cs : List Value} {G : Nat → Nat} {L : Nat → Int} (h : Prs w base cs m G L) (hb : Below w.heap.size w w') : Prs w' base cs m G L :=
  ⟨fun i hi => by obtain ⟨h1, h2, h3⟩ := h.row i hi; exact ⟨h1, h2, h3.after hb⟩, h.up⟩
theorem Prs.nil (w : World) (base : Nat) (L : Nat → Int) : Prs w base [] 0 (fun _ => 0) L := ⟨fun i hi => absurd hi (by omega), fun i j _ hj => absurd hj (by omega)⟩
theorem Prs.snoc {w : World} {base k g : Nat} {cs : List Value} {G : Nat → Nat} {L : Nat → Int} (h : Prs w base cs k G L) (hl : cs.length = k) (hb : base ≤ g) (hup : ∀ i, i < k → G i < g) (hr : RowF w g 3 2 (ints [L (k * 2), L (k * 2 + 1)])) : Prs w base (cs ++ [.slice (some ⟨g, 0, none⟩) 2 2]) (k + 1) (fun i => if i = k then g else G i) L := by
  refine ⟨fun i hi => ?_, fun i j hij hj => ?_⟩
  · by_cases e : i = k
    · subst e
      refine ⟨by rw [← hl]; simp, by simpa using hb, ?_⟩
      simp only [if_pos]
      exact hr.congr (fun j hj => by match j, hj with | 0, _ => rfl | 1, _ => rfl)
    · obtain ⟨h1, h2, h3⟩ := h.row i (by omega)
      simp only [if_neg e]
      exact ⟨by rw [List.getElem?_append_left (by omega)]; exact h1, h2, h3⟩
  · have : ¬ i = k := by omega
    simp only [if_neg this]
    by_cases e : j = k
    · subst e; simp only [if_pos]; exact hup i (by omega)
    · simp only [if_neg e]; exact h.up i j hij (by omega)

/-- A slice of pairs that the call itself has made, from block base on. -/
def OwnSS (w : World) (base : Nat) (v : Value) (m : Nat) (L : Nat → Int) : Prop := ∃ cs G, OwnC w base 25 v m cs ∧ Prs w base cs m G L
section
variable {w w' : World} {base m : Nat} {v : Value} {L L' : Nat → Int}
theorem OwnSS.below (h : OwnSS w base v m L) (hb : Below w.heap.size w w') : OwnSS w' base v m L := by
  obtain ⟨cs, G, h1, h2⟩ := h
  exact ⟨cs, G, h1.below hb, h2.after hb⟩
theorem OwnSS.after (h : OwnSS w base v m L) (hb : Below w.heap.size w w') : OwnSS w' base v m L := h.below hb
theorem OwnSS.slice (h : OwnSS w base v m L) : ∃ A c, v = .slice A m c ∧ m ≤ c := by
  obtain ⟨cs, G, h1, h2⟩ := h
  exact h1.slice
theorem OwnSS.mono {base' : Nat} (h : OwnSS w base v m L) (hb : base' ≤ base) : OwnSS w base' v m L := by
  obtain ⟨cs, G, ⟨⟨h1, h1'⟩, h4⟩, h2, h3⟩ := h
  refine ⟨cs, G, ⟨⟨h1, ?_⟩, h4⟩, fun i hi => ?_, h3⟩
  · rcases h1' with h | ⟨g, cap, cur, e1, e2, e3⟩
    · exact .inl h
    · exact .inr ⟨g, cap, cur, e1, by omega, e3⟩
  · obtain ⟨a, b, c⟩ := h2 i hi
    exact ⟨a, by omega, c⟩
theorem OwnSS.recs {A : Option Addr} {c : Nat} (h : OwnSS w base (.slice A m c) m L) : PrsAt w w.heap.size A m L := fun hm => by
  obtain ⟨cs, G, h1, h2⟩ := h
  rcases h1.form with ⟨_, h2, _⟩ | ⟨g, cap, e, _, _, hgl, hcc⟩
  · omega
  · simp only [Value.slice.injEq, true_and] at e
    obtain ⟨rfl, rfl⟩ := e
    refine ⟨g, 0, rfl, hgl, fun i hi => ?_⟩
    obtain ⟨e1, _, e3⟩ := h2.row i hi
    exact ⟨G i, by rw [Nat.zero_add, hcc i hi, e1], e3.lt, e3.cell (by omega), e3.cell (by omega)⟩
theorem OwnSS.new (w : World) (base : Nat) (h : base ≤ w.heap.size) (L : Nat → Int) : OwnSS (w.alloc (.cells #[] 25)) base (.slice (some ⟨w.heap.size, 0, none⟩) 0 0) 0 L :=
  OwnSS.mono ⟨[], fun _ => 0, OwnC.new _ _, Prs.nil _ _ _⟩ h
/-- What a caller sees of it where only the blocks of another range have turned. -/
theorem Inside.ownSS {lo hi : Nat} (h : Inside lo hi w w') (ho : OwnSS w base v m L) (hb : hi ≤ base) : OwnSS w' base v m L := by
  obtain ⟨cs, G, ⟨⟨h1, h1'⟩, h4⟩, h2, h3⟩ := ho
  refine ⟨cs, G, ⟨⟨h1, ?_⟩, h4⟩, fun i hi' => ?_, h3⟩
  · rcases h1' with h2 | ⟨g, cap, cur, e1, e2, e3, hr⟩
    · exact .inl h2
    · exact .inr ⟨g, cap, cur, e1, e2, (h.block g (Array.getElem?_eq_some_iff.1 e3).1 (.inr (by omega))).trans e3, hr⟩
  · obtain ⟨a, b, c⟩ := h2 i hi'
    exact ⟨a, b, c.of_block (h.block _ c.lt (.inr (by omega)))⟩
end
end Go.Proofs.Ytplabaneihjcoaa
