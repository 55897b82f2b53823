/-
  Words for one cell that holds a slice of records, and for a slice of such cells (a slice of stones, of arches, of lists). No Go function is spoken of here.
-/
import Derived.Test.YtdjhiegolojoaaaRec
namespace Go.Proofs.Ytdjhiegolojoaaa
open Go.ChangeShapes Go.WideShapes Go.ChangeAt Go.RowKit

/-- A type of one cell: a slice of records of K ints (perhaps as the only field of a struct). -/
def Holds1 (P : Program) (e : TypeId) (K : Nat) : Prop :=
  P.cellsOf e = 1 ∧ ∀ (H : Type) (enc : TypeId × Value → H) (w : World) (fuel : Nat) (v : Value) (x : DataW H × List MemPlace),
    DataW.trod enc P w 0 (fun _ => true) true fuel e [v] = some x → (∀ p ∈ x.2, p.block < w.heap.size) →
      ∃ (A : Option Addr) (n c : Nat) (zs : List Int), v = .slice A n c ∧ RecsAt w w.heap.size K A n zs ∧ n ≤ c ∧ c ≤ maxLen ∧ ∀ i, -9223372036854775808 ≤ nth zs i ∧ nth zs i ≤ 9223372036854775807

theorem holds1_slice {P : Program} {t e : TypeId} {K : Nat} (ht : P.underlying t = some (.slice e)) (hfl : Flat P e K) (hK : 0 < K) (hc : P.cellsOf t = 1) : Holds1 P t K :=
  ⟨hc, fun _ _ _ _ _ _ h hlt => open_recs_cell ht hfl hK h hlt⟩
theorem holds1_struct {P : Program} {t : TypeId} {f : Field} {K : Nat} (ht : P.underlying t = some (.struct #[f])) (h1 : Holds1 P f.type K) (ho : f.offset = 0) (hc : P.cellsOf t = 1) : Holds1 P t K := by
  refine ⟨hc, fun H enc w fuel v x h hlt => ?_⟩
  obtain ⟨y0, n, rfl, _, hy⟩ := trod_struct1 ht h
  rw [ho, h1.1] at hy
  exact h1.2 H enc w n v y0 (by simpa using hy) (by simpa using hlt)

/-- An argument that is such a struct. -/
theorem open_hold_arg {H : Type} {enc : TypeId × Value → H} {P : Program} {W : World} {base : Nat} {t : TypeId} {f : Field} {K : Nat} {v : Value} {d : DataW H} {p : List MemPlace} (ht : P.underlying t = some (.struct #[f])) (h1 : Holds1 P t K)
    (hv : Value.okWide P W .any base t v) (h : DataW.Trod enc P W 0 (fun _ => true) true t v d p) (hlt : ∀ x ∈ p, x.block < W.heap.size) :
    ∃ (A : Option Addr) (n c : Nat) (zs : List Int), v = .agg #[.slice A n c] ∧ RecsAt W W.heap.size K A n zs ∧ n ≤ c ∧ c ≤ maxLen ∧ ∀ i, -9223372036854775808 ≤ nth zs i ∧ nth zs i ≤ 9223372036854775807 := by
  obtain ⟨cs, rfl, hsz⟩ := okWide_struct ht hv
  rw [h1.1] at hsz
  obtain ⟨u, rfl⟩ : ∃ u, cs = #[u] := by
    obtain ⟨l⟩ := cs
    match l, hsz with
    | [u], _ => exact ⟨u, rfl⟩
  obtain ⟨fuel, hf⟩ := h
  obtain ⟨A, n, c, zs, rfl, hr⟩ := h1.2 H enc W fuel u (d, p) hf hlt
  exact ⟨A, n, c, zs, rfl, hr⟩

/-! ### A slice of such cells -/
/-- How many records, and which ints, the i-th element holds. -/
def rowN (L : List (Nat × List Int)) (i : Nat) : Nat := (L.getD i (0, [])).1
def rowZ (L : List (Nat × List Int)) (i : Nat) : List Int := (L.getD i (0, [])).2

/-- Slice value '.slice A n c' holds n cells, each a slice of records of K ints, all in blocks below B. -/
def NestAt (w : World) (B K : Nat) (A : Option Addr) (n : Nat) (L : List (Nat × List Int)) : Prop :=
  L.length = n ∧ (0 < n → ∃ b off, A = some ⟨b, off, none⟩ ∧ b < B ∧ ∀ i, i < n → ∃ (Ai : Option Addr) (ci : Nat), w.cell? ⟨b, off + i, none⟩ = some (.slice Ai (rowN L i) ci) ∧ RecsAt w B K Ai (rowN L i) (rowZ L i) ∧ rowN L i ≤ ci ∧ ci ≤ maxLen)

section
variable {w w' : World} {B B' K n : Nat} {A : Option Addr} {L : List (Nat × List Int)}
theorem NestAt.keep (h : NestAt w B K A n L) (hk : ∀ p : Addr, p.block < B → w'.cell? p = w.cell? p) : NestAt w' B K A n L :=
  ⟨h.1, fun hn => by
    obtain ⟨b, off, e, hb, hc⟩ := h.2 hn
    refine ⟨b, off, e, hb, fun i hi => ?_⟩
    obtain ⟨Ai, ci, h1, h2, h3⟩ := hc i hi
    exact ⟨Ai, ci, (hk ⟨b, off + i, none⟩ hb).trans h1, h2.keep hk, h3⟩⟩
theorem NestAt.mono (h : NestAt w B K A n L) (hB : B ≤ B') : NestAt w B' K A n L :=
  ⟨h.1, fun hn => by
    obtain ⟨b, off, e, hb, hc⟩ := h.2 hn
    refine ⟨b, off, e, by omega, fun i hi => ?_⟩
    obtain ⟨Ai, ci, h1, h2, h3⟩ := hc i hi
    exact ⟨Ai, ci, h1, h2.mono hB, h3⟩⟩
theorem NestAt.below (h : NestAt w B K A n L) (hb : Below B w w') : NestAt w' B K A n L := h.keep fun _ hp => hb.cell hp
theorem NestAt.after (h : NestAt w w.heap.size K A n L) (hb : Below w.heap.size w w') : NestAt w' w'.heap.size K A n L := (h.below hb).mono hb.size
theorem NestAt.alloc (h : NestAt w B K A n L) (hB : B ≤ w.heap.size) (o : Obj) : NestAt (w.alloc o) B K A n L := h.keep fun p hp => World.cell?_alloc_lt w o p (by omega)
theorem NestAt.drewN (h : NestAt w B K A n L) (k : Nat) : NestAt (w.drewN k) B K A n L := h
theorem NestAt.nil : NestAt w B K A 0 [] := ⟨rfl, fun h => absurd h (by omega)⟩
/-- A row of such cells. -/
theorem nestAt_row {g : Nat} {t : TypeId} {f : Nat → Value} (h : w.rowIs g t n f) (hL : L.length = n) (hf : ∀ i, i < n → ∃ (Ai : Option Addr) (ci : Nat), f i = .slice Ai (rowN L i) ci ∧ RecsAt w w.heap.size K Ai (rowN L i) (rowZ L i) ∧ rowN L i ≤ ci ∧ ci ≤ maxLen) : NestAt w w.heap.size K (some ⟨g, 0, none⟩) n L :=
  ⟨hL, fun _ => ⟨g, 0, rfl, h.lt, fun i hi => by
    obtain ⟨Ai, ci, h1, h2⟩ := hf i hi
    exact ⟨Ai, ci, by rw [Nat.zero_add, h.cell hi, h1], h2⟩⟩⟩
end

/-- One cell that holds a slice of such cells. -/
theorem open_nest_cell {H : Type} {enc : TypeId × Value → H} {P : Program} {W : World} {t e : TypeId} {K fuel : Nat} {v : Value} {x : DataW H × List MemPlace} (ht : P.underlying t = some (.slice e)) (h1 : Holds1 P e K)
    (h : DataW.trod enc P W 0 (fun _ => true) true fuel t [v] = some x) (hlt : ∀ p ∈ x.2, p.block < W.heap.size) :
    ∃ (A : Option Addr) (n c : Nat) (L : List (Nat × List Int)), v = .slice A n c ∧ NestAt W W.heap.size K A n L ∧ n ≤ c ∧ c ≤ maxLen ∧ ∀ i j, -9223372036854775808 ≤ nth (rowZ L i) j ∧ nth (rowZ L i) j ≤ 9223372036854775807 := by
  rcases Deep.open_slice1 ht h1.1 h with ⟨h0, _⟩ | ⟨a, len, cap, m, n, V, D, Pl, hcs, _, hl, hm, hmm, hx, hi⟩
  · simp at h0
    subst h0
    exact ⟨none, 0, 0, [], rfl, NestAt.nil, Nat.le_refl _, by simp [maxLen], fun i j => by simp [nth, rowZ]⟩
  · simp at hcs
    subst hcs
    simp only [if_true] at hmm
    subst hmm
    have each : ∀ i, i < len → ∃ q : Nat × List Int, ∃ (A : Option Addr) (c : Nat), V i = .slice A q.1 c ∧ RecsAt W W.heap.size K A q.1 q.2 ∧ q.1 ≤ c ∧ c ≤ maxLen ∧ ∀ i, -9223372036854775808 ≤ nth q.2 i ∧ nth q.2 i ≤ 9223372036854775807 := by
      intro i hil
      obtain ⟨_, hd⟩ := hi i (by omega)
      obtain ⟨A, n', c, zs, e1, e2, e3⟩ := h1.2 H enc W n (V i) _ hd (fun p hp => hlt p (by
        rw [hx]
        simp only [List.mem_append, List.mem_flatMap]
        exact .inr ⟨i, by simp; omega, hp⟩))
      exact ⟨(n', zs), A, c, e1, e2, e3⟩
    obtain ⟨Q, hQ⟩ := Deep.choose_lt each
    have hg : ∀ i, i < len → (((List.range len).map Q).getD i (0, [])) = Q i := by
      intro i hil
      simp [List.getD, hil]
    refine ⟨some a, len, m, (List.range len).map Q, rfl, ⟨by simp, fun hlen => ?_⟩, hl, hm, fun i j => ?_⟩
    · obtain ⟨b, off, spot⟩ := a
      have h00 := (hi 0 (by omega)).1
      have hspot : spot = none := by simpa [Addr.add] using World.cell?_spot h00
      subst hspot
      refine ⟨b, off, rfl, ?_, fun i hil => ?_⟩
      · have hp : MemPlace.cell b off ∈ x.2 := by
          rw [hx]
          simp only [List.mem_append]
          left
          simp [MemPlace.row]
          omega
        exact hlt _ hp
      · obtain ⟨A, c, e1, e2, e3, e4, _⟩ := hQ i hil
        refine ⟨A, c, ?_, ?_, ?_, e4⟩
        · rw [rowN, hg i hil, ← e1, ← Go.WideShapes.add_plain]
          exact (hi i (by omega)).1
        · rw [rowN, rowZ, hg i hil]
          exact e2
        · rw [rowN, hg i hil]
          exact e3
    · by_cases hil : i < len
      · obtain ⟨A, c, e1, e2, e3, e4, e5⟩ := hQ i hil
        rw [rowZ, hg i hil]
        exact e5 j
      · have : ((List.range len).map Q).getD i (0, []) = (0, []) := by
          rw [List.getD, List.getElem?_eq_none (by simp; omega)]
          rfl
        rw [rowZ, this]
        simp [nth]

/-- An argument that is a slice of such cells. -/
theorem open_nest_arg {H : Type} {enc : TypeId × Value → H} {P : Program} {W : World} {base : Nat} {t e : TypeId} {K : Nat} {v : Value} {d : DataW H} {p : List MemPlace} (ht : P.underlying t = some (.slice e)) (h1 : Holds1 P e K)
    (hv : Value.okWide P W .any base t v) (h : DataW.Trod enc P W 0 (fun _ => true) true t v d p) (hlt : ∀ x ∈ p, x.block < W.heap.size) :
    ∃ (A : Option Addr) (n c : Nat) (L : List (Nat × List Int)), v = .slice A n c ∧ NestAt W W.heap.size K A n L ∧ n ≤ c ∧ c ≤ maxLen ∧ ∀ i j, -9223372036854775808 ≤ nth (rowZ L i) j ∧ nth (rowZ L i) j ≤ 9223372036854775807 := by
  obtain ⟨A, n, c, rfl⟩ := okWide_slice ht hv
  obtain ⟨fuel, hf⟩ := h
  exact open_nest_cell ht h1 (x := (d, p)) hf hlt

end Go.Proofs.Ytdjhiegolojoaaa
