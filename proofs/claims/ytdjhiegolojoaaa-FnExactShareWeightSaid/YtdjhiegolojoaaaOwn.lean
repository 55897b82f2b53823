/-
  Words for a slice of ints that the call itself makes: no Go function is spoken of here.
-/
import Derived.Test.YtdjhiegolojoaaaBase
import Derived.Deep.Draws
import Derived.OwnWalk
import Derived.ArgAppend
namespace Go.Proofs.Ytdjhiegolojoaaa
open Go.RowKit

/-- The slice value v holds the numbers xs in a row of the call's own (a block from base on), or is nil and xs empty. -/
def OwnV (w : World) (base : Nat) (E : TypeId) (v : Value) (xs : List Int) : Prop := w.ownsRow base E 1 v xs.length (xs.map (Value.int .i64))
/-- .. it is not nil: it begins at the head of block g. -/
def OwnI (w : World) (base : Nat) (E : TypeId) (g cap : Nat) (xs : List Int) : Prop := OwnV w base E (.slice (some ⟨g, 0, none⟩) xs.length cap) xs

section
variable {w w' : World} {base : Nat} {E : TypeId} {g cap : Nat} {v : Value} {xs : List Int}
theorem OwnV.nil (w : World) (base : Nat) (E : TypeId) : OwnV w base E (.slice none 0 0) [] := World.ownsRow_nil _ _ _ _
theorem OwnV.alloc (h : OwnV w base E v xs) (o : Obj) : OwnV (w.alloc o) base E v xs := World.ownsRow.alloc h o
theorem OwnV.drewN (h : OwnV w base E v xs) (n : Nat) : OwnV (w.drewN n) base E v xs := h
theorem OwnV.drew (h : OwnV w base E v xs) : OwnV w.drew base E v xs := h
theorem OwnI.toV (h : OwnI w base E g cap xs) : OwnV w base E (.slice (some ⟨g, 0, none⟩) xs.length cap) xs := h
theorem OwnI.alloc (h : OwnI w base E g cap xs) (o : Obj) : OwnI (w.alloc o) base E g cap xs := World.ownsRow.alloc h o
theorem OwnI.drewN (h : OwnI w base E g cap xs) (n : Nat) : OwnI (w.drewN n) base E g cap xs := h
theorem OwnI.drew (h : OwnI w base E g cap xs) : OwnI w.drew base E g cap xs := h
theorem OwnI.blk (h : OwnI w base E g cap xs) : base ≤ g ∧ g < w.heap.size := World.ownsRow.lt h g rfl
theorem OwnI.cell (h : OwnI w base E g cap xs) {j : Nat} (hj : j < xs.length) : w.cell? ⟨g, j, none⟩ = some (.int .i64 (nth xs j)) := by
  rw [World.ownsRow.cellAt h j (by omega), nth_get xs j hj]
  simp [hj]
theorem OwnI.frozen (h : OwnI w base E g cap xs) (j : Nat) : w.frozen? ⟨g, j, none⟩ = false := World.ownsRow.frozenAt h j
theorem OwnI.set (h : OwnI w base E g cap xs) (j : Nat) (z : Int) : OwnI (w.setCell ⟨g, j, none⟩ (.int .i64 z)) base E g cap (xs.set j z) := by
  have := (World.ownsRow.stored h j (.int .i64 z)).1
  unfold OwnI OwnV
  rw [List.length_set, List.map_set]
  exact this
theorem OwnI.intsAt (h : OwnI w base E g cap xs) : IntsAt w w.heap.size (some ⟨g, 0, none⟩) xs.length xs :=
  ⟨rfl, fun _ => ⟨g, 0, rfl, h.blk.2, fun k hk => by rw [Nat.zero_add]; exact h.cell hk⟩⟩
theorem OwnV.len {A : Option Addr} {n c : Nat} (h : OwnV w base E (.slice A n c) xs) : n = xs.length := by
  rcases h.2 with ⟨h1, h2⟩ | ⟨g, cap, cur, h1, _⟩
  · simp at h1; omega
  · simp at h1; omega
theorem OwnV.intsAt {A : Option Addr} {n c : Nat} (h : OwnV w base E (.slice A n c) xs) : IntsAt w w.heap.size A n xs := by
  rcases h.2 with ⟨h1, h2⟩ | ⟨g, cap, cur, h1, hr⟩
  · simp at h1
    obtain ⟨rfl, rfl, rfl⟩ := h1
    have : xs = [] := List.eq_nil_of_length_eq_zero h2
    subst this
    exact IntsAt.nil
  · simp at h1
    obtain ⟨rfl, rfl, rfl⟩ := h1
    exact OwnI.intsAt h
theorem OwnV.form (h : OwnV w base E v xs) : (v = .slice none 0 0 ∧ xs = []) ∨ ∃ g cap, v = .slice (some ⟨g, 0, none⟩) xs.length cap ∧ OwnI w base E g cap xs := by
  rcases h.2 with ⟨h1, h2⟩ | ⟨g, cap, cur, h1, hr⟩
  · exact .inl ⟨h1, List.eq_nil_of_length_eq_zero h2⟩
  · subst h1
    exact .inr ⟨g, cap, rfl, h⟩
theorem OwnI.new (w : World) (E : TypeId) : OwnI (w.alloc (.cells #[] E)) w.heap.size E w.heap.size 0 [] :=
  World.ownsRow_lit (base := w.heap.size) (e := E) (size := 1) w #[] 0 (Nat.le_refl _) (by simp [maxLen]) (by simp)
theorem OwnI.mono {base' : Nat} (h : OwnI w base E g cap xs) (hb : base' ≤ base) : OwnI w base' E g cap xs := by
  refine ⟨h.1, ?_⟩
  rcases h.2 with h2 | ⟨g, cap, cur, h1, h2, hr⟩
  · exact .inl h2
  · exact .inr ⟨g, cap, cur, h1, by omega, hr⟩
theorem OwnI.below {B : Nat} (h : OwnI w base E g cap xs) (hb : Below B w w') (hg : g < B) : OwnI w' base E g cap xs := by
  refine ⟨h.1, ?_⟩
  rcases h.2 with h2 | ⟨g', cap', cur, h1, h2, h3, hr⟩
  · exact .inl h2
  · simp at h1
    obtain ⟨rfl, rfl⟩ := h1
    exact .inr ⟨g, cap, cur, rfl, h2, (hb.block g hg).trans h3, hr⟩
theorem OwnV.below (h : OwnV w base E v xs) (hb : Below w.heap.size w w') : OwnV w' base E v xs := by
  rcases h.form with ⟨rfl, rfl⟩ | ⟨g, cap, rfl, hi⟩
  · exact OwnV.nil _ _ _
  · exact hi.below hb hi.blk.2
theorem OwnV.ownLt (h : OwnV w base E v xs) : ∀ k, v.ownBlock = some k → base ≤ k := fun k hk => (World.ownsRow.lt h k hk).1
end

theorem cell_new1 (w : World) (u : Value) (t : TypeId) : (w.alloc (.cells #[u] t)).cell? ⟨w.heap.size, 0, none⟩ = some u := World.rowIs.cell (World.rowIs_alloc w #[u] t (fun _ => u) (fun i hi => by simp at hi; subst hi; rfl)) (by simp)

/-- 'out = append(out, z)' onto a row of the call's own. -/
theorem wpList_append_int {P : Program} (w : World) {ops : Array Oper} {rest : List Oper} {o : Oper} {a : Act} {Q : Exit → Act → World → Prop} (hgd : o.guard = none) (s x : Operand) (t : TypeId)
    (ho : o.op = .call { callee := .builtin .append, args := #[s, x], argTypes := #[t, t] })
    (base : Nat) (E : TypeId) (ht : P.underlying t = some (.slice E)) (hinfo : (P.info? E).map (fun i => (i.zero, i.size, i.bytes)) = some (some (.int .i64 0), 1, 8))
    (v : Value) (xs : List Int) (hs : a.eval s = v) (hown : OwnV w base E v xs) (g c : Nat) (z : Int) (hx : a.eval x = .slice (some ⟨g, 0, none⟩) 1 c)
    (hg : w.cell? ⟨g, 0, none⟩ = some (.int .i64 z)) (hlen : xs.length ≤ 1099511627776) (hbase : base ≤ w.heap.size)
    (h : ∀ g' cap' w', OwnI w' base E g' cap' (xs ++ [z]) → w.grownBy w' v.ownBlock → wpList P ops Q rest (a.put o.dst (.slice (some ⟨g', 0, none⟩) (xs.length + 1) cap')) w') : wpList P ops Q (o :: rest) a w := by
  obtain ⟨i0, hi0, hz0, hz1, hz2⟩ := info_parts hinfo
  refine wpList_append_own (P := P) w hgd s x t ho base E i0 (.int .i64 0) 1 8 ht hi0 hz0 hz1 hz2 rfl (by decide) v xs.length _ hs hown ⟨g, 0, none⟩ 1 c [.int .i64 z] hx rfl ?_ ?_ (by unfold maxLen; omega) (by omega) hbase ?_
  · intro j u hj
    match j, hj with
    | 0, hj => simp at hj; subst hj; simpa [Addr.add] using hg
  · intro u hu; simp at hu; subst hu; rfl
  · intro v' w' hown' hgr _
    have h' : OwnV w' base E v' (xs ++ [z]) := by
      unfold OwnV
      rw [List.length_append, List.map_append]
      exact hown'
    rcases h'.form with ⟨_, h2⟩ | ⟨g', cap', rfl, hi⟩
    · simp at h2
    · have e : (xs ++ [z]).length = xs.length + 1 := by simp
      rw [e] at *
      exact h g' cap' w' hi hgr

/-- 'out = append(out[:n:n], z)', n its length: it must grow. -/
theorem wpList_regrow_int {P : Program} (w : World) {ops : Array Oper} {rest : List Oper} {o : Oper} {a : Act} {Q : Exit → Act → World → Prop} (hgd : o.guard = none) (s x : Operand) (t : TypeId)
    (ho : o.op = .call { callee := .builtin .append, args := #[s, x], argTypes := #[t, t] })
    (base : Nat) (E : TypeId) (ht : P.underlying t = some (.slice E)) (hinfo : (P.info? E).map (fun i => (i.zero, i.size, i.bytes)) = some (some (.int .i64 0), 1, 8))
    (g0 cap0 : Nat) (xs : List Int) (hs : a.eval s = .slice (some ⟨g0, 0, none⟩) xs.length xs.length) (hown : OwnI w base E g0 cap0 xs) (g c : Nat) (z : Int) (hx : a.eval x = .slice (some ⟨g, 0, none⟩) 1 c)
    (hg : w.cell? ⟨g, 0, none⟩ = some (.int .i64 z)) (hlen : xs.length ≤ 1099511627776) (hbase : base ≤ w.heap.size)
    (h : ∀ g' cap' w', OwnI w' base E g' cap' (xs ++ [z]) → w.grownBy w' none → wpList P ops Q rest (a.put o.dst (.slice (some ⟨g', 0, none⟩) (xs.length + 1) cap')) w') : wpList P ops Q (o :: rest) a w := by
  obtain ⟨i0, hi0, hz0, hz1, hz2⟩ := info_parts hinfo
  refine wpList_append_grows (P := P) w hgd s x t ho E i0 (.int .i64 0) 1 8 ht hi0 hz0 hz1 hz2 rfl (by decide) (some ⟨g0, 0, none⟩) xs.length xs.length (xs.map (Value.int .i64)) hs (fun h => by cases h) (by simp) ?_ ⟨g, 0, none⟩ 1 c [.int .i64 z] hx rfl ?_ ?_ (by omega) (by unfold maxLen; omega) (by omega) ?_
  · intro b hb j u hu
    cases hb
    exact World.ownsRow.cells (g := g0) hown rfl j u hu
  · intro j u hj
    match j, hj with
    | 0, hj => simp at hj; subst hj; simpa [Addr.add] using hg
  · intro u hu; simp at hu; subst hu; rfl
  · intro v' w' hown' hgr
    have h' : OwnV w' w.heap.size E v' (xs ++ [z]) := by
      unfold OwnV
      rw [List.length_append, List.map_append]
      exact hown'
    rcases h'.form with ⟨_, h2⟩ | ⟨g', cap', rfl, hi⟩
    · simp at h2
    · have e : (xs ++ [z]).length = xs.length + 1 := by simp
      rw [e] at *
      exact h g' cap' w' (hi.mono hbase) hgr

/-- 'make([]int, 0, n)'. -/
theorem run_make_zero {P : Program} (t E : TypeId) (ht : P.underlying t = some (.slice E)) (hinfo : (P.info? E).map (fun i => (i.zero, i.size, i.bytes)) = some (some (.int .i64 0), 1, 8)) (n : Nat) (hn : n ≤ 1099511627776) (w : World) :
    (Instr.makeSlice t (.int .i64 0) (.int .i64 (n : Int))).run P w = .ok (.slice (some ⟨w.heap.size, 0, none⟩) 0 n) (w.alloc (.cells (madeCells #[.int .i64 0] n) E)) := by
  obtain ⟨i0, hi0, hz0, hz1, hz2⟩ := info_parts hinfo
  have h := run_make (P := P) w t E i0 (.int .i64 0) ht hi0 hz0 .i64 .i64 0 (n : Int) (by omega) (by omega) (by rw [hz2]; omega) (by omega)
  simpa [hz1, Value.cells] using h
theorem OwnI.made (w : World) (E : TypeId) (n : Nat) (hn : n ≤ maxLen) : OwnI (w.alloc (.cells (madeCells #[.int .i64 0] n) E)) w.heap.size E w.heap.size n [] :=
  World.ownsRow_made w (madeCells #[.int .i64 0] n) n (Nat.le_refl _) hn (by simp [size_madeCells])
theorem OwnI.cap {w : World} {base : Nat} {E : TypeId} {g cap : Nat} {xs : List Int} (h : OwnI w base E g cap xs) : xs.length ≤ cap := by
  rcases h.2 with ⟨h1, _⟩ | ⟨g', cap', cur, h1, _, _, h4, _⟩
  · simp at h1
  · simp at h1; omega

end Go.Proofs.Ytdjhiegolojoaaa
