/-
  Words: the first cells of a block; append of records onto nothing. No Go function is spoken of here.
-/
import Derived.Test.YtdjhiegolojoaaaOnly
namespace Go.Proofs.Ytdjhiegolojoaaa
open Go.RowKit

/-- Block g is a row of element type E, not frozen, whose first m cells are f 0, f 1, .. -/
def RowF (w : World) (g : Nat) (E : TypeId) (m : Nat) (f : Nat → Value) : Prop :=
  ∃ c : Array Value, w.heap[g]? = some (.cells c E (0, 0)) ∧ m ≤ c.size ∧ ∀ i, i < m → c[i]? = some (f i)
section
variable {w w' : World} {g : Nat} {E : TypeId} {m : Nat} {f f' : Nat → Value}
theorem RowF.of_row (h : w.rowIs g E m f) : RowF w g E m f := by
  obtain ⟨c, hb, hn, hc⟩ := h
  exact ⟨c, hb, by omega, hc⟩
theorem RowF.cell (h : RowF w g E m f) {i : Nat} (hi : i < m) : w.cell? ⟨g, i, none⟩ = some (f i) := by
  obtain ⟨c, hb, _, hc⟩ := h
  simp [World.cell?, hb, hc i hi]
theorem RowF.frozen (h : RowF w g E m f) (i : Nat) : w.frozen? ⟨g, i, none⟩ = false := by
  obtain ⟨c, hb, _, _⟩ := h
  simp [World.frozen?, hb]
theorem RowF.lt (h : RowF w g E m f) : g < w.heap.size := by
  obtain ⟨c, hb, _, _⟩ := h
  obtain ⟨hlt, _⟩ := Array.getElem?_eq_some_iff.1 hb
  exact hlt
theorem RowF.congr (h : RowF w g E m f) (e : ∀ i, i < m → f i = f' i) : RowF w g E m f' := by
  obtain ⟨c, hb, hn, hc⟩ := h
  exact ⟨c, hb, hn, fun i hi => by rw [hc i hi, e i hi]⟩
theorem RowF.of_block (h : RowF w g E m f) (e : w'.heap[g]? = w.heap[g]?) : RowF w' g E m f := by
  obtain ⟨c, hb, hn, hc⟩ := h
  exact ⟨c, e.trans hb, hn, hc⟩
theorem RowF.set (h : RowF w g E m f) (i : Nat) (v : Value) : RowF (w.setCell ⟨g, i, none⟩ v) g E m (fun j => if j = i then v else f j) := by
  obtain ⟨c, hb, hn, hc⟩ := h
  refine ⟨c.setIfInBounds i v, ?_, by simpa using hn, fun j hj => ?_⟩
  · simp [World.setCell, Array.getElem?_modify, hb]
  · rw [Array.getElem?_setIfInBounds]
    by_cases e : j = i
    · subst e
      have : j < c.size := by omega
      simp [this]
    · rw [if_neg (fun h => e h.symm)]
      show c[j]? = some (if j = i then v else f j)
      rw [if_neg e]
      exact hc j hj
theorem RowF.drewN (h : RowF w g E m f) (k : Nat) : RowF (w.drewN k) g E m f := h
theorem RowF.drew (h : RowF w g E m f) : RowF w.drew g E m f := h
theorem RowF.alloc (h : RowF w g E m f) (o : Obj) : RowF (w.alloc o) g E m f := h.of_block (Below.heap_alloc w o g h.lt)
theorem RowF.below {B : Nat} (h : RowF w g E m f) (hb : Below B w w') (hg : g < B) : RowF w' g E m f := h.of_block (hb.block g hg)
theorem RowF.after (h : RowF w g E m f) (hb : Below w.heap.size w w') : RowF w' g E m f := h.of_block (hb.block g h.lt)
theorem RowF.recs {K n : Nat} {zs : List Int} (h : RowF w g E (n * K) (ints zs)) (hz : zs.length = n * K) : RecsAt w w.heap.size K (some ⟨g, 0, none⟩) n zs :=
  ⟨hz, fun _ => ⟨g, 0, rfl, h.lt, fun i hi => by rw [Nat.zero_add]; exact h.cell hi⟩⟩
theorem RowF.only {g' : Nat} (h : RowF w g E m f) (ho : Only g' w w') (hne : g ≠ g') : RowF w' g E m f := h.of_block (ho.block g hne)
theorem RowF.set_other (h : RowF w g E m f) {p : Addr} (hp : g ≠ p.block) (v : Value) : RowF (w.setCell p v) g E m f := h.of_block (Below.heap_setCell w p v g hp)
end

/-- 'append(v, xs...)' of records onto an empty slice of the call's own (or nil). -/
theorem wpList_append_recs {P : Program} (w : World) {ops : Array Oper} {rest : List Oper} {o : Oper} {a : Act} {Q : Exit → Act → World → Prop} (hgd : o.guard = none) (s x : Operand) (t : TypeId)
    (ho : o.op = .call { callee := .builtin .append, args := #[s, x], argTypes := #[t, t] })
    (base : Nat) (E : TypeId) (K bytes : Nat) (zc : Array Value) (ht : P.underlying t = some (.slice E)) (hinfo : (P.info? E).map (fun i => (i.zero, i.size, i.bytes)) = some (some (.agg zc), K, bytes)) (hzc : zc.size = K) (hK : 0 < K) (hby : bytes ≤ 1024)
    (v : Value) (hs : a.eval s = v) (hown : w.ownsRow base E K v 0 []) (B : Nat) (A : Option Addr) (n c : Nat) (zs : List Int) (hx : a.eval x = .slice A n c) (hr : RecsAt w B K A n zs) (hn1 : 1 ≤ n) (hn : n ≤ 1048576) (hbase : base ≤ w.heap.size)
    (h : ∀ g cap w', RowF w' g E (n * K) (ints zs) → base ≤ g → w.grownBy w' v.ownBlock → wpList P ops Q rest (a.put o.dst (.slice (some ⟨g, 0, none⟩) n cap)) w') : wpList P ops Q (o :: rest) a w := by
  obtain ⟨i0, hi0, hz0, hz1, hz2⟩ := info_parts hinfo
  obtain ⟨b, off, rfl, _, hc⟩ := hr.2 (by omega)
  have hbb : n * bytes ≤ 1048576 * 1024 := Nat.mul_le_mul hn hby
  refine wpList_append_own (P := P) w hgd s x t ho base E i0 (.agg zc) K bytes ht hi0 hz0 hz1 hz2 (by simpa [Value.cells] using hzc) hK v 0 [] hs hown ⟨b, off, none⟩ n c (zs.map (Value.int .i64)) hx (by simpa using hr.1) ?_ ?_ (by unfold maxLen; omega) (by rw [Nat.zero_add]; omega) hbase ?_
  · intro j u hj
    have hjl : j < zs.length := by
      have := (List.getElem?_eq_some_iff.1 hj).1
      simpa using this
    rw [List.getElem?_map, List.getElem?_eq_getElem hjl] at hj
    simp at hj
    subst hj
    rw [Go.WideShapes.add_plain, hc j (by rw [← hr.1]; exact hjl), nth_get zs j hjl]
  · intro u hu
    obtain ⟨z, _, rfl⟩ := List.mem_map.1 hu
    rfl
  · intro v' w' hown' hgr _
    rcases hown'.2 with ⟨_, h2⟩ | ⟨g, cap, cur, rfl, hg, hh, hnc, _, hcs, htk⟩
    · omega
    · rw [Nat.zero_add] at *
      refine h g cap w' ⟨cur, hh, by rw [hcs]; exact Nat.mul_le_mul_right _ hnc, fun i hi => ?_⟩ hg hgr
      have hil : i < zs.length := by rw [hr.1]; exact hi
      have e : (cur.toList.take (n * K))[i]? = (zs.map (Value.int .i64))[i]? := by rw [htk]; simp
      rw [List.getElem?_take, if_pos hi, List.getElem?_map, List.getElem?_eq_getElem hil] at e
      simp at e
      simp [ints, nth_get zs i hil, e]

end Go.Proofs.Ytdjhiegolojoaaa
