/-
  Words for a slice of one-cell values that the call itself makes, grown by append. No Go function is spoken of here.
-/
import Derived.Test.YtdjhiegolojoaaaOwnR
namespace Go.Proofs.Ytdjhiegolojoaaa
open Go.RowKit

/-- The slice value v holds the values cs in a row of the call's own (a block from base on), or is nil. -/
def OwnC (w : World) (base : Nat) (E : TypeId) (v : Value) (n : Nat) (cs : List Value) : Prop := w.ownsRow base E 1 v n cs ∧ cs.length = n
section
variable {w w' : World} {base : Nat} {E : TypeId} {n : Nat} {v : Value} {cs : List Value}
theorem OwnC.alloc (h : OwnC w base E v n cs) (o : Obj) : OwnC (w.alloc o) base E v n cs := ⟨World.ownsRow.alloc h.1 o, h.2⟩
theorem OwnC.drewN (h : OwnC w base E v n cs) (k : Nat) : OwnC (w.drewN k) base E v n cs := h
theorem OwnC.ownLt (h : OwnC w base E v n cs) : ∀ k, v.ownBlock = some k → base ≤ k := fun k hk => (World.ownsRow.lt h.1 k hk).1
theorem OwnC.below (h : OwnC w base E v n cs) (hb : Below w.heap.size w w') : OwnC w' base E v n cs := by
  refine ⟨⟨h.1.1, ?_⟩, h.2⟩
  rcases h.1.2 with h2 | ⟨g, cap, cur, h1, h2, h3, hr⟩
  · exact .inl h2
  · refine .inr ⟨g, cap, cur, h1, h2, (hb.block g ?_).trans h3, hr⟩
    exact (Array.getElem?_eq_some_iff.1 h3).1
theorem OwnC.new (w : World) (E : TypeId) : OwnC (w.alloc (.cells #[] E)) w.heap.size E (.slice (some ⟨w.heap.size, 0, none⟩) 0 0) 0 [] :=
  ⟨World.ownsRow_lit (base := w.heap.size) (e := E) (size := 1) w #[] 0 (Nat.le_refl _) (by simp [maxLen]) (by simp), by simp⟩
theorem OwnC.form (h : OwnC w base E v n cs) : (v = .slice none 0 0 ∧ n = 0 ∧ cs = []) ∨ ∃ g cap, v = .slice (some ⟨g, 0, none⟩) n cap ∧ base ≤ g ∧ n ≤ cap ∧ g < w.heap.size ∧ ∀ i, i < n → w.cell? ⟨g, i, none⟩ = cs[i]? := by
  rcases h.1.2 with ⟨h1, h2⟩ | ⟨g, cap, cur, h1, h2, h3, h4, h5, h6, h7⟩
  · exact .inl ⟨h1, h2, List.eq_nil_of_length_eq_zero (by rw [h.2, h2])⟩
  · refine .inr ⟨g, cap, h1, h2, h4, (Array.getElem?_eq_some_iff.1 h3).1, fun i hi => ?_⟩
    have e : (cur.toList.take (n * 1))[i]? = cs[i]? := by rw [h7]
    rw [List.getElem?_take, if_pos (by omega)] at e
    rw [← e]
    simp [World.cell?, h3]
theorem OwnC.slice (h : OwnC w base E v n cs) : ∃ A c, v = .slice A n c ∧ n ≤ c := by
  rcases h.form with ⟨rfl, rfl, _⟩ | ⟨g, cap, rfl, _, hc, _⟩
  · exact ⟨_, _, rfl, Nat.le_refl _⟩
  · exact ⟨_, _, rfl, hc⟩
theorem OwnC.typeOf (h : OwnC w base E v n cs) (g : Nat) (hg : v.ownBlock = some g) {T : TypeId} {m : Nat} {f : Nat → Value} (hr : RowF w g T m f) : T = E := by
  rcases h.1.2 with ⟨h1, _⟩ | ⟨g0, cap, cur, h1, _, h3, _⟩
  · rw [h1] at hg; simp [Value.ownBlock] at hg
  · rw [h1] at hg
    simp [Value.ownBlock] at hg
    subst hg
    obtain ⟨c, hb, _⟩ := hr
    rw [hb] at h3
    simp at h3
    exact h3.2
end

/-- 'out = append(out, u)' onto a row of the call's own. -/
theorem wpList_appC {P : Program} (w : World) {ops : Array Oper} {rest : List Oper} {o : Oper} {a : Act} {Q : Exit → Act → World → Prop} (hgd : o.guard = none) (s x : Operand) (t : TypeId)
    (ho : o.op = .call { callee := .builtin .append, args := #[s, x], argTypes := #[t, t] })
    (base : Nat) (E : TypeId) (bytes : Nat) (zv : Value) (ht : P.underlying t = some (.slice E)) (hinfo : (P.info? E).map (fun i => (i.zero, i.size, i.bytes)) = some (some zv, 1, bytes)) (hzc : zv.cells.size = 1) (hby : bytes ≤ 1024)
    (v : Value) (n : Nat) (cs : List Value) (hs : a.eval s = v) (hown : OwnC w base E v n cs) (g c : Nat) (u : Value) (hu1 : u.oneCell' = true) (hx : a.eval x = .slice (some ⟨g, 0, none⟩) 1 c)
    (hg : w.cell? ⟨g, 0, none⟩ = some u) (hn : n + 1 ≤ 1048576) (B : Nat) (w0 : World) (hb : Below B w0 w) (hB : B ≤ base) (hbase : base ≤ w.heap.size)
    (h : ∀ g' cap' w', OwnC w' base E (.slice (some ⟨g', 0, none⟩) (n + 1) cap') (n + 1) (cs ++ [u]) → Below B w0 w' → (∀ g2 T m2 f, T ≠ E → RowF w g2 T m2 f → RowF w' g2 T m2 f) → wpList P ops Q rest (a.put o.dst (.slice (some ⟨g', 0, none⟩) (n + 1) cap')) w') : wpList P ops Q (o :: rest) a w := by
  obtain ⟨i0, hi0, hz0, hz1, hz2⟩ := info_parts hinfo
  have hbb : (n + 1) * bytes ≤ 1048576 * 1024 := Nat.mul_le_mul hn hby
  refine wpList_append_own (P := P) w hgd s x t ho base E i0 zv 1 bytes ht hi0 hz0 hz1 hz2 hzc (by omega) v n _ hs hown.1 ⟨g, 0, none⟩ 1 c [u] hx (by simp) ?_ ?_ (by unfold maxLen; omega) (by omega) hbase ?_
  · intro j y hj
    match j, hj with
    | 0, hj => simp at hj; subst hj; simpa [Addr.add] using hg
  · intro y hy
    simp at hy
    subst hy
    exact hu1
  · intro v' w' hown' hgr _
    have h' : OwnC w' base E v' (n + 1) (cs ++ [u]) := ⟨hown', by simp [hown.2]⟩
    rcases h'.form with ⟨_, h2, _⟩ | ⟨g', cap', rfl, _⟩
    · omega
    · exact h g' cap' w' h' (hb.grown hgr (by omega) (fun k hk => by have := hown.ownLt k hk; omega)) (fun g2 T m2 f hT hr => hr.of_block (grown_block hgr g2 hr.lt (fun e => hT (hown.typeOf g2 e.symm hr))))
end Go.Proofs.Ytdjhiegolojoaaa
