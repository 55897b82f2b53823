/-
  Words: 'out = append(out, z)' of ints while rows of other element types stay as they are. No Go function is spoken of here.
-/
import Derived.Test.YtdjhiegolojoaaaApp
import Derived.Test.YtdjhiegolojoaaaOwnC
namespace Go.Proofs.Ytdjhiegolojoaaa
open Go.RowKit

theorem OwnV.typeOf {w : World} {base : Nat} {E : TypeId} {v : Value} {xs : List Int} (h : OwnV w base E v xs) (g : Nat) (hg : v.ownBlock = some g) {T : TypeId} {m : Nat} {f : Nat → Value} (hr : RowF w g T m f) : T = E := by
  rcases h.2 with ⟨h1, _⟩ | ⟨g0, cap, cur, h1, _, h3, _⟩
  · rw [h1] at hg; simp [Value.ownBlock] at hg
  · rw [h1] at hg
    simp [Value.ownBlock] at hg
    subst hg
    obtain ⟨c, hb, _⟩ := hr
    rw [hb] at h3
    simp at h3
    exact h3.2
theorem OwnC.ofBlock {w w' : World} {base : Nat} {E : TypeId} {n : Nat} {v : Value} {cs : List Value} (h : OwnC w base E v n cs) (e : ∀ g, v.ownBlock = some g → w'.heap[g]? = w.heap[g]?) : OwnC w' base E v n cs := by
  refine ⟨⟨h.1.1, ?_⟩, h.2⟩
  rcases h.1.2 with h2 | ⟨g, cap, cur, h1, h2, h3, hr⟩
  · exact .inl h2
  · exact .inr ⟨g, cap, cur, h1, h2, (e g (by rw [h1]; simp [Value.ownBlock])).trans h3, hr⟩
/-- The block of a row of cells and that of a row of ints are not the same where the element types differ. -/
theorem OwnV.apart {w : World} {base base' : Nat} {E E' : TypeId} {n : Nat} {v u : Value} {xs : List Int} {cs : List Value} (h : OwnV w base E v xs) (h' : OwnC w base' E' u n cs) (hE : E' ≠ E) (g : Nat) (hv : v.ownBlock = some g) : u.ownBlock ≠ some g := fun hu => by
  rcases h'.1.2 with ⟨h1, _⟩ | ⟨g0, cap, cur, h1, _, h3, _⟩
  · rw [h1] at hu; simp [Value.ownBlock] at hu
  · rw [h1] at hu
    simp [Value.ownBlock] at hu
    subst hu
    rcases h.2 with ⟨h1', _⟩ | ⟨g1, cap', cur', h1', _, h3', _⟩
    · rw [h1'] at hv; simp [Value.ownBlock] at hv
    · rw [h1'] at hv
      simp [Value.ownBlock] at hv
      subst hv
      rw [h3] at h3'
      simp at h3'
      exact hE h3'.2

theorem wpList_appI {P : Program} (w : World) {ops : Array Oper} {rest : List Oper} {o : Oper} {a : Act} {Q : Exit → Act → World → Prop} (hgd : o.guard = none) (s x : Operand) (t : TypeId)
    (ho : o.op = .call { callee := .builtin .append, args := #[s, x], argTypes := #[t, t] })
    (base : Nat) (E : TypeId) (ht : P.underlying t = some (.slice E)) (hinfo : (P.info? E).map (fun i => (i.zero, i.size, i.bytes)) = some (some (.int .i64 0), 1, 8))
    (v : Value) (xs : List Int) (hs : a.eval s = v) (hown : OwnV w base E v xs) (g c : Nat) (z : Int) (hx : a.eval x = .slice (some ⟨g, 0, none⟩) 1 c)
    (hg : w.cell? ⟨g, 0, none⟩ = some (.int .i64 z)) (B : Nat) (w0 : World) (hb : Below B w0 w) (hB : B ≤ base) (hbase : base ≤ w.heap.size) (k : Nat) (hk : xs.length = k) (hk2 : k ≤ 1099511627776) (xs' : List Int) (hxs : xs ++ [z] = xs')
    (h : ∀ g' cap' w', OwnV w' base E (.slice (some ⟨g', 0, none⟩) (k + 1) cap') xs' → Below B w0 w' → (∀ g2 T m2 f, T ≠ E → RowF w g2 T m2 f → RowF w' g2 T m2 f) → (∀ bs T u m2 cs, T ≠ E → OwnC w bs T u m2 cs → OwnC w' bs T u m2 cs) → wpList P ops Q rest (a.put o.dst (.slice (some ⟨g', 0, none⟩) (k + 1) cap')) w') : wpList P ops Q (o :: rest) a w := by
  subst hk hxs
  refine wpList_append_int w hgd s x t ho base E ht hinfo v xs hs hown g c z hx hg hk2 hbase ?_
  intro g' cap' w' hown' hgr
  refine h g' cap' w' ?_ (hb.grown hgr (by omega) (fun k hk => by have := hown.ownLt k hk; omega)) (fun g2 T m2 f hT hr => hr.of_block (grown_block hgr g2 hr.lt (fun e => hT (hown.typeOf g2 e.symm hr)))) (fun bs T u m2 cs hT hc => hc.ofBlock (fun g2 hg2 => grown_block hgr g2 (World.ownsRow.lt hc.1 g2 hg2).2 (fun e => hown.apart hc hT g2 e.symm hg2)))
  have e := hown'.toV
  rw [List.length_append] at e
  exact e
/-- 'out = append(out, u)' onto a row of the call's own, beside rows of ints. -/
theorem wpList_appC2 {P : Program} (w : World) {ops : Array Oper} {rest : List Oper} {o : Oper} {a : Act} {Q : Exit → Act → World → Prop} (hgd : o.guard = none) (s x : Operand) (t : TypeId)
    (ho : o.op = .call { callee := .builtin .append, args := #[s, x], argTypes := #[t, t] })
    (base : Nat) (E : TypeId) (bytes : Nat) (zv : Value) (ht : P.underlying t = some (.slice E)) (hinfo : (P.info? E).map (fun i => (i.zero, i.size, i.bytes)) = some (some zv, 1, bytes)) (hzc : zv.cells.size = 1) (hby : bytes ≤ 1024)
    (v : Value) (n : Nat) (cs : List Value) (hs : a.eval s = v) (hown : OwnC w base E v n cs) (g c : Nat) (u : Value) (hu1 : u.oneCell' = true) (hx : a.eval x = .slice (some ⟨g, 0, none⟩) 1 c)
    (hg : w.cell? ⟨g, 0, none⟩ = some u) (hn : n + 1 ≤ 1048576) (B : Nat) (w0 : World) (hb : Below B w0 w) (hB : B ≤ base) (hbase : base ≤ w.heap.size)
    (h : ∀ g' cap' w', OwnC w' base E (.slice (some ⟨g', 0, none⟩) (n + 1) cap') (n + 1) (cs ++ [u]) → Below B w0 w' → (∀ g2 T m2 f, T ≠ E → RowF w g2 T m2 f → RowF w' g2 T m2 f) → (∀ bs T x xs, T ≠ E → OwnV w bs T x xs → OwnV w' bs T x xs) → wpList P ops Q rest (a.put o.dst (.slice (some ⟨g', 0, none⟩) (n + 1) cap')) w') : wpList P ops Q (o :: rest) a w := by
  obtain ⟨i0, hi0, hz0, hz1, hz2⟩ := info_parts hinfo
  have hbb : (n + 1) * bytes ≤ 1048576 * 1024 := Nat.mul_le_mul hn hby
  refine wpList_append_own (P := P) w hgd s x t ho base E i0 zv 1 bytes ht hi0 hz0 hz1 hz2 hzc (by omega) v n _ hs hown.1 ⟨g, 0, none⟩ 1 c [u] hx (by simp) ?_ ?_ (by unfold maxLen; omega) (by omega) hbase ?_
  · intro j y hj
    match j, hj with
    | 0, hj => simp at hj; subst hj; simpa [Addr.add] using hg
  · intro y hy
    simp at hy
    subst hy
    exact hu1
  · intro v' w' hown' hgr _
    have h' : OwnC w' base E v' (n + 1) (cs ++ [u]) := ⟨hown', by simp [hown.2]⟩
    rcases h'.form with ⟨_, h2, _⟩ | ⟨g', cap', rfl, _⟩
    · omega
    · exact h g' cap' w' h' (hb.grown hgr (by omega) (fun k hk => by have := hown.ownLt k hk; omega)) (fun g2 T m2 f hT hr => hr.of_block (grown_block hgr g2 hr.lt (fun e => hT (hown.typeOf g2 e.symm hr)))) (fun bs T x xs hT hv => by
        refine ⟨hv.1, ?_⟩
        rcases hv.2 with a1 | ⟨g0, cap, cur, a1, a2, a3, a4⟩
        · exact .inl a1
        · refine .inr ⟨g0, cap, cur, a1, a2, (grown_block hgr g0 (Array.getElem?_eq_some_iff.1 a3).1 (fun e => ?_)).trans a3, a4⟩
          exact hv.apart hown (fun e => hT e.symm) g0 (by rw [a1]; simp [Value.ownBlock]) e.symm)
end Go.Proofs.Ytdjhiegolojoaaa
