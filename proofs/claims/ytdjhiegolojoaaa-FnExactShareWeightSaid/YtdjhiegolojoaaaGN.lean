/-
  Words: a slice of cells of the call's own, each an own slice of records; append that tells where the new row lies. No Go function is spoken of here.
-/
import Derived.Test.YtdjhiegolojoaaaAppI
import Derived.Test.YtdjhiegolojoaaaStepR
import Derived.Test.YtdjhiegolojoaaaNest
import Derived.ArgAppend
import Derived.Deep.DeepAppendRoom
namespace Go.Proofs.Ytdjhiegolojoaaa
open Go.RowKit

theorem run_appX {P : Program} (w : World) (base : Nat) (t ty E : TypeId) (Kr bytes : Nat) (z : Value) (ht : P.underlying t = some (.slice E)) (hinfo : (P.info? E).map (fun i => (i.zero, i.size, i.bytes)) = some (some z, Kr, bytes)) (hzc : z.cells.size = Kr) (hK : 0 < Kr) (hby : bytes ≤ 1024)
    (v : Value) (n : Nat) (xs : List Value) (hown : w.ownsRow base E Kr v n xs) (a : Addr) (m c : Nat) (news : List Value) (hl : news.length = m * Kr) (hnews : ∀ j u, news[j]? = some u → w.cell? (a.add j) = some u) (h1 : ∀ u ∈ news, u.oneCell' = true)
    (hn : n + m ≤ 1048576) (hbase : base ≤ w.heap.size) :
    ∃ v' w', (Builtin.append_ #[t, t] ty #[v, .slice (some a) m c]).run P w = .ok v' w' ∧ w'.ownsRow base E Kr v' (n + m) (xs ++ news) ∧ w.grownBy w' v.ownBlock ∧ (∀ g, v'.ownBlock = some g → v.ownBlock = some g ∨ w.heap.size ≤ g) ∧ (v' = .slice none 0 0 → v = .slice none 0 0) := by
  obtain ⟨i0, hi0, hz0, hz1, hz2⟩ := info_parts hinfo
  have hbb : (n + m) * bytes ≤ 1048576 * 1024 := Nat.mul_le_mul hn hby
  obtain ⟨v1, w1, hr1, ho1, hg1, hnil⟩ := run_append_own (P := P) (w := w) base t ty E i0 z Kr bytes ht hi0 hz0 hz1 hz2 hzc hK v n xs hown a m c news hl hnews h1 (by unfold maxLen; omega) (by omega) hbase
  refine ⟨v1, w1, hr1, ho1, hg1, fun g hg => ?_, fun h => (hnil.1 h).1⟩
  have key : ∀ v2 w2, (Builtin.append_ #[t, t] ty #[v, .slice (some a) m c]).run P w = .ok v2 w2 → v1 = v2 ∧ w1 = w2 := fun v2 w2 h => by
    rw [hr1] at h
    simp at h
    exact h
  rcases hown.2 with ⟨hv, hn0⟩ | ⟨g0, cap, cur, hv, hb0, h3, h4, h5, h6, h7⟩
  · subst hv hn0
    have hx : xs = [] := List.eq_nil_of_length_eq_zero (by rw [hown.1]; omega)
    subst hx
    obtain ⟨v2, w2, hr2, ho2, _, _⟩ := run_append_own (P := P) (w := w) w.heap.size t ty E i0 z Kr bytes ht hi0 hz0 hz1 hz2 hzc hK (.slice none 0 0) 0 [] (World.ownsRow_nil _ _ _ _) a m c news hl hnews h1 (by unfold maxLen; omega) (by omega) (Nat.le_refl _)
    obtain ⟨rfl, rfl⟩ := key _ _ hr2
    exact .inr (World.ownsRow.lt ho2 g hg).1
  · subst hv
    by_cases hr : n + m ≤ cap
    · obtain ⟨w2, hr2, _, _⟩ := run_append_own_spare (P := P) (w := w) base t ty E i0 Kr ht hi0 hz1 g0 n cap xs hown a m c news hl hnews h1 hr
      obtain ⟨rfl, rfl⟩ := key _ _ hr2
      exact .inl hg
    · obtain ⟨v2, w2, hr2, ho2, _⟩ := run_append_arg_grows (P := P) (w := w) t ty E i0 z Kr bytes ht hi0 hz0 hz1 hz2 hzc hK ⟨g0, 0, none⟩ n cap xs hown.1 (fun j u hj => by
          rw [Go.WideShapes.add_plain, Nat.zero_add]
          have e : (cur.toList.take (n * Kr))[j]? = some u := by rw [h7]; exact hj
          rw [List.getElem?_take] at e
          split at e
          · simpa [World.cell?, h3] using e
          · simp at e) a m c news hl hnews (by omega) (by unfold maxLen; omega) (by omega)
      obtain ⟨rfl, rfl⟩ := key _ _ hr2
      exact .inr (World.ownsRow.lt ho2 g hg).1

/-- Blocks below the heap's end but the one behind v stay. -/
def StayBut (v : Value) (w w' : World) : Prop := ∀ g, g < w.heap.size → v.ownBlock ≠ some g → w'.heap[g]? = w.heap[g]?
theorem stay_of_grown {v : Value} {w w' : World} (h : w.grownBy w' v.ownBlock) : StayBut v w w' := fun g hg hne => grown_block h g hg (fun e => hne e.symm)
theorem StayBut.below {v : Value} {w w' : World} (h : w.grownBy w' v.ownBlock) {base : Nat} (hb : base ≤ w.heap.size) (ho : ∀ g, v.ownBlock = some g → base ≤ g) : Below base w w' :=
  (Below.refl base w).grown h hb ho
/-- What is left of an append: the result owns its row; which is the old one or a new one; all else stays. -/
structure AppRes (w w' : World) (base : Nat) (v v' : Value) : Prop where
  below : Below base w w'
  stay : StayBut v w w'
  where_ : ∀ g, v'.ownBlock = some g → v.ownBlock = some g ∨ w.heap.size ≤ g
  size : w.heap.size ≤ w'.heap.size

/-- An append of records. -/
theorem wp_appRX {P : Program} {o : Oper} {a : Act} {w : World} {K : Act → World → Prop} {Q : Exit → Act → World → Prop} (s x : Operand) (t : TypeId)
    (ho : o.op = .call { callee := .builtin .append, args := #[s, x], argTypes := #[t, t] })
    (base : Nat) (E : TypeId) (Kr bytes : Nat) (zc : Array Value) (ht : P.underlying t = some (.slice E)) (hinfo : (P.info? E).map (fun i => (i.zero, i.size, i.bytes)) = some (some (.agg zc), Kr, bytes)) (hzc : zc.size = Kr) (hK : 0 < Kr) (hby : bytes ≤ 1024)
    (v : Value) (n : Nat) (xs : List Int) (hs : a.eval s = v) (hown : OwnR w base E Kr v n xs) (g m c : Nat) (ys : List Int) (hx : a.eval x = .slice (some ⟨g, 0, none⟩) m c) (hy : ys.length = m * Kr)
    (hg : ∀ i, i < m * Kr → w.cell? ⟨g, i, none⟩ = some (.int .i64 (nth ys i))) (hn : n + m ≤ 1048576) (hbase : base ≤ w.heap.size) (hnn : v ≠ .slice none 0 0)
    (h : ∀ g' cap' w', OwnR w' base E Kr (.slice (some ⟨g', 0, none⟩) (n + m) cap') (n + m) (xs ++ ys) → AppRes w w' base v (.slice (some ⟨g', 0, none⟩) (n + m) cap') → K (a.put o.dst (.slice (some ⟨g', 0, none⟩) (n + m) cap')) w') : Oper.wp P o a w K Q := by
  obtain ⟨v', w', hr, ho', hgr, hwh, hnil⟩ := run_appX (P := P) w base t o.type E Kr bytes (.agg zc) ht hinfo (by simpa [Value.cells] using hzc) hK hby v n _ hown.1 ⟨g, 0, none⟩ m c (ys.map (Value.int .i64)) (by simpa using hy) (fun j u hj => by
      have hjl : j < ys.length := by
        have := (List.getElem?_eq_some_iff.1 hj).1
        simpa using this
      rw [List.getElem?_map, List.getElem?_eq_getElem hjl] at hj
      simp at hj
      subst hj
      rw [Go.WideShapes.add_plain, Nat.zero_add, hg j (by rw [← hy]; exact hjl), nth_get ys j hjl]) (fun u hu => by obtain ⟨z, _, rfl⟩ := List.mem_map.1 hu; rfl) hn hbase
  have h' : OwnR w' base E Kr v' (n + m) (xs ++ ys) := ⟨by rw [List.map_append]; exact ho', by rw [List.length_append, hown.2, hy, Nat.add_mul]⟩
  unfold Oper.wp execOp
  simp only [ho, resolve, invoke, builtin, Sem.run_bind, Sem.run_pure, Result.andThen_ok, List.map_toArray, List.map_cons, List.map_nil, hs, hx, hr]
  rcases h'.form with ⟨e, _, _⟩ | ⟨g', cap', rfl, _⟩
  · exact absurd (hnil e) hnn
  · exact h g' cap' w' h' ⟨StayBut.below hgr hbase hown.ownLt, stay_of_grown hgr, hwh, hgr.size⟩
/-- .. inside a region that draws its order. -/
theorem step_appRX {P : Program} {ops : Array Oper} {o : Oper} {a : Act} {w : World} {K : Act → World → Prop} {Q : Exit → Act → World → Prop} {F : Prop} (hgd : o.guard = none) (s x : Operand) (t : TypeId)
    (ho : o.op = .call { callee := .builtin .append, args := #[s, x], argTypes := #[t, t] })
    (base : Nat) (E : TypeId) (Kr bytes : Nat) (zc : Array Value) (ht : P.underlying t = some (.slice E)) (hinfo : (P.info? E).map (fun i => (i.zero, i.size, i.bytes)) = some (some (.agg zc), Kr, bytes)) (hzc : zc.size = Kr) (hK : 0 < Kr) (hby : bytes ≤ 1024)
    (v : Value) (n : Nat) (xs : List Int) (hs : a.eval s = v) (hown : OwnR w base E Kr v n xs) (g m c : Nat) (ys : List Int) (hx : a.eval x = .slice (some ⟨g, 0, none⟩) m c) (hy : ys.length = m * Kr)
    (hg : ∀ i, i < m * Kr → w.cell? ⟨g, i, none⟩ = some (.int .i64 (nth ys i))) (hn : n + m ≤ 1048576) (hbase : base ≤ w.heap.size) (hnn : v ≠ .slice none 0 0)
    (h : ∀ g' cap' w', OwnR w' base E Kr (.slice (some ⟨g', 0, none⟩) (n + m) cap') (n + m) (xs ++ ys) → AppRes w w' base v (.slice (some ⟨g', 0, none⟩) (n + m) cap') → K (a.put o.dst (.slice (some ⟨g', 0, none⟩) (n + m) cap')) w') : if Region.wanted o (yielded ops a.tmps) = true then Oper.wp P o a w K Q else F := by
  have hw : Region.wanted o (yielded ops a.tmps) = true := by simp [Region.wanted, hgd]
  rw [if_pos hw]
  exact wp_appRX s x t ho base E Kr bytes zc ht hinfo hzc hK hby v n xs hs hown g m c ys hx hy hg hn hbase hnn h
/-- .. in a region in the text's order. -/
theorem wpList_appRX {P : Program} {ops : Array Oper} {o : Oper} {a : Act} {w : World} {rest : List Oper} {Q : Exit → Act → World → Prop} (hgd : o.guard = none) (s x : Operand) (t : TypeId)
    (ho : o.op = .call { callee := .builtin .append, args := #[s, x], argTypes := #[t, t] })
    (base : Nat) (E : TypeId) (Kr bytes : Nat) (zc : Array Value) (ht : P.underlying t = some (.slice E)) (hinfo : (P.info? E).map (fun i => (i.zero, i.size, i.bytes)) = some (some (.agg zc), Kr, bytes)) (hzc : zc.size = Kr) (hK : 0 < Kr) (hby : bytes ≤ 1024)
    (v : Value) (n : Nat) (xs : List Int) (hs : a.eval s = v) (hown : OwnR w base E Kr v n xs) (g m c : Nat) (ys : List Int) (hx : a.eval x = .slice (some ⟨g, 0, none⟩) m c) (hy : ys.length = m * Kr)
    (hg : ∀ i, i < m * Kr → w.cell? ⟨g, i, none⟩ = some (.int .i64 (nth ys i))) (hn : n + m ≤ 1048576) (hbase : base ≤ w.heap.size) (hnn : v ≠ .slice none 0 0)
    (h : ∀ g' cap' w', OwnR w' base E Kr (.slice (some ⟨g', 0, none⟩) (n + m) cap') (n + m) (xs ++ ys) → AppRes w w' base v (.slice (some ⟨g', 0, none⟩) (n + m) cap') → wpList P ops Q rest (a.put o.dst (.slice (some ⟨g', 0, none⟩) (n + m) cap')) w') : wpList P ops Q (o :: rest) a w :=
  wpList_plain hgd fun _ hK2 => wp_appRX s x t ho base E Kr bytes zc ht hinfo hzc hK hby v n xs hs hown g m c ys hx hy hg hn hbase hnn (fun g' cap' w' h1 h2 => hK2 _ _ (h g' cap' w' h1 h2))
/-- An append of one cell. -/
theorem wp_appCX {P : Program} {o : Oper} {a : Act} {w : World} {K : Act → World → Prop} {Q : Exit → Act → World → Prop} (s x : Operand) (t : TypeId)
    (ho : o.op = .call { callee := .builtin .append, args := #[s, x], argTypes := #[t, t] })
    (base : Nat) (E : TypeId) (bytes : Nat) (zv : Value) (ht : P.underlying t = some (.slice E)) (hinfo : (P.info? E).map (fun i => (i.zero, i.size, i.bytes)) = some (some zv, 1, bytes)) (hzc : zv.cells.size = 1) (hby : bytes ≤ 1024)
    (v : Value) (n : Nat) (cs : List Value) (hs : a.eval s = v) (hown : OwnC w base E v n cs) (g c : Nat) (u : Value) (hu1 : u.oneCell' = true) (hx : a.eval x = .slice (some ⟨g, 0, none⟩) 1 c)
    (hg : w.cell? ⟨g, 0, none⟩ = some u) (hn : n + 1 ≤ 1048576) (hbase : base ≤ w.heap.size)
    (h : ∀ g' cap' w', OwnC w' base E (.slice (some ⟨g', 0, none⟩) (n + 1) cap') (n + 1) (cs ++ [u]) → AppRes w w' base v (.slice (some ⟨g', 0, none⟩) (n + 1) cap') → K (a.put o.dst (.slice (some ⟨g', 0, none⟩) (n + 1) cap')) w') : Oper.wp P o a w K Q := by
  obtain ⟨v', w', hr, ho', hgr, hwh, _⟩ := run_appX (P := P) w base t o.type E 1 bytes zv ht hinfo hzc (by omega) hby v n cs hown.1 ⟨g, 0, none⟩ 1 c [u] (by simp) (fun j y hj => by
      match j, hj with
      | 0, hj => simp at hj; subst hj; simpa [Addr.add] using hg) (fun y hy => by simp at hy; subst hy; exact hu1) hn hbase
  have h' : OwnC w' base E v' (n + 1) (cs ++ [u]) := ⟨ho', by simp [hown.2]⟩
  unfold Oper.wp execOp
  simp only [ho, resolve, invoke, builtin, Sem.run_bind, Sem.run_pure, Result.andThen_ok, List.map_toArray, List.map_cons, List.map_nil, hs, hx, hr]
  rcases h'.form with ⟨_, h2, _⟩ | ⟨g', cap', rfl, _⟩
  · omega
  · exact h g' cap' w' h' ⟨StayBut.below hgr hbase hown.ownLt, stay_of_grown hgr, hwh, hgr.size⟩

/-- .. inside a region that draws its order. -/
theorem step_appCX {P : Program} {ops : Array Oper} {o : Oper} {a : Act} {w : World} {K : Act → World → Prop} {Q : Exit → Act → World → Prop} {F : Prop} (hgd : o.guard = none) (s x : Operand) (t : TypeId)
    (ho : o.op = .call { callee := .builtin .append, args := #[s, x], argTypes := #[t, t] })
    (base : Nat) (E : TypeId) (bytes : Nat) (zv : Value) (ht : P.underlying t = some (.slice E)) (hinfo : (P.info? E).map (fun i => (i.zero, i.size, i.bytes)) = some (some zv, 1, bytes)) (hzc : zv.cells.size = 1) (hby : bytes ≤ 1024)
    (v : Value) (n : Nat) (cs : List Value) (hs : a.eval s = v) (hown : OwnC w base E v n cs) (g c : Nat) (u : Value) (hu1 : u.oneCell' = true) (hx : a.eval x = .slice (some ⟨g, 0, none⟩) 1 c)
    (hg : w.cell? ⟨g, 0, none⟩ = some u) (hn : n + 1 ≤ 1048576) (hbase : base ≤ w.heap.size)
    (h : ∀ g' cap' w', OwnC w' base E (.slice (some ⟨g', 0, none⟩) (n + 1) cap') (n + 1) (cs ++ [u]) → AppRes w w' base v (.slice (some ⟨g', 0, none⟩) (n + 1) cap') → K (a.put o.dst (.slice (some ⟨g', 0, none⟩) (n + 1) cap')) w') : if Region.wanted o (yielded ops a.tmps) = true then Oper.wp P o a w K Q else F := by
  have hw : Region.wanted o (yielded ops a.tmps) = true := by simp [Region.wanted, hgd]
  rw [if_pos hw]
  exact wp_appCX s x t ho base E bytes zv ht hinfo hzc hby v n cs hs hown g c u hu1 hx hg hn hbase h
/-- .. in a region in the text's order. -/
theorem wpList_appCX {P : Program} {ops : Array Oper} {o : Oper} {a : Act} {w : World} {rest : List Oper} {Q : Exit → Act → World → Prop} (hgd : o.guard = none) (s x : Operand) (t : TypeId)
    (ho : o.op = .call { callee := .builtin .append, args := #[s, x], argTypes := #[t, t] })
    (base : Nat) (E : TypeId) (bytes : Nat) (zv : Value) (ht : P.underlying t = some (.slice E)) (hinfo : (P.info? E).map (fun i => (i.zero, i.size, i.bytes)) = some (some zv, 1, bytes)) (hzc : zv.cells.size = 1) (hby : bytes ≤ 1024)
    (v : Value) (n : Nat) (cs : List Value) (hs : a.eval s = v) (hown : OwnC w base E v n cs) (g c : Nat) (u : Value) (hu1 : u.oneCell' = true) (hx : a.eval x = .slice (some ⟨g, 0, none⟩) 1 c)
    (hg : w.cell? ⟨g, 0, none⟩ = some u) (hn : n + 1 ≤ 1048576) (hbase : base ≤ w.heap.size)
    (h : ∀ g' cap' w', OwnC w' base E (.slice (some ⟨g', 0, none⟩) (n + 1) cap') (n + 1) (cs ++ [u]) → AppRes w w' base v (.slice (some ⟨g', 0, none⟩) (n + 1) cap') → wpList P ops Q rest (a.put o.dst (.slice (some ⟨g', 0, none⟩) (n + 1) cap')) w') : wpList P ops Q (o :: rest) a w :=
  wpList_plain hgd fun _ hK2 => wp_appCX s x t ho base E bytes zv ht hinfo hzc hby v n cs hs hown g c u hu1 hx hg hn hbase (fun g' cap' w' h1 h2 => hK2 _ _ (h g' cap' w' h1 h2))

theorem AppRes.cellStay {w w' : World} {base : Nat} {v v' : Value} (h : AppRes w w' base v v') {p : Addr} (hp : p.block < w.heap.size) (hne : ∀ g, v.ownBlock = some g → g ≠ p.block) : w'.cell? p = w.cell? p :=
  World.cell?_of_block (w := w) (h.stay p.block hp (fun e => hne _ e rfl))
theorem OwnC.blockLt {w : World} {base : Nat} {E : TypeId} {n : Nat} {v : Value} {cs : List Value} (h : OwnC w base E v n cs) (g : Nat) (hg : v.ownBlock = some g) : g < w.heap.size := (World.ownsRow.lt h.1 g hg).2

/-! ### The nest -/
theorem OwnR.lowG {w : World} {base base' : Nat} {E : TypeId} {K n : Nat} {v : Value} {xs : List Int} (h : OwnR w base E K v n xs) (hb : base' ≤ base) : OwnR w base' E K v n xs := by
  refine ⟨⟨h.1.1, ?_⟩, h.2⟩
  rcases h.1.2 with h2 | ⟨g, cap, cur, h1, h2, h3⟩
  · exact .inl h2
  · exact .inr ⟨g, cap, cur, h1, by omega, h3⟩
theorem OwnR.ofBlock {w w' : World} {base : Nat} {E : TypeId} {K n : Nat} {v : Value} {xs : List Int} (h : OwnR w base E K v n xs) (e : ∀ g, v.ownBlock = some g → w'.heap[g]? = w.heap[g]?) : OwnR w' base E K v n xs := by
  refine ⟨⟨h.1.1, ?_⟩, h.2⟩
  rcases h.1.2 with h2 | ⟨g, cap, cur, h1, h2, h3, hr⟩
  · exact .inl h2
  · exact .inr ⟨g, cap, cur, h1, h2, (e g (by rw [h1]; simp [Value.ownBlock])).trans h3, hr⟩
theorem OwnR.typeAt {w : World} {base : Nat} {E : TypeId} {K n : Nat} {v : Value} {xs : List Int} (h : OwnR w base E K v n xs) (g : Nat) (hg : v.ownBlock = some g) : ∃ c, w.heap[g]? = some (.cells c E) := by
  rcases h.1.2 with ⟨h1, _⟩ | ⟨g0, cap, cur, h1, _, h3, _⟩
  · rw [h1] at hg; simp [Value.ownBlock] at hg
  · rw [h1] at hg
    simp [Value.ownBlock] at hg
    subst hg
    exact ⟨_, h3⟩
theorem OwnC.typeAt {w : World} {base : Nat} {E : TypeId} {n : Nat} {v : Value} {cs : List Value} (h : OwnC w base E v n cs) (g : Nat) (hg : v.ownBlock = some g) : ∃ c, w.heap[g]? = some (.cells c E) := by
  rcases h.1.2 with ⟨h1, _⟩ | ⟨g0, cap, cur, h1, _, h3, _⟩
  · rw [h1] at hg; simp [Value.ownBlock] at hg
  · rw [h1] at hg
    simp [Value.ownBlock] at hg
    subst hg
    exact ⟨_, h3⟩
/-- Slice value v of the call's own: n cells, each an own slice of records (row i: rowN L i of them, the ints rowZ L i), the rows apart from each other. -/
structure GN (w : World) (base : Nat) (T E : TypeId) (K : Nat) (v : Value) (n : Nat) (cs : List Value) (L : List (Nat × List Int)) : Prop where
  cells : OwnC w base T v n cs
  row : ∀ i, i < n → ∃ g c, cs[i]? = some (.slice (some ⟨g, 0, none⟩) (rowN L i) c) ∧ OwnR w base E K (.slice (some ⟨g, 0, none⟩) (rowN L i) c) (rowN L i) (rowZ L i)
  apart : ∀ i j, i < n → j < n → i ≠ j → ∀ g, (cs[i]?).bind Value.ownBlock = some g → (cs[j]?).bind Value.ownBlock ≠ some g
section
variable {w w' : World} {base : Nat} {T E : TypeId} {K n : Nat} {v : Value} {cs : List Value} {L : List (Nat × List Int)}
theorem GN.nil : GN w base T E K (.slice none 0 0) 0 [] L := ⟨⟨World.ownsRow_nil _ _ _ _, rfl⟩, fun i hi => absurd hi (by omega), fun i j hi => absurd hi (by omega)⟩
/-- It stays where its blocks do. -/
theorem GN.keep (h : GN w base T E K v n cs L) (e : ∀ g c X, w.heap[g]? = some (.cells c X) → base ≤ g → X = T ∨ X = E → w'.heap[g]? = w.heap[g]?) : GN w' base T E K v n cs L := by
  refine ⟨h.cells.ofBlock fun g hg => ?_, fun i hi => ?_, h.apart⟩
  · obtain ⟨c, hc⟩ := h.cells.typeAt g hg
    exact e g c T hc (h.cells.ownLt g hg) (.inl rfl)
  · obtain ⟨g, c, h1, h2⟩ := h.row i hi
    refine ⟨g, c, h1, h2.ofBlock fun g' hg' => ?_⟩
    obtain ⟨c', hc'⟩ := h2.typeAt g' hg'
    exact e g' c' E hc' (h2.ownLt g' hg') (.inr rfl)
theorem GN.after (h : GN w base T E K v n cs L) (hb : Below w.heap.size w w') : GN w' base T E K v n cs L :=
  h.keep fun g _ _ hg _ _ => hb.block g (Array.getElem?_eq_some_iff.1 hg).1
theorem GN.setCell (h : GN w base T E K v n cs L) {p : Addr} {c : Array Value} {X : TypeId} (hp : w.heap[p.block]? = some (.cells c X)) (h1 : X ≠ T) (h2 : X ≠ E) (u : Value) : GN (w.setCell p u) base T E K v n cs L :=
  h.keep fun g c' X' hg _ hX => Below.heap_setCell _ _ _ _ (fun e => by
    rw [e] at hg
    rw [hp] at hg
    simp at hg
    rcases hX with hX | hX
    · exact h1 (hg.2.trans hX)
    · exact h2 (hg.2.trans hX))
theorem GN.setLow (h : GN w base T E K v n cs L) {p : Addr} (hp : p.block < base) (u : Value) : GN (w.setCell p u) base T E K v n cs L :=
  h.keep fun g c' X' hg hb hX => Below.heap_setCell _ _ _ _ (by omega)
theorem GN.mono {base' : Nat} (h : GN w base T E K v n cs L) (hb : base' ≤ base) : GN w base' T E K v n cs L := by
  have key : ∀ (X : TypeId) (k m : Nat) (u : Value) (xs : List Value), w.ownsRow base X k u m xs → w.ownsRow base' X k u m xs := fun X k m u xs h => by
    refine ⟨h.1, ?_⟩
    rcases h.2 with h2 | ⟨g, cap, cur, h1, h2, h3⟩
    · exact .inl h2
    · exact .inr ⟨g, cap, cur, h1, by omega, h3⟩
  refine ⟨⟨key _ _ _ _ _ h.cells.1, h.cells.2⟩, fun i hi => ?_, h.apart⟩
  obtain ⟨g, c, h1, h2⟩ := h.row i hi
  exact ⟨g, c, h1, key _ _ _ _ _ h2.1, h2.2⟩
/-- As the readers of nests want it. -/
theorem GN.nestAt {A : Option Addr} {c : Nat} (h : GN w base T E K (.slice A n c) n cs L) (hL : L.length = n) : NestAt w w.heap.size K A n L := by
  refine ⟨hL, fun hn => ?_⟩
  rcases h.cells.form with ⟨_, h2, _⟩ | ⟨g, cap, e, _, _, hgl, hc⟩
  · omega
  · simp at e
    obtain ⟨rfl, rfl⟩ := e
    refine ⟨g, 0, rfl, hgl, fun i hi => ?_⟩
    obtain ⟨gi, ci, h1, h2⟩ := h.row i hi
    refine ⟨_, ci, by rw [Nat.zero_add, hc i hi, h1], h2.recs, ?_⟩
    rcases h2.1.2 with ⟨e, _⟩ | ⟨g0, cap0, cur, e, _, _, h4, h5, _⟩
    · simp at e
    · simp at e
      exact ⟨by omega, by omega⟩
/-- An append on a slice of another element type leaves it. -/
theorem GN.beside (h : GN w base T E K v n cs L) {u u' : Value} {b : Nat} (ha : AppRes w w' b u u') {X : TypeId} (hu : ∀ g, u.ownBlock = some g → ∃ c, w.heap[g]? = some (.cells c X)) (h1 : X ≠ T) (h2 : X ≠ E) : GN w' base T E K v n cs L :=
  h.keep fun g c' X' hg _ hX => ha.stay g (Array.getElem?_eq_some_iff.1 hg).1 (fun e => by
    obtain ⟨c2, hc2⟩ := hu g e
    rw [hg] at hc2
    simp at hc2
    rcases hX with hX | hX
    · exact h1 (hc2.2.symm.trans hX)
    · exact h2 (hc2.2.symm.trans hX))
/-- One more cell. -/
theorem GN.push (h : GN w base T E K v n cs L) (hTE : T ≠ E) {g c : Nat} {v' : Value} (hr : OwnR w base E K (.slice (some ⟨g, 0, none⟩) (rowN L n) c) (rowN L n) (rowZ L n)) (hnew : ∀ i, i < n → (cs[i]?).bind Value.ownBlock ≠ some g)
    (ho : OwnC w' base T v' (n + 1) (cs ++ [.slice (some ⟨g, 0, none⟩) (rowN L n) c])) (ha : AppRes w w' base v v') : GN w' base T E K v' (n + 1) (cs ++ [.slice (some ⟨g, 0, none⟩) (rowN L n) c]) L := by
  have hl := h.cells.2
  have hkeep : ∀ u (m : Nat) (xs : List Int), OwnR w base E K u m xs → OwnR w' base E K u m xs := fun u m xs ho => ho.ofBlock fun g' hg' => by
    obtain ⟨c', hc'⟩ := ho.typeAt g' hg'
    refine ha.stay g' (Array.getElem?_eq_some_iff.1 hc').1 (fun e => ?_)
    obtain ⟨c2, hc2⟩ := h.cells.typeAt g' e
    rw [hc'] at hc2
    simp at hc2
    exact hTE hc2.2.symm
  refine ⟨ho, fun i hi => ?_, fun i j hi hj hne g' => ?_⟩
  · by_cases e : i = n
    · subst e
      exact ⟨g, c, by rw [← hl]; simp, hkeep _ _ _ hr⟩
    · obtain ⟨g1, c1, h1, h2⟩ := h.row i (by omega)
      exact ⟨g1, c1, by rw [List.getElem?_append_left (by omega)]; exact h1, hkeep _ _ _ h2⟩
  · by_cases e1 : i = n
    · subst e1
      rw [List.getElem?_append_right (by omega), hl, Nat.sub_self, List.getElem?_append_left (by omega)]
      intro h1 h2
      simp [Value.ownBlock] at h1
      subst h1
      exact hnew j (by omega) h2
    · by_cases e2 : j = n
      · subst e2
        rw [List.getElem?_append_left (by omega), List.getElem?_append_right (by omega), hl, Nat.sub_self]
        intro h1 h2
        simp [Value.ownBlock] at h2
        subst h2
        exact hnew i (by omega) h1
      · rw [List.getElem?_append_left (by omega), List.getElem?_append_left (by omega)]
        exact h.apart i j (by omega) (by omega) hne g'
theorem GN.lt (h : GN w base T E K v n cs L) {i g : Nat} (hi : i < n) (hg : (cs[i]?).bind Value.ownBlock = some g) : g < w.heap.size := by
  obtain ⟨g1, c1, h1, h2⟩ := h.row i hi
  rw [h1] at hg
  obtain ⟨c', hc'⟩ := h2.typeAt g (by simpa using hg)
  exact (Array.getElem?_eq_some_iff.1 hc').1
end
end Go.Proofs.Ytdjhiegolojoaaa
