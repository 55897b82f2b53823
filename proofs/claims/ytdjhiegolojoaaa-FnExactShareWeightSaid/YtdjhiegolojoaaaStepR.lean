/-
  Words: an append of records inside a region that draws its order. No Go function is spoken of here.
-/
import Derived.Test.YtdjhiegolojoaaaOwnR
import Derived.Deep.RegionLaw
namespace Go.Proofs.Ytdjhiegolojoaaa
open Go.RowKit

/-- An append of records inside a region that draws its order. -/
theorem step_appR {P : Program} {ops : Array Oper} {o : Oper} {a : Act} {w : World} {K : Act → World → Prop} {Q : Exit → Act → World → Prop} {F : Prop} (hgd : o.guard = none) (s x : Operand) (t : TypeId)
    (ho : o.op = .call { callee := .builtin .append, args := #[s, x], argTypes := #[t, t] })
    (base : Nat) (E : TypeId) (Kr bytes : Nat) (zc : Array Value) (ht : P.underlying t = some (.slice E)) (hinfo : (P.info? E).map (fun i => (i.zero, i.size, i.bytes)) = some (some (.agg zc), Kr, bytes)) (hzc : zc.size = Kr) (hK : 0 < Kr) (hby : bytes ≤ 1024)
    (v : Value) (n : Nat) (xs : List Int) (hs : a.eval s = v) (hown : OwnR w base E Kr v n xs) (g m c : Nat) (ys : List Int) (hx : a.eval x = .slice (some ⟨g, 0, none⟩) m c) (hy : ys.length = m * Kr)
    (hg : ∀ i, i < m * Kr → w.cell? ⟨g, i, none⟩ = some (.int .i64 (nth ys i))) (hn : n + m ≤ 1048576) (B : Nat) (w0 : World) (hb : Below B w0 w) (hB : B ≤ base) (hbase : base ≤ w.heap.size) (xs' : List Int) (hxs : xs ++ ys = xs') (hm : 1 ≤ m)
    (h : ∀ g' cap' w', OwnR w' base E Kr (.slice (some ⟨g', 0, none⟩) (n + m) cap') (n + m) xs' → Below B w0 w' → K (a.put o.dst (.slice (some ⟨g', 0, none⟩) (n + m) cap')) w') : if Region.wanted o (yielded ops a.tmps) = true then Oper.wp P o a w K Q else F := by
  have hw : Region.wanted o (yielded ops a.tmps) = true := by simp [Region.wanted, hgd]
  rw [if_pos hw]
  subst hxs
  obtain ⟨i0, hi0, hz0, hz1, hz2⟩ := info_parts hinfo
  have hbb : (n + m) * bytes ≤ 1048576 * 1024 := Nat.mul_le_mul hn hby
  refine wp_append_own (P := P) w s x t ho base E i0 (.agg zc) Kr bytes ht hi0 hz0 hz1 hz2 (by simpa [Value.cells] using hzc) hK v n _ hs hown.1 ⟨g, 0, none⟩ m c (ys.map (Value.int .i64)) hx (by simpa using hy) ?_ ?_ (by unfold maxLen; omega) (by omega) hbase ?_
  · intro j u hj
    have hjl : j < ys.length := by
      have := (List.getElem?_eq_some_iff.1 hj).1
      simpa using this
    rw [List.getElem?_map, List.getElem?_eq_getElem hjl] at hj
    simp at hj
    subst hj
    rw [Go.WideShapes.add_plain, Nat.zero_add, hg j (by rw [← hy]; exact hjl), nth_get ys j hjl]
  · intro u hu
    obtain ⟨z, _, rfl⟩ := List.mem_map.1 hu
    rfl
  · intro v' w' hown' hgr _
    have h' : OwnR w' base E Kr v' (n + m) (xs ++ ys) := ⟨by rw [List.map_append]; exact hown', by rw [List.length_append, hown.2, hy, Nat.add_mul]⟩
    rcases h'.form with ⟨_, h2, _⟩ | ⟨g', cap', rfl, _⟩
    · omega
    · exact h g' cap' w' h' (hb.grown hgr (by omega) (fun k hk => by have := hown.ownLt k hk; omega))
/-- .. and rows of other element types stay. -/
theorem step_appRT {P : Program} {ops : Array Oper} {o : Oper} {a : Act} {w : World} {K : Act → World → Prop} {Q : Exit → Act → World → Prop} {F : Prop} (hgd : o.guard = none) (s x : Operand) (t : TypeId)
    (ho : o.op = .call { callee := .builtin .append, args := #[s, x], argTypes := #[t, t] })
    (base : Nat) (E : TypeId) (Kr bytes : Nat) (zc : Array Value) (ht : P.underlying t = some (.slice E)) (hinfo : (P.info? E).map (fun i => (i.zero, i.size, i.bytes)) = some (some (.agg zc), Kr, bytes)) (hzc : zc.size = Kr) (hK : 0 < Kr) (hby : bytes ≤ 1024)
    (v : Value) (n : Nat) (xs : List Int) (hs : a.eval s = v) (hown : OwnR w base E Kr v n xs) (g m c : Nat) (ys : List Int) (hx : a.eval x = .slice (some ⟨g, 0, none⟩) m c) (hy : ys.length = m * Kr)
    (hg : ∀ i, i < m * Kr → w.cell? ⟨g, i, none⟩ = some (.int .i64 (nth ys i))) (hn : n + m ≤ 1048576) (B : Nat) (w0 : World) (hb : Below B w0 w) (hB : B ≤ base) (hbase : base ≤ w.heap.size) (xs' : List Int) (hxs : xs ++ ys = xs') (hm : 1 ≤ m)
    (h : ∀ g' cap' w', OwnR w' base E Kr (.slice (some ⟨g', 0, none⟩) (n + m) cap') (n + m) xs' → Below B w0 w' → (∀ g2 T m2 f, T ≠ E → RowF w g2 T m2 f → RowF w' g2 T m2 f) → K (a.put o.dst (.slice (some ⟨g', 0, none⟩) (n + m) cap')) w') : if Region.wanted o (yielded ops a.tmps) = true then Oper.wp P o a w K Q else F := by
  have hw : Region.wanted o (yielded ops a.tmps) = true := by simp [Region.wanted, hgd]
  rw [if_pos hw]
  subst hxs
  obtain ⟨i0, hi0, hz0, hz1, hz2⟩ := info_parts hinfo
  have hbb : (n + m) * bytes ≤ 1048576 * 1024 := Nat.mul_le_mul hn hby
  refine wp_append_own (P := P) w s x t ho base E i0 (.agg zc) Kr bytes ht hi0 hz0 hz1 hz2 (by simpa [Value.cells] using hzc) hK v n _ hs hown.1 ⟨g, 0, none⟩ m c (ys.map (Value.int .i64)) hx (by simpa using hy) ?_ ?_ (by unfold maxLen; omega) (by omega) hbase ?_
  · intro j u hj
    have hjl : j < ys.length := by
      have := (List.getElem?_eq_some_iff.1 hj).1
      simpa using this
    rw [List.getElem?_map, List.getElem?_eq_getElem hjl] at hj
    simp at hj
    subst hj
    rw [Go.WideShapes.add_plain, Nat.zero_add, hg j (by rw [← hy]; exact hjl), nth_get ys j hjl]
  · intro u hu
    obtain ⟨z, _, rfl⟩ := List.mem_map.1 hu
    rfl
  · intro v' w' hown' hgr _
    have h' : OwnR w' base E Kr v' (n + m) (xs ++ ys) := ⟨by rw [List.map_append]; exact hown', by rw [List.length_append, hown.2, hy, Nat.add_mul]⟩
    rcases h'.form with ⟨_, h2, _⟩ | ⟨g', cap', rfl, _⟩
    · omega
    · exact h g' cap' w' h' (hb.grown hgr (by omega) (fun k hk => by have := hown.ownLt k hk; omega)) (fun g2 T m2 f hT hr => hr.of_block (grown_block hgr g2 hr.lt (fun e => hT (hown.typeOf g2 e.symm hr))))
end Go.Proofs.Ytdjhiegolojoaaa
