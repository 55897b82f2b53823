/-
  Words for a slice of records that the call itself makes, grown by append. No Go function is spoken of here.
-/
import Derived.Test.YtdjhiegolojoaaaRow
import Derived.Test.YtdjhiegolojoaaaOwn
namespace Go.Proofs.Ytdjhiegolojoaaa
open Go.RowKit

/-- The slice value v holds n records of K ints, flattened to xs, in a row of the call's own (a block from base on), or is nil. -/
def OwnR (w : World) (base : Nat) (E : TypeId) (K : Nat) (v : Value) (n : Nat) (xs : List Int) : Prop := w.ownsRow base E K v n (xs.map (Value.int .i64)) ∧ xs.length = n * K
section
variable {w w' : World} {base : Nat} {E : TypeId} {K n : Nat} {v : Value} {xs : List Int}
theorem OwnR.nil (w : World) (base : Nat) (E : TypeId) (K : Nat) : OwnR w base E K (.slice none 0 0) 0 [] := ⟨World.ownsRow_nil _ _ _ _, by simp⟩
theorem OwnR.alloc (h : OwnR w base E K v n xs) (o : Obj) : OwnR (w.alloc o) base E K v n xs := ⟨World.ownsRow.alloc h.1 o, h.2⟩
theorem OwnR.drew (h : OwnR w base E K v n xs) : OwnR w.drew base E K v n xs := h
theorem OwnR.drewN (h : OwnR w base E K v n xs) (k : Nat) : OwnR (w.drewN k) base E K v n xs := h
theorem OwnR.ownLt (h : OwnR w base E K v n xs) : ∀ k, v.ownBlock = some k → base ≤ k := fun k hk => (World.ownsRow.lt h.1 k hk).1
theorem OwnR.form (h : OwnR w base E K v n xs) : (v = .slice none 0 0 ∧ n = 0 ∧ xs = []) ∨ ∃ g cap, v = .slice (some ⟨g, 0, none⟩) n cap ∧ base ≤ g ∧ n ≤ cap ∧ RowF w g E (n * K) (ints xs) := by
  rcases h.1.2 with ⟨h1, h2⟩ | ⟨g, cap, cur, h1, h2, h3, h4, h5, h6, h7⟩
  · refine .inl ⟨h1, h2, List.eq_nil_of_length_eq_zero ?_⟩
    rw [h.2, h2, Nat.zero_mul]
  · refine .inr ⟨g, cap, h1, h2, h4, cur, h3, by rw [h6]; exact Nat.mul_le_mul_right _ h4, fun i hi => ?_⟩
    have hil : i < xs.length := by rw [h.2]; exact hi
    have e : (cur.toList.take (n * K))[i]? = (xs.map (Value.int .i64))[i]? := by rw [h7]
    rw [List.getElem?_take, if_pos hi, List.getElem?_map, List.getElem?_eq_getElem hil] at e
    simp at e
    simp [ints, nth_get xs i hil, e]
theorem OwnR.slice (h : OwnR w base E K v n xs) : ∃ A c, v = .slice A n c ∧ n ≤ c := by
  rcases h.form with ⟨rfl, rfl, _⟩ | ⟨g, cap, rfl, _, hc, _⟩
  · exact ⟨_, _, rfl, Nat.le_refl _⟩
  · exact ⟨_, _, rfl, hc⟩
theorem OwnR.recs {A : Option Addr} {c : Nat} (h : OwnR w base E K (.slice A n c) n xs) : RecsAt w w.heap.size K A n xs := by
  rcases h.form with ⟨e, rfl, rfl⟩ | ⟨g, cap, e, _, _, hr⟩
  · exact RecsAt.nil
  · simp at e
    obtain ⟨rfl, rfl⟩ := e
    exact hr.recs h.2
theorem OwnR.below (h : OwnR w base E K v n xs) (hb : Below w.heap.size w w') : OwnR w' base E K v n xs := by
  refine ⟨⟨h.1.1, ?_⟩, h.2⟩
  rcases h.1.2 with h2 | ⟨g, cap, cur, h1, h2, h3, hr⟩
  · exact .inl h2
  · refine .inr ⟨g, cap, cur, h1, h2, (hb.block g ?_).trans h3, hr⟩
    exact (Array.getElem?_eq_some_iff.1 h3).1
theorem OwnR.new (w : World) (E : TypeId) (K : Nat) : OwnR (w.alloc (.cells #[] E)) w.heap.size E K (.slice (some ⟨w.heap.size, 0, none⟩) 0 0) 0 [] :=
  ⟨World.ownsRow_lit (base := w.heap.size) (e := E) (size := K) w #[] 0 (Nat.le_refl _) (by simp [maxLen]) (by simp), by simp⟩
end

/-- 'out = append(out, records..)' onto a row of the call's own. -/
theorem wpList_appR {P : Program} (w : World) {ops : Array Oper} {rest : List Oper} {o : Oper} {a : Act} {Q : Exit → Act → World → Prop} (hgd : o.guard = none) (s x : Operand) (t : TypeId)
    (ho : o.op = .call { callee := .builtin .append, args := #[s, x], argTypes := #[t, t] })
    (base : Nat) (E : TypeId) (K bytes : Nat) (zc : Array Value) (ht : P.underlying t = some (.slice E)) (hinfo : (P.info? E).map (fun i => (i.zero, i.size, i.bytes)) = some (some (.agg zc), K, bytes)) (hzc : zc.size = K) (hK : 0 < K) (hby : bytes ≤ 1024)
    (v : Value) (n : Nat) (xs : List Int) (hs : a.eval s = v) (hown : OwnR w base E K v n xs) (g m c : Nat) (ys : List Int) (hx : a.eval x = .slice (some ⟨g, 0, none⟩) m c) (hy : ys.length = m * K)
    (hg : ∀ i, i < m * K → w.cell? ⟨g, i, none⟩ = some (.int .i64 (nth ys i))) (hn : n + m ≤ 1048576) (B : Nat) (w0 : World) (hb : Below B w0 w) (hB : B ≤ base) (hbase : base ≤ w.heap.size) (xs' : List Int) (hxs : xs ++ ys = xs')
    (h : ∀ g' cap' w', OwnR w' base E K (.slice (some ⟨g', 0, none⟩) (n + m) cap') (n + m) xs' → Below B w0 w' → wpList P ops Q rest (a.put o.dst (.slice (some ⟨g', 0, none⟩) (n + m) cap')) w') (hm : 1 ≤ m) : wpList P ops Q (o :: rest) a w := by
  subst hxs
  obtain ⟨i0, hi0, hz0, hz1, hz2⟩ := info_parts hinfo
  have hbb : (n + m) * bytes ≤ 1048576 * 1024 := Nat.mul_le_mul hn hby
  refine wpList_append_own (P := P) w hgd s x t ho base E i0 (.agg zc) K bytes ht hi0 hz0 hz1 hz2 (by simpa [Value.cells] using hzc) hK v n _ hs hown.1 ⟨g, 0, none⟩ m c (ys.map (Value.int .i64)) hx (by simpa using hy) ?_ ?_ (by unfold maxLen; omega) (by omega) hbase ?_
  · intro j u hj
    have hjl : j < ys.length := by
      have := (List.getElem?_eq_some_iff.1 hj).1
      simpa using this
    rw [List.getElem?_map, List.getElem?_eq_getElem hjl] at hj
    simp at hj
    subst hj
    rw [Go.WideShapes.add_plain, Nat.zero_add, hg j (by rw [← hy]; exact hjl), nth_get ys j hjl]
  · intro u hu
    obtain ⟨z, _, rfl⟩ := List.mem_map.1 hu
    rfl
  · intro v' w' hown' hgr _
    have h' : OwnR w' base E K v' (n + m) (xs ++ ys) := ⟨by rw [List.map_append]; exact hown', by rw [List.length_append, hown.2, hy, Nat.add_mul]⟩
    rcases h'.form with ⟨_, h2, _⟩ | ⟨g', cap', rfl, _⟩
    · omega
    · exact h g' cap' w' h' (hb.grown hgr (by omega) (fun k hk => by have := hown.ownLt k hk; omega))

theorem grown_block {w w' : World} {row : Option Nat} (h : w.grownBy w' row) (k : Nat) (hk : k < w.heap.size) (hne : some k ≠ row) : w'.heap[k]? = w.heap[k]? := by
  obtain ⟨_, _, _, _, hgg⟩ := h
  exact hgg k hk hne
theorem OwnR.typeOf {w : World} {base : Nat} {E : TypeId} {K n : Nat} {v : Value} {xs : List Int} (h : OwnR w base E K v n xs) (g : Nat) (hg : v.ownBlock = some g) {T : TypeId} {m : Nat} {f : Nat → Value} (hr : RowF w g T m f) : T = E := by
  rcases h.form with ⟨rfl, _⟩ | ⟨g', cap, rfl, _, _, hr'⟩
  · simp [Value.ownBlock] at hg
  · simp [Value.ownBlock] at hg
    subst hg
    obtain ⟨c, hb, _⟩ := hr
    obtain ⟨c', hb', _⟩ := hr'
    rw [hb] at hb'
    simp at hb'
    exact hb'.2
/-- Two slices of the call's own that share no block. -/
def ApartV (u v : Value) : Prop := ∀ k, u.ownBlock = some k → v.ownBlock ≠ some k
theorem ApartV.nil (v : Value) : ApartV (.slice none 0 0) v := fun k h => by simp [Value.ownBlock] at h
theorem ApartV.nil' (v : Value) : ApartV v (.slice none 0 0) := fun k _ h => by simp [Value.ownBlock] at h
theorem ApartV.symm {u v : Value} (h : ApartV u v) : ApartV v u := fun k h1 h2 => h k h2 h1
theorem OwnR.blockLt {w : World} {base : Nat} {E : TypeId} {K n : Nat} {v : Value} {xs : List Int} (h : OwnR w base E K v n xs) : ∀ k, v.ownBlock = some k → k < w.heap.size := fun k hk => (World.ownsRow.lt h.1 k hk).2
theorem OwnR.other {w w' : World} {base : Nat} {E : TypeId} {K n : Nat} {u : Value} {xs : List Int} {row : Option Nat} (h : OwnR w base E K u n xs) (hg : w.grownBy w' row) (hne : ∀ k, u.ownBlock = some k → row ≠ some k) : OwnR w' base E K u n xs := by
  refine ⟨⟨h.1.1, ?_⟩, h.2⟩
  rcases h.1.2 with h2 | ⟨g, cap, cur, h1, h2, h3, hr⟩
  · exact .inl h2
  · obtain ⟨_, _, _, _, hgg⟩ := hg
    refine .inr ⟨g, cap, cur, h1, h2, (hgg g (Array.getElem?_eq_some_iff.1 h3).1 (fun e => hne g (by rw [h1]; rfl) e.symm)).trans h3, hr⟩

/-- 'low = append(low, record)' while another slice of the call's own stays as it is. -/
theorem wpList_appR2 {P : Program} (w : World) {ops : Array Oper} {rest : List Oper} {o : Oper} {a : Act} {Q : Exit → Act → World → Prop} (hgd : o.guard = none) (s x : Operand) (t : TypeId)
    (ho : o.op = .call { callee := .builtin .append, args := #[s, x], argTypes := #[t, t] })
    (base : Nat) (E : TypeId) (K bytes : Nat) (zc : Array Value) (ht : P.underlying t = some (.slice E)) (hinfo : (P.info? E).map (fun i => (i.zero, i.size, i.bytes)) = some (some (.agg zc), K, bytes)) (hzc : zc.size = K) (hK : 0 < K) (hby : bytes ≤ 1024)
    (v : Value) (n : Nat) (xs : List Int) (hs : a.eval s = v) (hown : OwnR w base E K v n xs) (g m c : Nat) (ys : List Int) (hx : a.eval x = .slice (some ⟨g, 0, none⟩) m c) (hy : ys.length = m * K)
    (hg : ∀ i, i < m * K → w.cell? ⟨g, i, none⟩ = some (.int .i64 (nth ys i))) (hn : n + m ≤ 1048576) (B : Nat) (w0 : World) (hb : Below B w0 w) (hB : B ≤ base) (hbase : base ≤ w.heap.size) (xs' : List Int) (hxs : xs ++ ys = xs')
    (u : Value) (nu : Nat) (us : List Int) (hu : OwnR w base E K u nu us) (hap : ApartV v u)
    (h : ∀ g' cap' w', OwnR w' base E K (.slice (some ⟨g', 0, none⟩) (n + m) cap') (n + m) xs' → Below B w0 w' → OwnR w' base E K u nu us → ApartV (.slice (some ⟨g', 0, none⟩) (n + m) cap') u → (∀ g2 T m2 f, T ≠ E → RowF w g2 T m2 f → RowF w' g2 T m2 f) → wpList P ops Q rest (a.put o.dst (.slice (some ⟨g', 0, none⟩) (n + m) cap')) w') (hm : 1 ≤ m) : wpList P ops Q (o :: rest) a w := by
  subst hxs
  obtain ⟨i0, hi0, hz0, hz1, hz2⟩ := info_parts hinfo
  have hbb : (n + m) * bytes ≤ 1048576 * 1024 := Nat.mul_le_mul hn hby
  have hnews : ∀ j v, (ys.map (Value.int .i64))[j]? = some v → w.cell? ((⟨g, 0, none⟩ : Addr).add j) = some v := by
    intro j u hj
    have hjl : j < ys.length := by
      have := (List.getElem?_eq_some_iff.1 hj).1
      simpa using this
    rw [List.getElem?_map, List.getElem?_eq_getElem hjl] at hj
    simp at hj
    subst hj
    rw [Go.WideShapes.add_plain, Nat.zero_add, hg j (by rw [← hy]; exact hjl), nth_get ys j hjl]
  have hone : ∀ v ∈ ys.map (Value.int .i64), v.oneCell' = true := by
    intro u hu
    obtain ⟨z, _, rfl⟩ := List.mem_map.1 hu
    rfl
  have fin : ∀ g' cap' w', w'.ownsRow base E K (.slice (some ⟨g', 0, none⟩) (n + m) cap') (n + m) (xs.map (Value.int .i64) ++ ys.map (Value.int .i64)) → w.grownBy w' v.ownBlock → (v.ownBlock = some g' ∨ w.heap.size ≤ g') → wpList P ops Q rest (a.put o.dst (.slice (some ⟨g', 0, none⟩) (n + m) cap')) w' := by
    intro g' cap' w' ho' hgr hwhere
    refine h g' cap' w' ⟨by rw [List.map_append]; exact ho', by rw [List.length_append, hown.2, hy, Nat.add_mul]⟩ (hb.grown hgr (by omega) (fun k hk => by have := hown.ownLt k hk; omega)) (hu.other hgr (fun k hk e => hap k e hk)) ?_ (fun g2 T m2 f hT hr => hr.of_block (grown_block hgr g2 hr.lt (fun e => hT (hown.typeOf g2 e.symm hr))))
    intro k hk hk2
    simp [Value.ownBlock] at hk
    subst hk
    rcases hwhere with e | e
    · exact hap _ e hk2
    · have := hu.blockLt _ hk2
      omega
  by_cases hfit : ∃ g0 cap0, v = .slice (some ⟨g0, 0, none⟩) n cap0 ∧ n + m ≤ cap0
  · obtain ⟨g0, cap0, rfl, hfit⟩ := hfit
    refine wpList_append_fits w hgd s x t ho base E i0 K ht hi0 hz1 g0 n cap0 _ hs hown.1 ⟨g, 0, none⟩ m c _ hx (by simpa using hy) hnews hone hfit ?_
    intro w' ho' hgr
    exact fin g0 cap0 w' ho' hgr (.inl rfl)
  · obtain ⟨A0, cap0, rfl, hnc⟩ := hown.slice
    have hA : A0 = none → n = 0 ∧ cap0 = 0 := by
      intro e
      subst e
      rcases hown.form with ⟨e, e2, _⟩ | ⟨g0, c0, e, _⟩
      · simp at e
        exact ⟨e2, e.2⟩
      · simp at e
    have hrec := hown.recs
    have hfull : cap0 < n + m := by
      rcases hown.form with ⟨e, e2, _⟩ | ⟨g0, c0, e, _⟩
      · simp at e
        omega
      · simp at e
        obtain ⟨rfl, rfl⟩ := e
        have : ¬ n + m ≤ cap0 := fun hh => hfit ⟨g0, cap0, rfl, hh⟩
        omega
    refine wpList_append_grows w hgd s x t ho E i0 (.agg zc) K bytes ht hi0 hz0 hz1 hz2 (by simpa [Value.cells] using hzc) hK A0 n cap0 (xs.map (Value.int .i64)) hs hA (by simpa using hown.2) ?_ ⟨g, 0, none⟩ m c _ hx (by simpa using hy) hnews hone hfull (by unfold maxLen; omega) (by omega) ?_
    · intro b hb' j v hj
      subst hb'
      have hjl : j < xs.length := by
        have := (List.getElem?_eq_some_iff.1 hj).1
        simpa using this
      rw [List.getElem?_map, List.getElem?_eq_getElem hjl] at hj
      simp at hj
      subst hj
      have hn0 : 0 < n := by
        rcases Nat.eq_zero_or_pos n with e | e
        · rw [hown.2, e, Nat.zero_mul] at hjl; omega
        · exact e
      obtain ⟨b', off, e, _, hcc⟩ := hrec.2 hn0
      simp at e
      subst e
      rw [Go.WideShapes.add_plain, hcc j (by rw [← hown.2]; exact hjl), nth_get xs j hjl]
    · intro v' w' ho' hgr
      have hgr' : w.grownBy w' (Value.slice A0 n cap0).ownBlock := by
        obtain ⟨a1, a2, a3, a4, a5⟩ := hgr
        exact ⟨a1, a2, a3, a4, fun k hk _ => a5 k hk (by simp)⟩
      rcases ho'.2 with ⟨_, h2⟩ | ⟨g', cap', cur, rfl, hg', hr⟩
      · omega
      · refine fin g' cap' w' ⟨ho'.1, .inr ⟨g', cap', cur, rfl, by omega, hr⟩⟩ hgr' (.inr hg')
end Go.Proofs.Ytdjhiegolojoaaa
