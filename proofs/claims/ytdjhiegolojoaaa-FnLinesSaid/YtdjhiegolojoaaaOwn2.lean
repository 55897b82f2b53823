/-
  Words: an append onto one of two slices of the call's own, whatever the elements' zero value. No Go function is spoken of here.
-/
import Derived.Test.YtdjhiegolojoaaaOwnR
namespace Go.Proofs.Ytdjhiegolojoaaa
open Go.RowKit
/-- 'low = append(low, record)' while another slice of the call's own stays as it is. -/
theorem wpList_appZ2 {P : Program} (w : World) {ops : Array Oper} {rest : List Oper} {o : Oper} {a : Act} {Q : Exit → Act → World → Prop} (hgd : o.guard = none) (s x : Operand) (t : TypeId)
    (ho : o.op = .call { callee := .builtin .append, args := #[s, x], argTypes := #[t, t] })
    (base : Nat) (E : TypeId) (K bytes : Nat) (zv : Value) (ht : P.underlying t = some (.slice E)) (hinfo : (P.info? E).map (fun i => (i.zero, i.size, i.bytes)) = some (some zv, K, bytes)) (hzc : zv.cells.size = K) (hK : 0 < K) (hby : bytes ≤ 1024)
    (v : Value) (n : Nat) (xs : List Int) (hs : a.eval s = v) (hown : OwnR w base E K v n xs) (g m c : Nat) (ys : List Int) (hx : a.eval x = .slice (some ⟨g, 0, none⟩) m c) (hy : ys.length = m * K)
    (hg : ∀ i, i < m * K → w.cell? ⟨g, i, none⟩ = some (.int .i64 (nth ys i))) (hn : n + m ≤ 1048576) (B : Nat) (w0 : World) (hb : Below B w0 w) (hB : B ≤ base) (hbase : base ≤ w.heap.size) (xs' : List Int) (hxs : xs ++ ys = xs')
    (u : Value) (nu : Nat) (us : List Int) (hu : OwnR w base E K u nu us) (hap : ApartV v u)
    (h : ∀ g' cap' w', OwnR w' base E K (.slice (some ⟨g', 0, none⟩) (n + m) cap') (n + m) xs' → Below B w0 w' → OwnR w' base E K u nu us → ApartV (.slice (some ⟨g', 0, none⟩) (n + m) cap') u → (∀ g2 T m2 f, T ≠ E → RowF w g2 T m2 f → RowF w' g2 T m2 f) → wpList P ops Q rest (a.put o.dst (.slice (some ⟨g', 0, none⟩) (n + m) cap')) w') (hm : 1 ≤ m) : wpList P ops Q (o :: rest) a w := by
  subst hxs
  obtain ⟨i0, hi0, hz0, hz1, hz2⟩ := info_parts hinfo
  have hbb : (n + m) * bytes ≤ 1048576 * 1024 := Nat.mul_le_mul hn hby
  have hnews : ∀ j v, (ys.map (Value.int .i64))[j]? = some v → w.cell? ((⟨g, 0, none⟩ : Addr).add j) = some v := by
    intro j u hj
    have hjl : j < ys.length := by
      have := (List.getElem?_eq_some_iff.1 hj).1
      simpa using this
    rw [List.getElem?_map, List.getElem?_eq_getElem hjl] at hj
    simp at hj
    subst hj
    rw [Go.WideShapes.add_plain, Nat.zero_add, hg j (by rw [← hy]; exact hjl), nth_get ys j hjl]
  have hone : ∀ v ∈ ys.map (Value.int .i64), v.oneCell' = true := by
    intro u hu
    obtain ⟨z, _, rfl⟩ := List.mem_map.1 hu
    rfl
  have fin : ∀ g' cap' w', w'.ownsRow base E K (.slice (some ⟨g', 0, none⟩) (n + m) cap') (n + m) (xs.map (Value.int .i64) ++ ys.map (Value.int .i64)) → w.grownBy w' v.ownBlock → (v.ownBlock = some g' ∨ w.heap.size ≤ g') → wpList P ops Q rest (a.put o.dst (.slice (some ⟨g', 0, none⟩) (n + m) cap')) w' := by
    intro g' cap' w' ho' hgr hwhere
    refine h g' cap' w' ⟨by rw [List.map_append]; exact ho', by rw [List.length_append, hown.2, hy, Nat.add_mul]⟩ (hb.grown hgr (by omega) (fun k hk => by have := hown.ownLt k hk; omega)) (hu.other hgr (fun k hk e => hap k e hk)) ?_ (fun g2 T m2 f hT hr => hr.of_block (grown_block hgr g2 hr.lt (fun e => hT (hown.typeOf g2 e.symm hr))))
    intro k hk hk2
    simp [Value.ownBlock] at hk
    subst hk
    rcases hwhere with e | e
    · exact hap _ e hk2
    · have := hu.blockLt _ hk2
      omega
  by_cases hfit : ∃ g0 cap0, v = .slice (some ⟨g0, 0, none⟩) n cap0 ∧ n + m ≤ cap0
  · obtain ⟨g0, cap0, rfl, hfit⟩ := hfit
    refine wpList_append_fits w hgd s x t ho base E i0 K ht hi0 hz1 g0 n cap0 _ hs hown.1 ⟨g, 0, none⟩ m c _ hx (by simpa using hy) hnews hone hfit ?_
    intro w' ho' hgr
    exact fin g0 cap0 w' ho' hgr (.inl rfl)
  · obtain ⟨A0, cap0, rfl, hnc⟩ := hown.slice
    have hA : A0 = none → n = 0 ∧ cap0 = 0 := by
      intro e
      subst e
      rcases hown.form with ⟨e, e2, _⟩ | ⟨g0, c0, e, _⟩
      · simp at e
        exact ⟨e2, e.2⟩
      · simp at e
    have hrec := hown.recs
    have hfull : cap0 < n + m := by
      rcases hown.form with ⟨e, e2, _⟩ | ⟨g0, c0, e, _⟩
      · simp at e
        omega
      · simp at e
        obtain ⟨rfl, rfl⟩ := e
        have : ¬ n + m ≤ cap0 := fun hh => hfit ⟨g0, cap0, rfl, hh⟩
        omega
    refine wpList_append_grows w hgd s x t ho E i0 zv K bytes ht hi0 hz0 hz1 hz2 hzc hK A0 n cap0 (xs.map (Value.int .i64)) hs hA (by simpa using hown.2) ?_ ⟨g, 0, none⟩ m c _ hx (by simpa using hy) hnews hone hfull (by unfold maxLen; omega) (by omega) ?_
    · intro b hb' j v hj
      subst hb'
      have hjl : j < xs.length := by
        have := (List.getElem?_eq_some_iff.1 hj).1
        simpa using this
      rw [List.getElem?_map, List.getElem?_eq_getElem hjl] at hj
      simp at hj
      subst hj
      have hn0 : 0 < n := by
        rcases Nat.eq_zero_or_pos n with e | e
        · rw [hown.2, e, Nat.zero_mul] at hjl; omega
        · exact e
      obtain ⟨b', off, e, _, hcc⟩ := hrec.2 hn0
      simp at e
      subst e
      rw [Go.WideShapes.add_plain, hcc j (by rw [← hown.2]; exact hjl), nth_get xs j hjl]
    · intro v' w' ho' hgr
      have hgr' : w.grownBy w' (Value.slice A0 n cap0).ownBlock := by
        obtain ⟨a1, a2, a3, a4, a5⟩ := hgr
        exact ⟨a1, a2, a3, a4, fun k hk _ => a5 k hk (by simp)⟩
      rcases ho'.2 with ⟨_, h2⟩ | ⟨g', cap', cur, rfl, hg', hr⟩
      · omega
      · refine fin g' cap' w' ⟨ho'.1, .inr ⟨g', cap', cur, rfl, by omega, hr⟩⟩ hgr' (.inr hg')
end Go.Proofs.Ytdjhiegolojoaaa
