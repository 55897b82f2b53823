/-
  Words for slices of records: structs that hold nothing but ints, flattened. No Go function is spoken of here.
-/
import Derived.Test.YtdjhiegolojoaaaBase
import Derived.Deep.Slices
import Derived.Deep.Draws
namespace Go.Proofs.Ytdjhiegolojoaaa
open Go.ChangeShapes Go.WideShapes Go.ChangeAt Go.RowKit

/-- A type whose values are K ints in a row. -/
def Flat (P : Program) (t : TypeId) (K : Nat) : Prop :=
  P.cellsOf t = K ∧ ∀ (H : Type) (enc : TypeId × Value → H) (w : World) (base : Nat) (spare : Nat → Bool) (held : Bool) (fuel : Nat) (cs : List Value) (x : DataW H × List MemPlace),
    DataW.trod enc P w base spare held fuel t cs = some x → ∃ zs : List Int, zs.length = K ∧ cs = zs.map (Value.int .i64) ∧ ∀ z ∈ zs, -9223372036854775808 ≤ z ∧ z ≤ 9223372036854775807

theorem flat_int {P : Program} {t : TypeId} (ht : P.underlying t = some (.int .i64)) (hc : P.cellsOf t = 1) : Flat P t 1 := by
  refine ⟨hc, fun H enc w base spare held fuel cs x h => ?_⟩
  obtain ⟨n, rfl, _, hw⟩ := DataW.trod_int ht h
  exact ⟨[n], rfl, rfl, fun z hz => by simp at hz; subst hz; exact i64_bounds hw⟩

theorem flat_struct2 {P : Program} {t : TypeId} {f0 f1 : Field} {k0 k1 : Nat} (ht : P.underlying t = some (.struct #[f0, f1])) (h0 : Flat P f0.type k0) (h1 : Flat P f1.type k1)
    (o0 : f0.offset = 0) (o1 : f1.offset = k0) (hc : P.cellsOf t = k0 + k1) : Flat P t (k0 + k1) := by
  refine ⟨hc, fun H enc w base spare held fuel cs x h => ?_⟩
  obtain ⟨xs, n, _, _, hl, hxl, hf⟩ := DataW.trod_struct ht h
  have g0 := hf 0 f0 rfl
  have g1 := hf 1 f1 rfl
  have hx : xs.length = 2 := hxl
  rw [List.getElem?_eq_getElem (by omega), o0, h0.1] at g0
  rw [List.getElem?_eq_getElem (by omega), o1, h1.1] at g1
  obtain ⟨z0, l0, e0, b0⟩ := h0.2 H enc w base spare held n _ _ g0
  obtain ⟨z1, l1, e1, b1⟩ := h1.2 H enc w base spare held n _ _ g1
  rw [hc] at hl
  have e1' : cs.drop k0 = z1.map (Value.int .i64) := by
    rw [← e1, List.take_of_length_le (by simp; omega)]
  refine ⟨z0 ++ z1, by simp [l0, l1], ?_, fun z hz => ?_⟩
  · rw [List.map_append, ← e0, ← e1', List.drop_zero, List.take_append_drop]
  · rcases List.mem_append.1 hz with hz | hz
    · exact b0 z hz
    · exact b1 z hz

theorem flat_ints {P : Program} {t i : TypeId} {fs : Array Field} {K : Nat} (ht : P.underlying t = some (.struct fs)) (hi : P.underlying i = some (.int .i64)) (hci : P.cellsOf i = 1)
    (hfs : ∀ j, j < K → ∃ f, fs[j]? = some f ∧ f.type = i ∧ f.offset = j) (hK : fs.size = K) (hc : P.cellsOf t = K) : Flat P t K := by
  refine ⟨hc, fun H enc w base spare held fuel cs x h => ?_⟩
  obtain ⟨xs, n, _, _, hl, hxl, hf⟩ := DataW.trod_struct ht h
  rw [hc] at hl
  have each : ∀ j, j < K → ∃ z : Int, cs[j]? = some (.int .i64 z) ∧ -9223372036854775808 ≤ z ∧ z ≤ 9223372036854775807 := by
    intro j hj
    obtain ⟨f, hfj, hft, hfo⟩ := hfs j hj
    have g := hf j f hfj
    rw [List.getElem?_eq_getElem (by omega), hft, hfo, hci] at g
    obtain ⟨z, e, _, hw⟩ := DataW.trod_int hi g
    refine ⟨z, ?_, i64_bounds hw⟩
    have h1 : ((cs.drop j).take 1)[0]? = some (Value.int .i64 z) := by rw [e]; rfl
    simpa using h1
  let g : Value → Int := fun v => match v with | .int _ z => z | _ => 0
  refine ⟨cs.map g, by simpa using hl, ?_, fun z hz => ?_⟩
  · refine List.ext_getElem (by simp) (fun j h1 h2 => ?_)
    obtain ⟨z, e, _⟩ := each j (by omega)
    have e' : cs[j] = .int .i64 z := by
      have := List.getElem?_eq_getElem h1
      rw [e] at this
      exact (Option.some.inj this).symm
    simp [e', g]
  · obtain ⟨v, hv, rfl⟩ := List.mem_map.1 hz
    obtain ⟨j, hj, rfl⟩ := List.getElem_of_mem hv
    obtain ⟨z, e, hb⟩ := each j (by omega)
    have e' : cs[j] = .int .i64 z := by
      have := List.getElem?_eq_getElem hj
      rw [e] at this
      exact (Option.some.inj this).symm
    rw [e']
    exact hb

/-- Slice value '.slice A n c' holds n records of K ints, flattened to zs, in a block below B. -/
def RecsAt (w : World) (B K : Nat) (A : Option Addr) (n : Nat) (zs : List Int) : Prop :=
  zs.length = n * K ∧ (0 < n → ∃ b off, A = some ⟨b, off, none⟩ ∧ b < B ∧ ∀ i, i < n * K → w.cell? ⟨b, off + i, none⟩ = some (.int .i64 (nth zs i)))

section
variable {w w' : World} {B B' K n : Nat} {A : Option Addr} {zs : List Int}
theorem RecsAt.keep (h : RecsAt w B K A n zs) (hk : ∀ p : Addr, p.block < B → w'.cell? p = w.cell? p) : RecsAt w' B K A n zs :=
  ⟨h.1, fun hn => by
    obtain ⟨b, off, e, hb, hc⟩ := h.2 hn
    exact ⟨b, off, e, hb, fun k hk' => (hk ⟨b, off + k, none⟩ hb).trans (hc k hk')⟩⟩
theorem RecsAt.mono (h : RecsAt w B K A n zs) (hB : B ≤ B') : RecsAt w B' K A n zs :=
  ⟨h.1, fun hn => by
    obtain ⟨b, off, e, hb, hc⟩ := h.2 hn
    exact ⟨b, off, e, by omega, hc⟩⟩
theorem RecsAt.below (h : RecsAt w B K A n zs) (hb : Below B w w') : RecsAt w' B K A n zs := h.keep fun _ hp => hb.cell hp
theorem RecsAt.after (h : RecsAt w w.heap.size K A n zs) (hb : Below w.heap.size w w') : RecsAt w' w'.heap.size K A n zs := (h.below hb).mono hb.size
theorem RecsAt.alloc (h : RecsAt w B K A n zs) (hB : B ≤ w.heap.size) (o : Obj) : RecsAt (w.alloc o) B K A n zs := h.keep fun p hp => World.cell?_alloc_lt w o p (by omega)
theorem RecsAt.drewN (h : RecsAt w B K A n zs) (k : Nat) : RecsAt (w.drewN k) B K A n zs := h
theorem RecsAt.nil : RecsAt w B K A 0 [] := ⟨by simp, fun h => absurd h (by omega)⟩
theorem recsAt_row {g : Nat} {t : TypeId} {f : Nat → Value} (h : w.rowIs g t (n * K) f) (hz : zs.length = n * K) (hf : ∀ k, k < n * K → f k = .int .i64 (nth zs k)) : RecsAt w w.heap.size K (some ⟨g, 0, none⟩) n zs :=
  ⟨hz, fun _ => ⟨g, 0, rfl, h.lt, fun k hk => by rw [Nat.zero_add, h.cell hk, hf k hk]⟩⟩
end

/-- One cell that holds a slice of records. -/
theorem open_recs_cell {H : Type} {enc : TypeId × Value → H} {P : Program} {W : World} {t e : TypeId} {K fuel : Nat} {v : Value} {x : DataW H × List MemPlace} (ht : P.underlying t = some (.slice e)) (hfl : Flat P e K) (hK : 0 < K)
    (h : DataW.trod enc P W 0 (fun _ => true) true fuel t [v] = some x) (hlt : ∀ p ∈ x.2, p.block < W.heap.size) :
    ∃ (A : Option Addr) (n c : Nat) (zs : List Int), v = .slice A n c ∧ RecsAt W W.heap.size K A n zs ∧ n ≤ c ∧ c ≤ maxLen ∧ ∀ i, -9223372036854775808 ≤ nth zs i ∧ nth zs i ≤ 9223372036854775807 := by
  rcases Deep.open_slice ht h with ⟨h0, _⟩ | ⟨a, len, cap, m, n, D, Pl, hcs, _, hl, hm, hmm, hx, hi⟩
  · simp at h0
    subst h0
    exact ⟨none, 0, 0, [], rfl, RecsAt.nil, Nat.le_refl _, by simp [maxLen], fun i => by simp [nth]⟩
  · simp at hcs
    subst hcs
    simp only [if_true] at hmm
    subst hmm
    have each : ∀ i, i < len * K → ∃ z : Int, W.cell? (a.add i) = some (.int .i64 z) ∧ -9223372036854775808 ≤ z ∧ z ≤ 9223372036854775807 := by
      intro i hil
      have hq : i / K < len := Nat.div_lt_of_lt_mul (by rw [Nat.mul_comm]; exact hil)
      have hr : i % K < K := Nat.mod_lt _ hK
      obtain ⟨cs', hc, ht'⟩ := hi (i / K) (by omega)
      rw [hfl.1] at hc
      obtain ⟨_, hcl, hat⟩ := World.cells?_some hc
      obtain ⟨zs, hzl, hze, hzb⟩ := hfl.2 H enc W 0 _ _ _ _ _ ht'
      have hcell := hat (i % K) hr
      rw [Deep.add_add, Nat.div_add_mod' i K, hze, List.getElem?_map, List.getElem?_eq_getElem (by omega)] at hcell
      exact ⟨_, hcell, hzb _ (List.getElem_mem (by omega))⟩
    let f : Nat → Int := fun i => match W.cell? (a.add i) with | some (.int _ z) => z | _ => 0
    have hf : ∀ i, i < len * K → W.cell? (a.add i) = some (.int .i64 (f i)) := by
      intro i hil
      obtain ⟨z, hz, _⟩ := each i hil
      simp only [f, hz]
    have hn : ∀ i, i < len * K → nth ((List.range (len * K)).map f) i = f i := by
      intro i hil
      rw [nth_get _ _ (by simpa using hil)]
      simp
    refine ⟨some a, len, m, (List.range (len * K)).map f, rfl, ⟨by simp, fun hlen => ?_⟩, hl, hm, fun i => ?_⟩
    · have h0 : 0 < len * K := Nat.mul_pos hlen hK
      obtain ⟨b, off, spot⟩ := a
      have hspot : spot = none := by simpa [Addr.add] using World.cell?_spot (hf 0 h0)
      subst hspot
      refine ⟨b, off, rfl, ?_, fun i hil => ?_⟩
      · have hp : MemPlace.cell b off ∈ x.2 := by
          rw [hx]
          simp only [List.mem_append]
          left
          have : 0 < m * P.cellsOf e := by rw [hfl.1]; exact Nat.mul_pos (by omega) hK
          simp [MemPlace.row]
          omega
        exact hlt _ hp
      · rw [hn i hil, ← Go.WideShapes.add_plain]
        exact hf i hil
    · by_cases hil : i < len * K
      · obtain ⟨z, hz, hb⟩ := each i hil
        rw [hn i hil]
        simp only [f, hz]
        exact hb
      · rw [nth, List.getD, List.getElem?_eq_none (by simp; omega)]
        simp

/-- An argument that is a slice of records. -/
theorem open_recs_arg {H : Type} {enc : TypeId × Value → H} {P : Program} {W : World} {base : Nat} {t e : TypeId} {K : Nat} {v : Value} {d : DataW H} {p : List MemPlace} (ht : P.underlying t = some (.slice e)) (hfl : Flat P e K) (hK : 0 < K)
    (hv : Value.okWide P W .any base t v) (h : DataW.Trod enc P W 0 (fun _ => true) true t v d p) (hlt : ∀ x ∈ p, x.block < W.heap.size) :
    ∃ (A : Option Addr) (n c : Nat) (zs : List Int), v = .slice A n c ∧ RecsAt W W.heap.size K A n zs ∧ n ≤ c ∧ c ≤ maxLen ∧ ∀ i, -9223372036854775808 ≤ nth zs i ∧ nth zs i ≤ 9223372036854775807 := by
  obtain ⟨A, n, c, rfl⟩ := okWide_slice ht hv
  obtain ⟨fuel, hf⟩ := h
  exact open_recs_cell ht hfl hK (x := (d, p)) hf hlt

/-- An argument that is one record. -/
theorem open_rec_arg {H : Type} {enc : TypeId × Value → H} {P : Program} {W : World} {base base' : Nat} {r : Reach} {spare : Nat → Bool} {held : Bool} {t : TypeId} {fs : Array Field} {K : Nat} {v : Value} {d : DataW H} {p : List MemPlace} (ht : P.underlying t = some (.struct fs)) (hfl : Flat P t K)
    (hv : Value.okWide P W r base t v) (h : DataW.Trod enc P W base' spare held t v d p) :
    ∃ zs : List Int, zs.length = K ∧ v = .agg (zs.map (Value.int .i64)).toArray ∧ ∀ z ∈ zs, -9223372036854775808 ≤ z ∧ z ≤ 9223372036854775807 := by
  obtain ⟨cs, rfl, _⟩ := okWide_struct ht hv
  obtain ⟨fuel, hf⟩ := h
  obtain ⟨zs, hl, he, hb⟩ := hfl.2 H enc W _ _ _ _ _ _ hf
  refine ⟨zs, hl, ?_, hb⟩
  rw [← he]
  simp [Value.cells]

end Go.Proofs.Ytdjhiegolojoaaa
