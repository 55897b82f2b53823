/-
  Words: only one block has turned; a row of ints. No Go function is spoken of here.
-/
import Derived.Test.YtdjhiegolojoaaaRec
import Derived.Test.YtdjhiegolojoaaaOwn
namespace Go.Proofs.Ytdjhiegolojoaaa
open Go.RowKit

/-- Of all memory only block g may have turned. -/
structure Only (g : Nat) (w w' : World) : Prop where
  os : w'.os = w.os
  tape : w'.tape = w.tape
  output : w'.output = w.output
  size : w'.heap.size = w.heap.size
  block : ∀ k, k ≠ g → w'.heap[k]? = w.heap[k]?

section
variable {g : Nat} {w w' w'' : World}
theorem Only.refl (g : Nat) (w : World) : Only g w w := ⟨rfl, rfl, rfl, rfl, fun _ _ => rfl⟩
theorem Only.trans (h : Only g w w') (h' : Only g w' w'') : Only g w w'' := ⟨h'.os.trans h.os, h'.tape.trans h.tape, h'.output.trans h.output, h'.size.trans h.size, fun k hk => (h'.block k hk).trans (h.block k hk)⟩
theorem Only.setCell (h : Only g w w') (i : Nat) (u : Value) : Only g w (w'.setCell ⟨g, i, none⟩ u) :=
  h.trans ⟨rfl, rfl, rfl, by simp [World.setCell], fun k hk => Below.heap_setCell w' ⟨g, i, none⟩ u k hk⟩
theorem Only.below {B : Nat} (h : Only g w w') (hB : B ≤ g) : Below B w w' := ⟨h.os, h.tape, h.output, by rw [h.size]; exact Nat.le_refl _, fun k hk => h.block k (by omega)⟩
theorem Only.cell (h : Only g w w') {p : Addr} (hp : p.block ≠ g) : w'.cell? p = w.cell? p := World.cell?_of_block (w := w) (h.block _ hp)
theorem Only.ints {B n : Nat} {A : Option Addr} {zs : List Int} (h : Only g w w') (hi : IntsAt w B A n zs) (hA : ∀ b off, A = some ⟨b, off, none⟩ → b ≠ g) : IntsAt w' B A n zs :=
  ⟨hi.1, fun hn => by
    obtain ⟨b, off, e, hb, hc⟩ := hi.2 hn
    exact ⟨b, off, e, hb, fun k hk => (h.cell (p := ⟨b, off + k, none⟩) (hA b off e)).trans (hc k hk)⟩⟩
theorem Only.recs {B n K : Nat} {A : Option Addr} {zs : List Int} (h : Only g w w') (hi : RecsAt w B K A n zs) (hA : ∀ b off, A = some ⟨b, off, none⟩ → b ≠ g) : RecsAt w' B K A n zs :=
  ⟨hi.1, fun hn => by
    obtain ⟨b, off, e, hb, hc⟩ := hi.2 hn
    exact ⟨b, off, e, hb, fun k hk => (h.cell (p := ⟨b, off + k, none⟩) (hA b off e)).trans (hc k hk)⟩⟩
theorem Only.row {g' : Nat} {t : TypeId} {n : Nat} {f : Nat → Value} (h : Only g w w') (hr : w.rowIs g' t n f) (hne : g' ≠ g) : w'.rowIs g' t n f := hr.of_block (h.block g' hne)
theorem Only.own {base : Nat} {E : TypeId} {v : Value} {xs : List Int} (h : Only g w w') (ho : OwnV w base E v xs) (hne : v.ownBlock ≠ some g) : OwnV w' base E v xs := by
  rcases ho.form with ⟨rfl, rfl⟩ | ⟨g', cap, rfl, hi⟩
  · exact OwnV.nil _ _ _
  · refine ⟨hi.1, ?_⟩
    rcases hi.2 with h2 | ⟨g'', cap', cur, h1, h2, h3, hr⟩
    · exact .inl h2
    · simp at h1
      obtain ⟨rfl, rfl⟩ := h1
      exact .inr ⟨g', cap, cur, rfl, h2, (h.block g' (fun e => hne (by simp [Value.ownBlock, e]))).trans h3, hr⟩
theorem below_row {B : Nat} {g' : Nat} {t : TypeId} {n : Nat} {f : Nat → Value} (h : Below B w w') (hr : w.rowIs g' t n f) (hg : g' < B) : w'.rowIs g' t n f := hr.of_block (h.block g' hg)
end

/-- The numbers of a list, as cells. -/
def ints (zs : List Int) (j : Nat) : Value := .int .i64 (nth zs j)
theorem ints_def (zs : List Int) (j : Nat) : ints zs j = .int .i64 (nth zs j) := rfl
/-- The first k numbers, then noughts. -/
def fill (zs : List Int) (k j : Nat) : Value := .int .i64 (if j < k then nth zs j else 0)
theorem fill_0 (zs : List Int) (j : Nat) : fill zs 0 j = .int .i64 0 := by simp [fill]
theorem fill_at (zs : List Int) {k j : Nat} (h : k ≤ j) : fill zs k j = .int .i64 0 := by simp [fill]; omega
theorem fill_end (zs : List Int) {k j : Nat} (h : j < k) : fill zs k j = ints zs j := by simp [fill, ints, h]
theorem fill_step2 (zs : List Int) (i j : Nat) : (if j = i + 1 then Value.int .i64 (nth zs (i + 1)) else if j = i then Value.int .i64 (nth zs i) else fill zs i j) = fill zs (i + 2) j := by
  unfold fill
  by_cases h1 : j = i + 1
  · subst h1; simp
  · by_cases h0 : j = i
    · subst h0; simp
    · by_cases h : j < i
      · simp [h1, h0, h, show j < i + 2 by omega]
      · simp [h1, h0, h, show ¬ j < i + 2 by omega]
theorem fill_step3 (zs : List Int) (i j : Nat) : (if j = i + 2 then Value.int .i64 (nth zs (i + 2)) else if j = i + 1 then Value.int .i64 (nth zs (i + 1)) else if j = i then Value.int .i64 (nth zs i) else fill zs i j) = fill zs (i + 3) j := by
  unfold fill
  by_cases h2 : j = i + 2
  · subst h2; simp
  · by_cases h1 : j = i + 1
    · subst h1; simp
    · by_cases h0 : j = i
      · subst h0; simp
      · by_cases h : j < i
        · simp [h2, h1, h0, h, show j < i + 3 by omega]
        · simp [h2, h1, h0, h, show ¬ j < i + 3 by omega]
theorem fill_step4 (zs : List Int) (i j : Nat) : (if j = i + 3 then Value.int .i64 (nth zs (i + 3)) else if j = i + 2 then Value.int .i64 (nth zs (i + 2)) else if j = i + 1 then Value.int .i64 (nth zs (i + 1)) else if j = i then Value.int .i64 (nth zs i) else fill zs i j) = fill zs (i + 4) j := by
  unfold fill
  by_cases h3 : j = i + 3
  · subst h3; simp
  · by_cases h2 : j = i + 2
    · subst h2; simp
    · by_cases h1 : j = i + 1
      · subst h1; simp
      · by_cases h0 : j = i
        · subst h0; simp
        · by_cases h : j < i
          · simp [h3, h2, h1, h0, h, show j < i + 4 by omega]
          · simp [h3, h2, h1, h0, h, show ¬ j < i + 4 by omega]

/-- k0, k0 + 1, .. up to place m; f behind it. -/
def marks (f : Nat → Value) (k0 : Int) (m j : Nat) : Value := if j < m then .int .i64 (k0 + j) else f j
theorem marks_0 (f : Nat → Value) (k0 : Int) (j : Nat) : marks f k0 0 j = f j := by simp [marks]
theorem marks_step (f : Nat → Value) (k0 : Int) (m j : Nat) : (if j = m then Value.int .i64 (k0 + (m : Int)) else marks f k0 m j) = marks f k0 (m + 1) j := by
  unfold marks
  by_cases h : j = m
  · subst h; simp
  · by_cases h' : j < m
    · simp [h, h', show j < m + 1 by omega]
    · simp [h, h', show ¬ j < m + 1 by omega]
theorem marks_end (f : Nat → Value) (k0 : Int) {m j : Nat} (h : j < m) : marks f k0 m j = .int .i64 (k0 + j) := by simp [marks, h]
/-- A row all of whose cells hold ints. -/
def IntRow (f : Nat → Value) : Prop := ∀ j, ∃ z : Int, f j = .int .i64 z
theorem intRow_ints (zs : List Int) : IntRow (ints zs) := fun _ => ⟨_, rfl⟩

theorem run_make_recs {P : Program} (t E : TypeId) (K bytes : Nat) (zc : Array Value) (ht : P.underlying t = some (.slice E)) (hinfo : (P.info? E).map (fun i => (i.zero, i.size, i.bytes)) = some (some (.agg zc), K, bytes)) (n : Nat) (hb : bytes * n ≤ 281474976710656) (hn : n ≤ 1048576) (w : World) :
    (Instr.makeSlice t (.int .i64 (n : Int)) (.int .i64 (n : Int))).run P w = .ok (.slice (some ⟨w.heap.size, 0, none⟩) n n) (w.alloc (.cells (madeCells zc (n * K)) E)) := by
  obtain ⟨i0, hi0, hz0, hz1, hz2⟩ := info_parts hinfo
  have hb' : (i0.bytes : Int) * (n : Int) ≤ 281474976710656 := by
    have h : ((i0.bytes * n : Nat) : Int) ≤ 281474976710656 := by rw [hz2]; omega
    rwa [Int.natCast_mul] at h
  have h := run_make (P := P) w t E i0 (.agg zc) ht hi0 hz0 .i64 .i64 (n : Int) (n : Int) (by omega) (by omega) hb' (by omega)
  simpa [hz1, Value.cells] using h
theorem rowIs_made0 (w : World) (zc : Array Value) (E : TypeId) (m : Nat) (hz : ∀ j, j < zc.size → zc[j]? = some (.int .i64 0)) (h0 : 0 < zc.size) (zs : List Int) : (w.alloc (.cells (madeCells zc m) E)).rowIs w.heap.size E m (fill zs 0) := by
  have hr := World.rowIs_alloc w (madeCells zc m) E (fill zs 0) (fun j hj => by
    have hj' : j < m := by simpa [size_madeCells] using hj
    have hm : j % zc.size < zc.size := Nat.mod_lt _ h0
    have hzz := hz _ hm
    rw [fill_0]
    have e : zc[j % zc.size]! = .int .i64 0 := by
      rw [getElem!_def, hzz]
    simp [madeCells, hj', e])
  simpa [size_madeCells] using hr
end Go.Proofs.Ytdjhiegolojoaaa
