/-
  Contracts: the draw of a valid arch.
-/
import Derived.Test.YtplabaneihjcoaaWShape
import Derived.Test.YtplabaneihjcoaaWArchCopy
import Derived.BigRegion
import Derived.Deep.DeepCutAuto
namespace Go.Proofs.Ytplabaneihjcoaa
open Go.RowKit
set_option linter.unusedSimpArgs false
set_option linter.unusedVariables false

/-- What the draw of an arch knows at the loop's head: the result's cell, the arch in hand (in block X, its joints in block b), the cursor. -/
structure ArSt (w wr : World) (g : Nat) (A : Option Addr) (n c : Nat) (zs : List Int) (X b m d : Nat) (Z : List Int) : Prop where
  res : RowF wr w.heap.size 48 1 (fun _ => .slice none 0 0)
  box : RowF wr X 48 1 (fun _ => .slice (some ⟨b, 0, none⟩) m d)
  row : RowF wr b 105 (m * 4) (ints Z)
  ok : Z.length = m * 4 ∧ archB Z m = true ∧ m ≤ d
  far : g < w.heap.size ∧ w.heap.size < X ∧ w.heap.size < b
  cur : CurAt wr g A n c
  code : BytesAt wr g A n zs
  below : Below g w wr
section
variable {w wr w' : World} {g : Nat} {A : Option Addr} {n c : Nat} {zs : List Int} {X b m d : Nat} {Z : List Int}
theorem ArSt.only (h : ArSt w wr g A n c zs X b m d Z) (ho : Only g wr w') (hc : CurAt w' g A n c) : ArSt w w' g A n c zs X b m d Z :=
  ⟨h.res.only ho (by have := h.far; omega), h.box.only ho (by have := h.far; omega), h.row.only ho (by have := h.far; omega), h.ok, h.far, hc, h.code.only ho (Nat.le_refl _), h.below.trans (ho.below (Nat.le_refl _))⟩
theorem ArSt.after (h : ArSt w wr g A n c zs X b m d Z) (hb : Below wr.heap.size wr w') : ArSt w w' g A n c zs X b m d Z :=
  ⟨h.res.after hb, h.box.after hb, h.row.after hb, h.ok, h.far, h.cur.after hb, h.code.below (hb.mono (by have := h.far; have := h.below.size; omega)), h.below.trans (hb.mono (by have := h.far; have := h.below.size; omega))⟩
theorem ArSt.setOther (h : ArSt w wr g A n c zs X b m d Z) {p : Addr} (h1 : w.heap.size < p.block) (h2 : X ≠ p.block) (h3 : b ≠ p.block) (v : Value) : ArSt w (wr.setCell p v) g A n c zs X b m d Z := by
  have hf := h.far
  refine ⟨h.res.set_other (by omega) v, h.box.set_other h2 v, h.row.set_other h3 v, h.ok, h.far, ?_, h.code.below ((Below.refl _ _).setCell (by omega) v), h.below.setCell (by omega) v⟩
  obtain ⟨i, x, hi, hc⟩ := h.cur
  exact ⟨i, x, hi, RowF.set_other hc (by omega) v⟩
theorem ArSt.drew (h : ArSt w wr g A n c zs X b m d Z) : ArSt w wr.drew g A n c zs X b m d Z :=
  ⟨h.res, h.box, h.row, h.ok, h.far, h.cur, h.code, below_drewN h.below 1⟩
theorem ArSt.swap {b' d' : Nat} {Z' : List Int} (h : ArSt w wr g A n c zs X b m d Z) (hr : RowF wr b' 105 (m * 4) (ints Z')) (ho : Z'.length = m * 4 ∧ archB Z' m = true ∧ m ≤ d') (hb : w.heap.size < b' ∧ X ≠ b') : ArSt w (wr.setCell ⟨X, 0, none⟩ (.slice (some ⟨b', 0, none⟩) m d')) g A n c zs X b' m d' Z' := by
  have hf := h.far
  refine ⟨h.res.set_other (by simp; omega) _, (h.box.set 0 _).congr (fun j hj => by simp; omega), hr.set_other (by simp; omega) _, ho, ⟨hf.1, hf.2.1, hb.1⟩, ?_, h.code.below ((Below.refl _ _).setCell (by simp; omega) _), h.below.setCell (by simp; omega) _⟩
  obtain ⟨i, x, hi, hc⟩ := h.cur
  exact ⟨i, x, hi, RowF.set_other hc (by simp; omega) _⟩
end
theorem nth_setZ (Z : List Int) (t : Nat) (x : Int) (i : Nat) (ht : t < Z.length) : nth (Z.set t x) i = if i = t then x else nth Z i := by
  by_cases hi : i < Z.length
  · rw [nth_get _ _ (by rw [List.length_set]; exact hi), List.getElem_set]
    by_cases e : t = i
    · subst e; simp
    · rw [if_neg e, if_neg (fun h => e h.symm), nth_get _ _ hi]
  · have e : ¬ i = t := by omega
    rw [if_neg e]
    simp [nth, List.getD, Nat.not_lt.1 hi]
/-- Two neighbouring numbers of a row set. -/
theorem rowF_put2 {w : World} {b M p : Nat} {E : TypeId} {Z : List Int} (h : RowF w b E M (ints Z)) (hl : Z.length = M) (hp : p + 1 < M) (x y : Int) : RowF ((w.setCell ⟨b, p, none⟩ (.int .i64 x)).setCell ⟨b, p + 1, none⟩ (.int .i64 y)).drew b E M (ints ((Z.set p x).set (p + 1) y)) := by
  refine (((h.set p (.int .i64 x)).set (p + 1) (.int .i64 y)).congr (fun j hj => ?_)).drew
  simp only [ints]
  rw [nth_setZ _ _ _ _ (by rw [List.length_set]; omega), nth_setZ _ _ _ _ (by omega)]
  by_cases e1 : j = p + 1
  · simp [e1]
  · by_cases e2 : j = p
    · subst e2; simp
    · simp [e1, e2]

/-- A valid arch comes back, in a row of its own; only the cursor turns. -/
def ArPost (w : World) (g : Nat) (A : Option Addr) (n c : Nat) (e : Ending) (w' : World) : Prop :=
  ∃ (b m d : Nat) (Z : List Int), e = .returned (.agg #[.slice (some ⟨b, 0, none⟩) m d]) ∧ w.heap.size < b ∧ m ≤ d ∧ RowF w' b 105 (m * 4) (ints Z) ∧ Z.length = m * 4 ∧ archB Z m = true ∧ CurAt w' g A n c ∧ Below g w w'

set_option maxRecDepth 100000 in
set_option maxHeartbeats 6400000 in
theorem l06Arch_any (g : Nat) (A : Option Addr) (n c : Nat) (zs : List Int) (w : World) (h : BytesAt w g A n zs) (hn : n ≤ 1048576) (hc : CurAt w g A n c) (hg : g < w.heap.size) :
    Calls Try.prog 60 #[.pointer (some ⟨g, 0, none⟩)] w (ArPost w g A n c) := by
  have h0 : BytesAt (w.alloc (.cells #[.slice none 0 0] 48)) g A n zs := h.below ((Below.refl _ _).alloc (by omega) _)
  have hc0 : CurAt (w.alloc (.cells #[.slice none 0 0] 48)) g A n c := hc.after ((Below.refl _ _).alloc (Nat.le_refl _) _)
  have HB0 : Hid (Below g w (w.alloc (.cells #[.slice none 0 0] 48))) := Lib.hid ((Below.refl _ _).alloc (by omega) _)
  have HV0 : Hid (RowF (w.alloc (.cells #[.slice none 0 0] 48)) w.heap.size 48 1 (fun _ => .slice none 0 0)) := Lib.hid (rowF_new1S _ _ _)
  have HS0 : Hid ((w.alloc (.cells #[.slice none 0 0] 48)).heap.size = w.heap.size + 1) := Lib.hid (by simp)
  have HG := Lib.hid hg
  clear h hc
  go_enter Try.func60, Try.ntmps60
  go_wp2_with fail
  refine (l01Below_any g A n c zs 6 _ h0 hn hc0 (by omega) (by omega)).mono ?_
  rintro e w1 ⟨x, rfl, x0, x1, hc1, ho1⟩
  have HH1 := Lib.hid (h0.only ho1 (Nat.le_refl _))
  have HB1 := Lib.hid (HB0.out.trans (ho1.below (Nat.le_refl _)))
  have HV1 := Lib.hid (HV0.out.only ho1 (by have := HG.out; omega))
  have HS1 := Lib.hid (ho1.size.trans HS0.out)
  have HC1 := Lib.hid hc1
  clear h0 hc0 ho1 HB0 HV0 HS0 hc1
  go_wp2_with fail
  refine (l06Shape_any x w1 x0 x1).mono ?_
  rintro e w2 ⟨b, m, Z, rfl, hbg, hbr, hbl, hbo, hb2⟩
  have HA2 : Hid (ArSt w (w2.alloc (.cells #[.slice (some ⟨b, 0, none⟩) m m] 48)) g A n c zs w2.heap.size b m m Z) := Lib.hid (by
    have h1 := HG.out
    have h2 := HS1.out
    have h3 := hb2.size
    have hbb := hb2.alloc (o := .cells #[.slice (some ⟨b, 0, none⟩) m m] 48) h3
    exact ⟨HV1.out.after hbb, rowF_new1S _ _ _, hbr.alloc _, ⟨hbl, hbo, Nat.le_refl _⟩, ⟨h1, by omega, by omega⟩, HC1.out.after hbb, HH1.out.below (hbb.mono (by omega)), HB1.out.trans (hbb.mono (by omega))⟩)
  obtain ⟨X, hX⟩ : ∃ X, w2.heap.size = X := ⟨_, rfl⟩
  clear hbg hbr hbl hbo hb2 HH1 HB1 HV1 HS1 HC1
  go_wp2_with fail
  refine (l01Below_any g A n c zs 5 _ HA2.out.code hn HA2.out.cur (by omega) (by omega)).mono ?_
  rintro e w3 ⟨r, rfl, r0, r1, hc3, ho3⟩
  have HA3 := Lib.hid (HA2.out.only ho3 hc3)
  rw [hX] at HA3
  clear hc3 ho3 HA2
  obtain ⟨q, rfl⟩ := Int.eq_ofNat_of_zero_le r0
  go_wp2
  go_loopw [4] (fun v4 wr => ∃ (k b m d : Nat) (Z : List Int), v4 = .int .i64 k ∧ k ≤ 5 ∧ Hid (ArSt w wr g A n c zs X b m d Z)) (fun v4 _ => (intOf v4).toNat)
  case atStart => exact ⟨q, b, m, m, Z, rfl, by omega, HA3⟩
  case round =>
    clear HA3
    obtain ⟨k, b, m, d, Z, rfl, hk5, HA⟩ := hrel
    have bx : wr.cell? ⟨X, 0, none⟩ = some (.slice (some ⟨b, 0, none⟩) m d) := HA.out.box.cell (i := 0) (by omega)
    have xf := HA.out.box.frozen 0
    have hm8 := (archB_out HA.out.ok.2.1).1
    by_cases he : 0 < k
    · have i1 : (0 : Int) < (k : Int) := by omega
      go_wp2_with fail
      refine (l06Copy_any b m d Z wr HA.out.row HA.out.ok.1 (by omega) (by omega)).mono ?_
      rintro e w4 ⟨g2, d2, rfl, hg2, hd2, hr2, hb4⟩
      have HR4 := Lib.hid (hr2.alloc (.cells #[.slice (some ⟨g2, 0, none⟩) m d2] 48))
      have HY4 := Lib.hid (rowF_new1S w4 (.slice (some ⟨g2, 0, none⟩) m d2) 48)
      have HA4 := Lib.hid (HA.out.after (hb4.alloc hb4.size (.cells #[.slice (some ⟨g2, 0, none⟩) m d2] 48)))
      have HF4 : Hid (w.heap.size < g2 ∧ w.heap.size < w4.heap.size ∧ X ≠ w4.heap.size ∧ b ≠ g2 ∧ X ≠ g2 ∧ g2 ≠ w4.heap.size ∧ m ≤ d2) := Lib.hid (by
        have h1 := HA.out.below.size
        have h2 := HA.out.box.lt
        have h3 := hb4.size
        have h4 := HA.out.row.lt
        have h5 := hr2.lt
        exact ⟨by omega, by omega, by omega, by omega, by omega, by omega, hd2⟩)
      obtain ⟨Y, hY⟩ : ∃ Y, w4.heap.size = Y := ⟨_, rfl⟩
      rw [hY] at HY4 HF4
      have y0 : (w4.alloc (.cells #[.slice (some ⟨g2, 0, none⟩) m d2] 48)).cell? ⟨Y, 0, none⟩ = some (.slice (some ⟨g2, 0, none⟩) m d2) := HY4.out.cell (i := 0) (by omega)
      clear hg2 hd2 hr2 hb4 HA bx
      go_wp2_with fail
      refine (l01Below_any g A n c zs (m : Int) _ HA4.out.code hn HA4.out.cur (by omega) (by omega)).mono ?_
      rintro e w5 ⟨i, rfl, z0, z1, hc5, ho5⟩
      have HA5 := Lib.hid (HA4.out.only ho5 hc5)
      have HY5 := Lib.hid (HY4.out.only ho5 (by have := HA4.out.below.size; have := HF4.out; omega))
      have HR5 := Lib.hid (HR4.out.only ho5 (by have := HF4.out; omega))
      clear hc5 ho5 HA4 HY4 HR4 y0
      obtain ⟨i, rfl⟩ := Int.eq_ofNat_of_zero_le z0
      go_wp2_with fail
      refine (l01Below_any g A n c zs 3 _ HA5.out.code hn HA5.out.cur (by omega) (by omega)).mono ?_
      rintro e w6 ⟨dx, rfl, dx0, dx1, hc6, ho6⟩
      have HA6 := Lib.hid (HA5.out.only ho6 hc6)
      have HY6 := Lib.hid (HY5.out.only ho6 (by have := HF4.out; omega))
      have HR6 := Lib.hid (HR5.out.only ho6 (by have := HF4.out; omega))
      clear hc6 ho6 HA5 HY5 HR5
      go_wp2_with fail
      refine (l01Below_any g A n c zs 3 _ HA6.out.code hn HA6.out.cur (by omega) (by omega)).mono ?_
      rintro e w7 ⟨dy, rfl, dy0, dy1, hc7, ho7⟩
      have HA7 := Lib.hid (HA6.out.only ho7 hc7)
      have HY7 := Lib.hid (HY6.out.only ho7 (by have := HF4.out; omega))
      have HR7 := Lib.hid (HR6.out.only ho7 (by have := HF4.out; omega))
      clear hc7 ho7 HA6 HY6 HR6
      go_wp2_with fail
      refine (l01Once_any g A n c zs 2 _ HA7.out.code hn HA7.out.cur (by omega) (by omega)).mono ?_
      rintro e w8 ⟨bb, rfl, hc8, ho8⟩
      have HA8 := Lib.hid (HA7.out.only ho8 hc8)
      have HY8 := Lib.hid (HY7.out.only ho8 (by have := HF4.out; omega))
      have HR8 := Lib.hid (HR7.out.only ho8 (by have := HF4.out; omega))
      clear hc8 ho8 HA7 HY7 HR7
      have y0 : w8.cell? ⟨Y, 0, none⟩ = some (.slice (some ⟨g2, 0, none⟩) m d2) := HY8.out.cell (i := 0) (by omega)
      have c0 : w8.cell? ⟨g2, i * 4, none⟩ = some (.int .i64 (nth Z (i * 4))) := HR8.out.cell (by omega)
      have c1 : w8.cell? ⟨g2, i * 4 + 1, none⟩ = some (.int .i64 (nth Z (i * 4 + 1))) := HR8.out.cell (by omega)
      have c2 : w8.cell? ⟨g2, i * 4 + 2, none⟩ = some (.int .i64 (nth Z (i * 4 + 2))) := HR8.out.cell (by omega)
      have c3 : w8.cell? ⟨g2, i * 4 + 3, none⟩ = some (.int .i64 (nth Z (i * 4 + 3))) := HR8.out.cell (by omega)
      have f0 := HR8.out.frozen (i * 4)
      have f1 := HR8.out.frozen (i * 4 + 1)
      have f2 := HR8.out.frozen (i * 4 + 2)
      have f3 := HR8.out.frozen (i * 4 + 3)
      have zl := HR8.out.lt
      have i2 : (i : Int) < (m : Int) := by omega
      have i3 : (0 : Int) ≤ (i : Int) := by omega
      cases bb
      · have HL9 : Hid (((Z.set (i * 4 + 2) (wrap64 (nth Z (i * 4 + 2) + (dx - 1)))).set (i * 4 + 2 + 1) (wrap64 (nth Z (i * 4 + 3) + (dy - 1)))).length = m * 4) := Lib.hid (by simp [HA8.out.ok.1])
        have HR9 : Hid (RowF (((w8.setCell ⟨g2, i * 4 + 2, none⟩ (.int .i64 (wrap64 (nth Z (i * 4 + 2) + (dx - 1))))).setCell ⟨g2, i * 4 + 2 + 1, none⟩ (.int .i64 (wrap64 (nth Z (i * 4 + 3) + (dy - 1))))).drew) g2 105 (m * 4) (ints ((Z.set (i * 4 + 2) (wrap64 (nth Z (i * 4 + 2) + (dx - 1)))).set (i * 4 + 2 + 1) (wrap64 (nth Z (i * 4 + 3) + (dy - 1)))))) := Lib.hid (rowF_put2 HR8.out HA8.out.ok.1 (by omega) _ _)
        have HA9 : Hid (ArSt w (((w8.setCell ⟨g2, i * 4 + 2, none⟩ (.int .i64 (wrap64 (nth Z (i * 4 + 2) + (dx - 1))))).setCell ⟨g2, i * 4 + 2 + 1, none⟩ (.int .i64 (wrap64 (nth Z (i * 4 + 3) + (dy - 1))))).drew) g A n c zs X b m d Z) := Lib.hid ((((HA8.out.setOther (by exact HF4.out.1) (by exact HF4.out.2.2.2.2.1) (by exact HF4.out.2.2.2.1) _).setOther (by exact HF4.out.1) (by exact HF4.out.2.2.2.2.1) (by exact HF4.out.2.2.2.1) _)).drew)
        have HY9 : Hid (RowF (((w8.setCell ⟨g2, i * 4 + 2, none⟩ (.int .i64 (wrap64 (nth Z (i * 4 + 2) + (dx - 1))))).setCell ⟨g2, i * 4 + 2 + 1, none⟩ (.int .i64 (wrap64 (nth Z (i * 4 + 3) + (dy - 1))))).drew) Y 48 1 (fun _ => .slice (some ⟨g2, 0, none⟩) m d2)) := Lib.hid ((((HY8.out.set_other (by have := HF4.out; simp; omega) _).set_other (by have := HF4.out; simp; omega) _)).drew)
        go_wp2_with fail
        go_region
        clear y0 c0 c1 c2 c3 f0 f1 f2 f3 HR8 HA8 HY8
        obtain ⟨W9, hW9⟩ : ∃ W9 : World, ((w8.setCell ⟨g2, i * 4 + 2, none⟩ (.int .i64 (wrap64 (nth Z (i * 4 + 2) + (dx - 1))))).setCell ⟨g2, i * 4 + 2 + 1, none⟩ (.int .i64 (wrap64 (nth Z (i * 4 + 3) + (dy - 1))))).drew = W9 := ⟨_, rfl⟩
        obtain ⟨Z9, hZ9⟩ : ∃ Z9 : List Int, ((Z.set (i * 4 + 2) (wrap64 (nth Z (i * 4 + 2) + (dx - 1)))).set (i * 4 + 2 + 1) (wrap64 (nth Z (i * 4 + 3) + (dy - 1)))) = Z9 := ⟨_, rfl⟩
        rw [hW9] at HR9 HA9 HY9
        rw [hZ9] at HR9 HL9
        have y9 : W9.cell? ⟨Y, 0, none⟩ = some (.slice (some ⟨g2, 0, none⟩) m d2) := HY9.out.cell (i := 0) (by omega)
        go_wp2_with fail
        refine (sArchOk_any _ m _ Z9 W9 (HR9.out.recs HL9.out) (by omega)).mono ?_
        rintro e w10 ⟨rfl, hb10⟩
        have HA10 := Lib.hid (HA9.out.after hb10)
        have HR10 := Lib.hid (HR9.out.after hb10)
        have HY10 := Lib.hid (HY9.out.after hb10)
        have hk1 : IntKind.i64.wrap ((k : Int) - 1) = ((k - 1 : Nat) : Int) := by rw [IntWalk.i64_in _ (by omega)]; omega
        clear hb10 y9 HA9 HR9 HY9 hW9 hZ9
        cases hB : archB Z9 m
        · go_wp2
          go_roundw
          case rel => exact ⟨k - 1, b, m, d, Z, by go_num, by omega, HA10⟩
          case measure => simp [intOf]; omega
        · have y10 : w10.cell? ⟨Y, 0, none⟩ = some (.slice (some ⟨g2, 0, none⟩) m d2) := HY10.out.cell (i := 0) (by omega)
          have x10 : w10.cell? ⟨X, 0, none⟩ = some (.slice (some ⟨b, 0, none⟩) m d) := HA10.out.box.cell (i := 0) (by omega)
          have xf10 := HA10.out.box.frozen 0
          have HS10 := Lib.hid (HA10.out.swap (d' := d2) HR10.out ⟨HL9.out, hB, HF4.out.2.2.2.2.2.2⟩ ⟨HF4.out.1, HF4.out.2.2.2.2.1⟩)
          go_wp2
          go_roundw
          case rel => exact ⟨k - 1, g2, m, d2, Z9, by go_num, by omega, HS10⟩
          case measure => simp [intOf]; omega
      · have HL9 : Hid (((Z.set (i * 4) (wrap64 (nth Z (i * 4) + (dx - 1)))).set (i * 4 + 1) (wrap64 (nth Z (i * 4 + 1) + (dy - 1)))).length = m * 4) := Lib.hid (by simp [HA8.out.ok.1])
        have HR9 : Hid (RowF (((w8.setCell ⟨g2, i * 4, none⟩ (.int .i64 (wrap64 (nth Z (i * 4) + (dx - 1))))).setCell ⟨g2, i * 4 + 1, none⟩ (.int .i64 (wrap64 (nth Z (i * 4 + 1) + (dy - 1))))).drew) g2 105 (m * 4) (ints ((Z.set (i * 4) (wrap64 (nth Z (i * 4) + (dx - 1)))).set (i * 4 + 1) (wrap64 (nth Z (i * 4 + 1) + (dy - 1)))))) := Lib.hid (rowF_put2 HR8.out HA8.out.ok.1 (by omega) _ _)
        have HA9 : Hid (ArSt w (((w8.setCell ⟨g2, i * 4, none⟩ (.int .i64 (wrap64 (nth Z (i * 4) + (dx - 1))))).setCell ⟨g2, i * 4 + 1, none⟩ (.int .i64 (wrap64 (nth Z (i * 4 + 1) + (dy - 1))))).drew) g A n c zs X b m d Z) := Lib.hid ((((HA8.out.setOther (by exact HF4.out.1) (by exact HF4.out.2.2.2.2.1) (by exact HF4.out.2.2.2.1) _).setOther (by exact HF4.out.1) (by exact HF4.out.2.2.2.2.1) (by exact HF4.out.2.2.2.1) _)).drew)
        have HY9 : Hid (RowF (((w8.setCell ⟨g2, i * 4, none⟩ (.int .i64 (wrap64 (nth Z (i * 4) + (dx - 1))))).setCell ⟨g2, i * 4 + 1, none⟩ (.int .i64 (wrap64 (nth Z (i * 4 + 1) + (dy - 1))))).drew) Y 48 1 (fun _ => .slice (some ⟨g2, 0, none⟩) m d2)) := Lib.hid ((((HY8.out.set_other (by have := HF4.out; simp; omega) _).set_other (by have := HF4.out; simp; omega) _)).drew)
        go_wp2_with fail
        go_region
        clear y0 c0 c1 c2 c3 f0 f1 f2 f3 HR8 HA8 HY8
        obtain ⟨W9, hW9⟩ : ∃ W9 : World, ((w8.setCell ⟨g2, i * 4, none⟩ (.int .i64 (wrap64 (nth Z (i * 4) + (dx - 1))))).setCell ⟨g2, i * 4 + 1, none⟩ (.int .i64 (wrap64 (nth Z (i * 4 + 1) + (dy - 1))))).drew = W9 := ⟨_, rfl⟩
        obtain ⟨Z9, hZ9⟩ : ∃ Z9 : List Int, ((Z.set (i * 4) (wrap64 (nth Z (i * 4) + (dx - 1)))).set (i * 4 + 1) (wrap64 (nth Z (i * 4 + 1) + (dy - 1)))) = Z9 := ⟨_, rfl⟩
        rw [hW9] at HR9 HA9 HY9
        rw [hZ9] at HR9 HL9
        have y9 : W9.cell? ⟨Y, 0, none⟩ = some (.slice (some ⟨g2, 0, none⟩) m d2) := HY9.out.cell (i := 0) (by omega)
        go_wp2_with fail
        refine (sArchOk_any _ m _ Z9 W9 (HR9.out.recs HL9.out) (by omega)).mono ?_
        rintro e w10 ⟨rfl, hb10⟩
        have HA10 := Lib.hid (HA9.out.after hb10)
        have HR10 := Lib.hid (HR9.out.after hb10)
        have HY10 := Lib.hid (HY9.out.after hb10)
        have hk1 : IntKind.i64.wrap ((k : Int) - 1) = ((k - 1 : Nat) : Int) := by rw [IntWalk.i64_in _ (by omega)]; omega
        clear hb10 y9 HA9 HR9 HY9 hW9 hZ9
        cases hB : archB Z9 m
        · go_wp2
          go_roundw
          case rel => exact ⟨k - 1, b, m, d, Z, by go_num, by omega, HA10⟩
          case measure => simp [intOf]; omega
        · have y10 : w10.cell? ⟨Y, 0, none⟩ = some (.slice (some ⟨g2, 0, none⟩) m d2) := HY10.out.cell (i := 0) (by omega)
          have x10 : w10.cell? ⟨X, 0, none⟩ = some (.slice (some ⟨b, 0, none⟩) m d) := HA10.out.box.cell (i := 0) (by omega)
          have xf10 := HA10.out.box.frozen 0
          have HS10 := Lib.hid (HA10.out.swap (d' := d2) HR10.out ⟨HL9.out, hB, HF4.out.2.2.2.2.2.2⟩ ⟨HF4.out.1, HF4.out.2.2.2.2.1⟩)
          go_wp2
          go_roundw
          case rel => exact ⟨k - 1, g2, m, d2, Z9, by go_num, by omega, HS10⟩
          case measure => simp [intOf]; omega
    · obtain rfl : k = 0 := by omega
      have i1 : ¬ (0 : Int) < ((0 : Nat) : Int) := by omega
      have r0 : wr.cell? ⟨w.heap.size, 0, none⟩ = some (.slice none 0 0) := HA.out.res.cell (i := 0) (by omega)
      have rf := HA.out.res.frozen 0
      have rl := HA.out.res.lt
      go_wp2
      refine bodyPost_ret (v := .agg #[.slice (some ⟨b, 0, none⟩) m d]) (by simp [results, Try.results60, go_sem, *]) rfl ?_
      have hf := HA.out.far
      refine ⟨b, m, d, Z, rfl, hf.2.2, HA.out.ok.2.2, HA.out.row.set_other (by simp; omega) _, HA.out.ok.1, HA.out.ok.2.1, ?_, HA.out.below.setCell (by simp; omega) _⟩
      obtain ⟨i, x, hi, hc⟩ := HA.out.cur
      exact ⟨i, x, hi, RowF.set_other hc (by simp; omega) _⟩

set_option maxRecDepth 100000 in
set_option maxHeartbeats 3200000 in
theorem drawArch_any (A : Option Addr) (n c : Nat) (zs : List Int) (w : World) (h : BytesAt w w.heap.size A n zs) (hn : n ≤ 1048576) :
    Calls Try.prog 29 #[.slice A n c] w fun e w' => ∃ (b m d : Nat) (Z : List Int), e = .returned (.agg #[.slice (some ⟨b, 0, none⟩) m d]) ∧ w.heap.size < b ∧ m ≤ d ∧ RowF w' b 105 (m * 4) (ints Z) ∧ Z.length = m * 4 ∧ archB Z m = true ∧ Below w.heap.size w w' := by
  have h0 : BytesAt (w.alloc (.cells #[.slice none 0 0] 48)) (w.alloc (.cells #[.slice none 0 0] 48)).heap.size A n zs := h.after ((Below.refl _ _).alloc (Nat.le_refl _) _)
  have HB0 : Hid (Below w.heap.size w (w.alloc (.cells #[.slice none 0 0] 48))) := Lib.hid ((Below.refl _ _).alloc (Nat.le_refl _) _)
  have HV0 : Hid (RowF (w.alloc (.cells #[.slice none 0 0] 48)) w.heap.size 48 1 (fun _ => .slice none 0 0)) := Lib.hid (rowF_new1S _ _ _)
  go_enter Try.func29, Try.ntmps29
  go_wp2_with fail
  refine (l01New_any _ _ _ zs _ h0 hn).mono ?_
  rintro e w1 ⟨g, rfl, hg, hc, hb1⟩
  have hgl : g < w1.heap.size := by
    obtain ⟨i, x, _, hcc⟩ := hc
    exact RowF.lt hcc
  have h1 : BytesAt w1 g A n zs := (h0.below hb1).mono hg
  have hgw : w.heap.size < g := by simp at hg; omega
  have HB1 := Lib.hid (HB0.out.trans (hb1.mono (by simp)))
  have HV1 := Lib.hid (HV0.out.after hb1)
  clear hb1 h h0
  go_wp2_with fail
  refine (l06Arch_any g _ _ _ zs _ h1 hn hc hgl).mono ?_
  rintro e w2 ⟨b, m, d, Z, rfl, hb, hmd, hr, hl, ho, hcc, hb2⟩
  have HV2 := Lib.hid (RowF.of_block HV1.out (hb2.block w.heap.size hgw))
  have HB2 := Lib.hid (HB1.out.trans (hb2.mono (by omega)))
  have HR2 := Lib.hid hr
  clear hb2 h1 hc hcc hr
  have d0 : w2.cell? ⟨w.heap.size, 0, none⟩ = some (.slice none 0 0) := HV2.out.cell (i := 0) (by omega)
  have f0 := HV2.out.frozen 0
  have hs := RowF.lt HV2.out
  go_wp2
  refine bodyPost_ret (v := .agg #[.slice (some ⟨b, 0, none⟩) m d]) (by simp [results, Try.results29, go_sem, d0, f0, hs]) rfl ?_
  exact ⟨b, m, d, Z, rfl, by omega, hmd, HR2.out.set_other (by simp; omega) _, hl, ho, HB2.out.setCell (by simp) _⟩
end Go.Proofs.Ytplabaneihjcoaa
