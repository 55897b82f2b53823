/-
  Contracts: the draw of a valid stone.
-/
import Derived.Test.YtplabaneihjcoaaWDraw
import Derived.Test.YtplabaneihjcoaaWStone
import Derived.Test.YtplabaneihjcoaaOwnR
namespace Go.Proofs.Ytplabaneihjcoaa
open Go.RowKit
set_option linter.unusedSimpArgs false
set_option linter.unusedVariables false

theorem infoPointD : (Try.prog.info? 76).map (fun i => (i.zero, i.size, i.bytes)) = some (some (.agg #[.int .i64 0, .int .i64 0]), 2, 16) := by kernel_rfl
/-- Of the blocks that were there only g may have turned. -/
structure Bt (g : Nat) (w w' : World) : Prop where
  below : Below g w w'
  keep : ∀ k, k < w.heap.size → k ≠ g → w'.heap[k]? = w.heap[k]?
theorem Bt.new {g : Nat} {w : World} (o : Obj) (hg : g < w.heap.size) : Bt g w (w.alloc o) := ⟨(Below.refl _ _).alloc (by omega) o, fun k hk _ => Below.heap_alloc w o k hk⟩
theorem Bt.only {g : Nat} {w w1 w2 : World} (h : Bt g w w1) (ho : Only g w1 w2) : Bt g w w2 := ⟨h.below.trans (ho.below (Nat.le_refl _)), fun k hk hne => (ho.block k hne).trans (h.keep k hk hne)⟩
theorem Bt.far {g B : Nat} {w w1 w2 : World} (h : Bt g w w1) (hb : Below B w1 w2) (hB : w.heap.size ≤ B) (hg : g < w.heap.size) : Bt g w w2 := ⟨h.below.trans (hb.mono (by omega)), fun k hk hne => (hb.block k (by omega)).trans (h.keep k hk hne)⟩
theorem Bt.setCell {g : Nat} {w w1 : World} (h : Bt g w w1) {p : Addr} (hp : w.heap.size ≤ p.block) (hg : g < w.heap.size) (v : Value) : Bt g w (w1.setCell p v) := ⟨h.below.setCell (by omega) v, fun k hk hne => (Below.heap_setCell w1 p v k (by omega)).trans (h.keep k hk hne)⟩
theorem Bt.alloc {g : Nat} {w w1 : World} (h : Bt g w w1) (hg : g < w.heap.size) (o : Obj) : Bt g w (w1.alloc o) := h.far (((Below.refl _ _).alloc (Nat.le_refl _) o).mono (B' := w1.heap.size) (Nat.le_refl _)) h.below.size hg
/-- A valid stone comes back, in a row of its own; only the cursor turns. -/
def StonePost (w : World) (g : Nat) (A : Option Addr) (n c : Nat) (e : Ending) (w' : World) : Prop :=
  ∃ (S m d : Nat) (zs : List Int), e = .returned (.agg #[.slice (some ⟨S, 0, none⟩) m d]) ∧ w.heap.size ≤ S ∧ (m ≤ d ∧ d ≤ 9223372036854775807) ∧ RowF w' S 76 (m * 2) (ints zs) ∧ zs.length = m * 2 ∧ stoneB zs m = true ∧ CurAt w' g A n c ∧ Bt g w w'
theorem rect_ok {x y u v : Int} (hx : -4 ≤ x) (hx' : x ≤ 7) (hy : 0 ≤ y) (hy' : y ≤ 7) (hu : 1 ≤ u) (hu' : u ≤ 6) (hv : 1 ≤ v) (hv' : v ≤ 6) : stoneB [x, y, x + u, y, x + u, y + v, x, y + v] 4 = true := by
  refine stoneB_t (inB_t (by omega)) ?_ ?_
  · intro k hk
    have h : k = 0 ∨ k = 1 ∨ k = 2 ∨ k = 3 := by omega
    rcases h with rfl | rfl | rfl | rfl <;> simp [ptA, ptB, inB, nth] <;> omega
  · intro k hk
    have huv : 0 < u * v := Int.mul_pos (by omega) (by omega)
    have h : k = 0 ∨ k = 1 ∨ k = 2 ∨ k = 3 := by omega
    rcases h with rfl | rfl | rfl | rfl <;> simp [turnB, sd, sideI, nth] <;> grind
theorem ints_get8 (a0 a1 a2 a3 a4 a5 a6 a7 : Int) (b : TypeId) (w : World) : (w.alloc (.cells #[.int .i64 a0, .int .i64 a1, .int .i64 a2, .int .i64 a3, .int .i64 a4, .int .i64 a5, .int .i64 a6, .int .i64 a7] b)).rowIs w.heap.size b 8 (ints [a0, a1, a2, a3, a4, a5, a6, a7]) :=
  World.rowIs_alloc w #[.int .i64 a0, .int .i64 a1, .int .i64 a2, .int .i64 a3, .int .i64 a4, .int .i64 a5, .int .i64 a6, .int .i64 a7] b _ (fun j hj => by simp at hj; match j, hj with | 0, _ => rfl | 1, _ => rfl | 2, _ => rfl | 3, _ => rfl | 4, _ => rfl | 5, _ => rfl | 6, _ => rfl | 7, _ => rfl)
theorem RowF.less {w : World} {g : Nat} {E : TypeId} {m k : Nat} {f f' : Nat → Value} (h : RowF w g E m f) (hk : k ≤ m) (hf : ∀ i, i < k → f i = f' i) : RowF w g E k f' := by
  obtain ⟨c, hb, hm, hc⟩ := h
  exact ⟨c, hb, Nat.le_trans hk hm, fun i hi => by rw [hc i (by omega), hf i hi]⟩

theorem OwnR.capD {w : World} {base : Nat} {E : TypeId} {K n : Nat} {A : Option Addr} {c : Nat} {xs : List Int} (h : OwnR w base E K (.slice A n c) n xs) : c ≤ 9223372036854775807 := by
  rcases h.1.2 with ⟨h1, _⟩ | ⟨g, cap, cur, h1, _, _, _, h5, _⟩
  · simp at h1; omega
  · simp at h1
    unfold maxLen at h5
    omega
theorem OwnR.onlyBelow {w w' : World} {g base : Nat} {E : TypeId} {K n : Nat} {v : Value} {xs : List Int} (h : OwnR w base E K v n xs) (ho : Only g w w') (hg : g < base) : OwnR w' base E K v n xs := by
  refine ⟨⟨h.1.1, ?_⟩, h.2⟩
  rcases h.1.2 with h2 | ⟨g0, cap, cur, h1, h2, h3, hr⟩
  · exact .inl h2
  · exact .inr ⟨g0, cap, cur, h1, h2, (ho.block g0 (by omega)).trans h3, hr⟩
theorem OwnR.lit8 (w : World) (E : TypeId) (a0 a1 a2 a3 a4 a5 a6 a7 : Int) : OwnR (w.alloc (.cells #[.int .i64 a0, .int .i64 a1, .int .i64 a2, .int .i64 a3, .int .i64 a4, .int .i64 a5, .int .i64 a6, .int .i64 a7] E)) w.heap.size E 2 (.slice (some ⟨w.heap.size, 0, none⟩) 4 4) 4 [a0, a1, a2, a3, a4, a5, a6, a7] :=
  ⟨World.ownsRow_lit (base := w.heap.size) (e := E) (size := 2) w #[.int .i64 a0, .int .i64 a1, .int .i64 a2, .int .i64 a3, .int .i64 a4, .int .i64 a5, .int .i64 a6, .int .i64 a7] 4 (Nat.le_refl _) (by simp [maxLen]) rfl, rfl⟩
theorem CurAt.setOther {w : World} {g : Nat} {A : Option Addr} {n c : Nat} (h : CurAt w g A n c) {p : Addr} (hp : g ≠ p.block) (v : Value) : CurAt (w.setCell p v) g A n c := by
  obtain ⟨i, x, hi, hc⟩ := h
  exact ⟨i, x, hi, RowF.set_other hc hp v⟩

set_option maxRecDepth 100000 in
set_option maxHeartbeats 12800000 in
theorem l03Stone_any (g : Nat) (A : Option Addr) (n c : Nat) (zs : List Int) (w : World) (h : BytesAt w g A n zs) (hn : n ≤ 1048576) (hc : CurAt w g A n c) (hg : g < w.heap.size) :
    Calls Try.prog 62 #[.pointer (some ⟨g, 0, none⟩)] w (StonePost w g A n c) := by
  have h0 : BytesAt (w.alloc (.cells #[.slice none 0 0] 36)) g A n zs := h.below ((Below.refl _ _).alloc (by omega) _)
  have hc0 : CurAt (w.alloc (.cells #[.slice none 0 0] 36)) g A n c := hc.after ((Below.refl _ _).alloc (Nat.le_refl _) _)
  have HB0 : Hid (Bt g w (w.alloc (.cells #[.slice none 0 0] 36))) := Lib.hid (Bt.new _ hg)
  have HV0 : Hid (RowF (w.alloc (.cells #[.slice none 0 0] 36)) w.heap.size 36 1 (fun _ => .slice none 0 0)) := Lib.hid (RowF.of_row (World.rowIs_alloc w #[.slice none 0 0] 36 (fun _ => .slice none 0 0) (fun j hj => by simp at hj; subst hj; rfl)))
  have HS0 : Hid ((w.alloc (.cells #[.slice none 0 0] 36)).heap.size = w.heap.size + 1) := Lib.hid (by simp)
  have HG := Lib.hid hg
  clear h hc
  go_enter Try.func62, Try.ntmps62
  go_wp2_with fail
  refine (l01Below_any g A n c zs 12 _ h0 hn hc0 (by omega) (by omega)).mono ?_
  rintro e w1 ⟨x, rfl, x0, x1, hc1, ho1⟩
  have h1 := h0.only ho1 (Nat.le_refl _)
  have HB1 := Lib.hid (HB0.out.only ho1)
  have HV1 := Lib.hid (HV0.out.only ho1 (by have := HG.out; omega))
  have HS1 := Lib.hid (ho1.size.trans HS0.out)
  clear h0 hc0 ho1 HB0 HV0 HS0
  go_wp2_with fail
  refine (l01Below_any g A n c zs 8 _ h1 hn hc1 (by omega) (by omega)).mono ?_
  rintro e w2 ⟨y, rfl, y0, y1, hc2, ho2⟩
  have h2 := h1.only ho2 (Nat.le_refl _)
  have HB2 := Lib.hid (HB1.out.only ho2)
  have HV2 := Lib.hid (HV1.out.only ho2 (by have := HG.out; omega))
  have HS2 := Lib.hid (ho2.size.trans HS1.out)
  clear h1 hc1 ho2 HB1 HV1 HS1
  go_wp2_with fail
  refine (l01Below_any g A n c zs 6 _ h2 hn hc2 (by omega) (by omega)).mono ?_
  rintro e w3 ⟨u, rfl, u0, u1, hc3, ho3⟩
  have h3 := h2.only ho3 (Nat.le_refl _)
  have HB3 := Lib.hid (HB2.out.only ho3)
  have HV3 := Lib.hid (HV2.out.only ho3 (by have := HG.out; omega))
  have HS3 := Lib.hid (ho3.size.trans HS2.out)
  clear h2 hc2 ho3 HB2 HV2 HS2
  go_wp2_with fail
  refine (l01Below_any g A n c zs 6 _ h3 hn hc3 (by omega) (by omega)).mono ?_
  rintro e w4 ⟨v, rfl, v0, v1, hc4, ho4⟩
  have h4 := h3.only ho4 (Nat.le_refl _)
  have HB4 := Lib.hid (HB3.out.only ho4)
  have HV4 := Lib.hid (HV3.out.only ho4 (by have := HG.out; omega))
  have HS4 := Lib.hid (ho4.size.trans HS3.out)
  clear h3 hc3 ho4 HB3 HV3 HS3
  go_wp2_with fail
  refine (l01Below_any g A n c zs 2 _ h4 hn hc4 (by omega) (by omega)).mono ?_
  rintro e w5 ⟨p, rfl, p0, p1, hc5, ho5⟩
  have h5 := h4.only ho5 (Nat.le_refl _)
  have HB5 := Lib.hid (HB4.out.only ho5)
  have HV5 := Lib.hid (HV4.out.only ho5 (by have := HG.out; omega))
  have HS5 := Lib.hid (ho5.size.trans HS4.out)
  clear h4 hc4 ho5 HB4 HV4 HS4
  go_wp2_with fail
  refine (l01Below_any g A n c zs 3 _ h5 hn hc5 (by omega) (by omega)).mono ?_
  rintro e w6 ⟨q, rfl, q0, q1, hc6, ho6⟩
  have h6 := h5.only ho6 (Nat.le_refl _)
  have HB6 := Lib.hid (HB5.out.only ho6)
  have HV6 := Lib.hid (HV5.out.only ho6 (by have := HG.out; omega))
  have HS6 := Lib.hid (ho6.size.trans HS5.out)
  clear h5 hc5 ho6 HB5 HV5 HS5
  go_wp2_with fail
  refine (l01Below_any g A n c zs 2 _ h6 hn hc6 (by omega) (by omega)).mono ?_
  rintro e w7 ⟨r, rfl, r0, r1, hc7, ho7⟩
  have h7 := h6.only ho7 (Nat.le_refl _)
  have HB7 := Lib.hid (HB6.out.only ho7)
  have HV7 := Lib.hid (HV6.out.only ho7 (by have := HG.out; omega))
  have HS7 := Lib.hid (ho7.size.trans HS6.out)
  clear h6 hc6 ho7 HB6 HV6 HS6
  have hb9 : Below w7.heap.size w7 ((w7.alloc (.cells #[.int .i64 (x - 4), .int .i64 (y), .int .i64 (x - 4 + (1 + u)), .int .i64 (y + p), .int .i64 (x - 4 + (1 + u) + q), .int .i64 (y + (1 + v) + 1), .int .i64 (x - 4 - r), .int .i64 (y + (1 + v))] 76)).alloc (.cells #[.slice (some ⟨w7.heap.size, 0, none⟩) 4 4] 36)) := ((Below.refl _ _).alloc (Nat.le_refl _) _).alloc (by simp) _
  have hlt : g < w7.heap.size := by have := HG.out; have := HS7.out; omega
  have HBw9 := Lib.hid (HB7.out.far hb9 (by have := HS7.out; omega) HG.out)
  have HVw9 := Lib.hid (HV7.out.after hb9)
  have HRw9 : Hid (RowF ((w7.alloc (.cells #[.int .i64 (x - 4), .int .i64 (y), .int .i64 (x - 4 + (1 + u)), .int .i64 (y + p), .int .i64 (x - 4 + (1 + u) + q), .int .i64 (y + (1 + v) + 1), .int .i64 (x - 4 - r), .int .i64 (y + (1 + v))] 76)).alloc (.cells #[.slice (some ⟨w7.heap.size, 0, none⟩) 4 4] 36)) w7.heap.size 76 8 (ints [x - 4, y, x - 4 + (1 + u), y + p, x - 4 + (1 + u) + q, y + (1 + v) + 1, x - 4 - r, y + (1 + v)])) := Lib.hid ((RowF.of_row (ints_get8 _ _ _ _ _ _ _ _ _ _)).alloc _)
  have HOw9 : Hid (OwnR ((w7.alloc (.cells #[.int .i64 (x - 4), .int .i64 (y), .int .i64 (x - 4 + (1 + u)), .int .i64 (y + p), .int .i64 (x - 4 + (1 + u) + q), .int .i64 (y + (1 + v) + 1), .int .i64 (x - 4 - r), .int .i64 (y + (1 + v))] 76)).alloc (.cells #[.slice (some ⟨w7.heap.size, 0, none⟩) 4 4] 36)) w7.heap.size 76 2 (.slice (some ⟨w7.heap.size, 0, none⟩) 4 4) 4 [x - 4, y, x - 4 + (1 + u), y + p, x - 4 + (1 + u) + q, y + (1 + v) + 1, x - 4 - r, y + (1 + v)]) := Lib.hid ((OwnR.lit8 _ _ _ _ _ _ _ _ _ _).alloc _)
  have hX0 : RowF ((w7.alloc (.cells #[.int .i64 (x - 4), .int .i64 (y), .int .i64 (x - 4 + (1 + u)), .int .i64 (y + p), .int .i64 (x - 4 + (1 + u) + q), .int .i64 (y + (1 + v) + 1), .int .i64 (x - 4 - r), .int .i64 (y + (1 + v))] 76)).alloc (.cells #[.slice (some ⟨w7.heap.size, 0, none⟩) 4 4] 36)) (w7.heap.size + 1) 36 1 (fun _ => .slice (some ⟨w7.heap.size, 0, none⟩) 4 4) := by
    have hx := RowF.of_row (World.rowIs_alloc (w7.alloc (.cells #[.int .i64 (x - 4), .int .i64 (y), .int .i64 (x - 4 + (1 + u)), .int .i64 (y + p), .int .i64 (x - 4 + (1 + u) + q), .int .i64 (y + (1 + v) + 1), .int .i64 (x - 4 - r), .int .i64 (y + (1 + v))] 76)) #[.slice (some ⟨w7.heap.size, 0, none⟩) 4 4] 36 (fun _ => .slice (some ⟨w7.heap.size, 0, none⟩) 4 4) (fun j hj => by simp at hj; subst hj; rfl))
    simpa using hx
  have HXw9 := Lib.hid hX0
  have HSw9 : Hid (((w7.alloc (.cells #[.int .i64 (x - 4), .int .i64 (y), .int .i64 (x - 4 + (1 + u)), .int .i64 (y + p), .int .i64 (x - 4 + (1 + u) + q), .int .i64 (y + (1 + v) + 1), .int .i64 (x - 4 - r), .int .i64 (y + (1 + v))] 76)).alloc (.cells #[.slice (some ⟨w7.heap.size, 0, none⟩) 4 4] 36)).heap.size = w.heap.size + 3) := Lib.hid (by simp [HS7.out])
  have hcw9 := hc7.after hb9
  have hw9 := h7.below (hb9.mono (by omega : g ≤ w7.heap.size))
  clear hb9 hX0 hc7 h7 HB7 HV7
  go_wp2_with fail
  refine (l01Below_any g A n c zs 4 _ hw9 hn hcw9 (by omega) (by omega)).mono ?_
  rintro e wk ⟨k, rfl, k0, k1, hck, hok⟩
  have HB := Lib.hid (HBw9.out.only hok)
  have HV := Lib.hid (HVw9.out.only hok (by have := HG.out; omega))
  have HR := Lib.hid (HRw9.out.only hok (by omega))
  have HO := Lib.hid (HOw9.out.onlyBelow hok (by have := HG.out; have := HS7.out; omega))
  have HX := Lib.hid (HXw9.out.only hok (by omega))
  have HSk := Lib.hid (hok.size.trans HSw9.out)
  have HC := Lib.hid hck
  clear hw9 hcw9 hok hck HBw9 HVw9 HRw9 HXw9 HSw9 HOw9
  have c7 := HX.out.cell (i := 0) (by omega)
  have f7 := HX.out.frozen 0
  have c2 := HV.out.cell (i := 0) (by omega)
  have f2 := HV.out.frozen 0
  have hs7 : w7.heap.size + 1 < wk.heap.size := by have := HSk.out; have := HS7.out; omega
  have hs2 : w.heap.size < wk.heap.size := by have := HSk.out; omega
  have hne : ¬ w7.heap.size + 1 = w.heap.size := by have := HS7.out; omega
  have hne' : ¬ w.heap.size = w7.heap.size + 1 := by have := HS7.out; omega
  by_cases hk0 : k = 0
  · subst hk0
    have HV1 : Hid (RowF (wk.setCell ⟨w7.heap.size + 1, 0, none⟩ (.slice (some ⟨w7.heap.size, 0, none⟩) 3 4)) w.heap.size 36 1 (fun _ => .slice none 0 0)) := Lib.hid (HV.out.set_other (by simp; omega) _)
    have HR1 : Hid (RowF (wk.setCell ⟨w7.heap.size + 1, 0, none⟩ (.slice (some ⟨w7.heap.size, 0, none⟩) 3 4)) w7.heap.size 76 (3 * 2) (ints [x - 4, y, x - 4 + (1 + u), y + p, x - 4 + (1 + u) + q, y + (1 + v) + 1])) := Lib.hid ((HR.out.set_other (by simp) _).less (by omega) (fun i hi => by match i, hi with | 0, _ => rfl | 1, _ => rfl | 2, _ => rfl | 3, _ => rfl | 4, _ => rfl | 5, _ => rfl))
    have HX1 : Hid (RowF (wk.setCell ⟨w7.heap.size + 1, 0, none⟩ (.slice (some ⟨w7.heap.size, 0, none⟩) 3 4)) (w7.heap.size + 1) 36 1 (fun _ => .slice (some ⟨w7.heap.size, 0, none⟩) 3 4)) := Lib.hid ((HX.out.set 0 _).congr (fun j hj => by match j, hj with | 0, _ => rfl))
    have HC1 : Hid (CurAt (wk.setCell ⟨w7.heap.size + 1, 0, none⟩ (.slice (some ⟨w7.heap.size, 0, none⟩) 3 4)) g A n c) := Lib.hid (HC.out.setOther (by have := HG.out; have := HS7.out; simp; omega) _)
    have HB1 : Hid (Bt g w (wk.setCell ⟨w7.heap.size + 1, 0, none⟩ (.slice (some ⟨w7.heap.size, 0, none⟩) 3 4))) := Lib.hid (HB.out.setCell (by have := HS7.out; simp; omega) HG.out _)
    have HS1 : Hid ((wk.setCell ⟨w7.heap.size + 1, 0, none⟩ (.slice (some ⟨w7.heap.size, 0, none⟩) 3 4)).heap.size = w.heap.size + 3) := Lib.hid (by rw [← HSk.out]; simp)
    clear HV HR HX HC HB HSk
    go_wp2_with fail
    refine (sStoneOk_any _ _ _ ([x - 4, y, x - 4 + (1 + u), y + p, x - 4 + (1 + u) + q, y + (1 + v) + 1]) _ (HR1.out.recs (by simp))).mono ?_
    rintro e w5 ⟨rfl, hb5⟩
    have HV5 := Lib.hid (HV1.out.after hb5)
    have HR5 := Lib.hid (HR1.out.after hb5)
    have HX5 := Lib.hid (HX1.out.after hb5)
    have HC5 := Lib.hid (HC1.out.after hb5)
    have HB5 := Lib.hid (HB1.out.far hb5 (by have := HS1.out; omega) HG.out)
    have HZ5 := Lib.hid hb5.size
    clear hb5 HV1 HR1 HX1 HC1 HB1 c7 f7 c2 f2
    have c7 := HX5.out.cell (i := 0) (by omega)
    have c2 := HV5.out.cell (i := 0) (by omega)
    have f2 := HV5.out.frozen 0
    have hs2 : w.heap.size < w5.heap.size := by have := HS1.out; have := HZ5.out; omega
    have hs7 : w7.heap.size + 1 < w5.heap.size := by have := HS1.out; have := HZ5.out; have := HS7.out; omega
    cases hB : stoneB ([x - 4, y, x - 4 + (1 + u), y + p, x - 4 + (1 + u) + q, y + (1 + v) + 1]) 3
    · have hne2 : ¬ w5.heap.size = w.heap.size := by omega
      go_wp2
      refine bodyPost_ret (v := .agg #[.slice (some ⟨w5.heap.size, 0, none⟩) 4 4]) (by simp [results, Try.results62, go_sem, *]) rfl ?_
      refine ⟨w5.heap.size, 4, 4, _, rfl, by omega, ⟨Nat.le_refl _, by omega⟩, (by simpa using RowF.of_row (ints_get8 (x - 4) y (x - 4 + (1 + u)) y (x - 4 + (1 + u)) (y + (1 + v)) (x - 4) (y + (1 + v)) 76 (w5.setCell ⟨w.heap.size, 0, none⟩ (.slice (some ⟨w5.heap.size, 0, none⟩) 4 4)))), rfl, rect_ok (x := x - 4) (y := y) (u := 1 + u) (v := 1 + v) (by omega) (by omega) (by omega) (by omega) (by omega) (by omega) (by omega) (by omega), ?_, ?_⟩
      · exact (HC5.out.setOther (by have := HG.out; simp; omega) _).after ((Below.refl _ _).alloc (Nat.le_refl _) _)
      · exact (HB5.out.setCell (by simp) HG.out _).alloc HG.out _
    · have HT := Lib.hid hB
      clear hB
      go_wp2
      refine bodyPost_ret (v := .agg #[.slice (some ⟨w7.heap.size, 0, none⟩) 3 4]) (by simp [results, Try.results62, go_sem, *]) rfl ?_
      refine ⟨w7.heap.size, 3, 4, _, rfl, by have := HS7.out; omega, ⟨by omega, by omega⟩, HR5.out.set_other (by have := HS7.out; simp <;> omega) _, by simp, HT.out, ?_, ?_⟩
      · exact HC5.out.setOther (by have := HG.out; simp; omega) _
      · exact HB5.out.setCell (by simp) HG.out _
  · by_cases hk1 : k = 1
    · subst hk1
      have hba : Below wk.heap.size wk (wk.alloc (.cells #[.int .i64 (x - 4 - 3), .int .i64 (y + 1)] 76)) := (Below.refl _ _).alloc (Nat.le_refl _) _
      have HVa := Lib.hid (HV.out.after hba)
      have HXa := Lib.hid (HX.out.after hba)
      have HCa := Lib.hid (HC.out.after hba)
      have HBa : Hid (Below w7.heap.size wk (wk.alloc (.cells #[.int .i64 (x - 4 - 3), .int .i64 (y + 1)] 76))) := Lib.hid (hba.mono (by have := HSk.out; have := HS7.out; omega))
      have HOa := Lib.hid (HO.out.alloc (.cells #[.int .i64 (x - 4 - 3), .int .i64 (y + 1)] 76))
      have hy0 : (wk.alloc (.cells #[.int .i64 (x - 4 - 3), .int .i64 (y + 1)] 76)).rowIs wk.heap.size 76 2 (ints [x - 4 - 3, y + 1]) := World.rowIs_alloc wk #[.int .i64 (x - 4 - 3), .int .i64 (y + 1)] 76 _ (fun j hj => by simp at hj; match j, hj with | 0, _ => rfl | 1, _ => rfl)
      have HY := Lib.hid hy0
      clear HV HR HX HC HO hba hy0
      go_wp2_with (at_builtin; refine wpList_appR2 _ rfl _ _ 34 rfl w7.heap.size 76 2 16 #[.int .i64 0, .int .i64 0] Try.underlying34 infoPointD rfl (by omega) (by decide) _ 4 [x - 4, y, x - 4 + (1 + u), y + p, x - 4 + (1 + u) + q, y + (1 + v) + 1, x - 4 - r, y + (1 + v)] rfl HOa.out wk.heap.size 1 1 [x - 4 - 3, y + 1] rfl rfl ?hc1 (by omega) w7.heap.size wk ?hc2 (by have := HG.out; have := HS7.out; omega) (by simp; omega) _ rfl (.slice none 0 0) 0 [] (OwnR.nil _ _ _ _) (ApartV.nil' _) ?_ (by omega))
      case hc1 => exact fun i hi => HY.out.cell hi
      case hc2 => exact HBa.out
      intro g' cap' wp hown hbp _ _ hkeep
      have HVp := Lib.hid (hkeep _ _ _ _ (by decide) HVa.out)
      have HXp := Lib.hid (hkeep _ _ _ _ (by decide) HXa.out)
      have HCp : Hid (CurAt wp g A n c) := Lib.hid (by obtain ⟨i, h, hi, hcc⟩ := HCa.out; exact ⟨i, h, hi, hkeep _ _ _ _ (by decide) hcc⟩)
      have HOp := Lib.hid hown
      have HBp := Lib.hid (HB.out.far hbp (by have := HS7.out; omega) HG.out)
      have hge : ¬ w7.heap.size + 1 = g' := fun e => absurd (HOp.out.typeOf (w7.heap.size + 1) (by simp [Value.ownBlock, e]) HXp.out) (by decide)
      have hge2 : ¬ w.heap.size = g' := fun e => absurd (HOp.out.typeOf w.heap.size (by simp [Value.ownBlock, e]) HVp.out) (by decide)
      have hRp : RowF wp g' 76 (5 * 2) (ints [x - 4, y, x - 4 + (1 + u), y + p, x - 4 + (1 + u) + q, y + (1 + v) + 1, x - 4 - r, y + (1 + v), x - 4 - 3, y + 1]) ∧ w7.heap.size ≤ g' ∧ 5 ≤ cap' := by
        rcases HOp.out.form with ⟨e, _⟩ | ⟨g2, cap2, e, h1, h2, h3⟩
        · simp at e
        · simp at e; obtain ⟨rfl, rfl⟩ := e; exact ⟨h3, h1, h2⟩
      obtain ⟨hR5, hg5, hcap⟩ := hRp
      have hcap2 : cap' ≤ 9223372036854775807 := OwnR.capD HOp.out
      have HRp := Lib.hid hR5
      have HSp : Hid (w.heap.size + 3 ≤ wp.heap.size) := Lib.hid (by have := HXp.out.lt; have := HS7.out; omega)
      clear hown hbp hkeep HB HVa HXa HCa HBa HOa HY hR5
      have c7 := HXp.out.cell (i := 0) (by omega)
      have f7 := HXp.out.frozen 0
      have c2 := HVp.out.cell (i := 0) (by omega)
      have f2 := HVp.out.frozen 0
      have HV1 : Hid (RowF (wp.setCell ⟨w7.heap.size + 1, 0, none⟩ (.slice (some ⟨g', 0, none⟩) 5 cap')) w.heap.size 36 1 (fun _ => .slice none 0 0)) := Lib.hid (HVp.out.set_other (by simp; omega) _)
      have HR1 : Hid (RowF (wp.setCell ⟨w7.heap.size + 1, 0, none⟩ (.slice (some ⟨g', 0, none⟩) 5 cap')) g' 76 (5 * 2) (ints [x - 4, y, x - 4 + (1 + u), y + p, x - 4 + (1 + u) + q, y + (1 + v) + 1, x - 4 - r, y + (1 + v), x - 4 - 3, y + 1])) := Lib.hid (HRp.out.set_other (by simp; omega) _)
      have HX1 : Hid (RowF (wp.setCell ⟨w7.heap.size + 1, 0, none⟩ (.slice (some ⟨g', 0, none⟩) 5 cap')) (w7.heap.size + 1) 36 1 (fun _ => .slice (some ⟨g', 0, none⟩) 5 cap')) := Lib.hid ((HXp.out.set 0 _).congr (fun j hj => by match j, hj with | 0, _ => rfl))
      have HC1 : Hid (CurAt (wp.setCell ⟨w7.heap.size + 1, 0, none⟩ (.slice (some ⟨g', 0, none⟩) 5 cap')) g A n c) := Lib.hid (HCp.out.setOther (by have := HG.out; have := HS7.out; simp; omega) _)
      have HB1 : Hid (Bt g w (wp.setCell ⟨w7.heap.size + 1, 0, none⟩ (.slice (some ⟨g', 0, none⟩) 5 cap'))) := Lib.hid (HBp.out.setCell (by have := HS7.out; simp; omega) HG.out _)
      have HS1 : Hid (w.heap.size + 3 ≤ (wp.setCell ⟨w7.heap.size + 1, 0, none⟩ (.slice (some ⟨g', 0, none⟩) 5 cap')).heap.size) := Lib.hid (by simpa using HSp.out)
      clear HVp HRp HXp HCp HBp HSp HOp HSk
      go_wp2_with fail
      refine (sStoneOk_any _ _ _ ([x - 4, y, x - 4 + (1 + u), y + p, x - 4 + (1 + u) + q, y + (1 + v) + 1, x - 4 - r, y + (1 + v), x - 4 - 3, y + 1]) _ (HR1.out.recs (by simp))).mono ?_
      rintro e w5 ⟨rfl, hb5⟩
      have HV5 := Lib.hid (HV1.out.after hb5)
      have HR5 := Lib.hid (HR1.out.after hb5)
      have HX5 := Lib.hid (HX1.out.after hb5)
      have HC5 := Lib.hid (HC1.out.after hb5)
      have HB5 := Lib.hid (HB1.out.far hb5 (by have := HS1.out; omega) HG.out)
      have HZ5 := Lib.hid hb5.size
      clear hb5 HV1 HR1 HX1 HC1 HB1 c7 f7 c2 f2
      have c7 := HX5.out.cell (i := 0) (by omega)
      have c2 := HV5.out.cell (i := 0) (by omega)
      have f2 := HV5.out.frozen 0
      have hs2 : w.heap.size < w5.heap.size := by have := HS1.out; have := HZ5.out; omega
      have hs7 : w7.heap.size + 1 < w5.heap.size := by have := HS1.out; have := HZ5.out; have := HS7.out; omega
      cases hB : stoneB ([x - 4, y, x - 4 + (1 + u), y + p, x - 4 + (1 + u) + q, y + (1 + v) + 1, x - 4 - r, y + (1 + v), x - 4 - 3, y + 1]) 5
      · have hne2 : ¬ w5.heap.size = w.heap.size := by omega
        go_wp2
        refine bodyPost_ret (v := .agg #[.slice (some ⟨w5.heap.size, 0, none⟩) 4 4]) (by simp [results, Try.results62, go_sem, *]) rfl ?_
        refine ⟨w5.heap.size, 4, 4, _, rfl, by omega, ⟨Nat.le_refl _, by omega⟩, (by simpa using RowF.of_row (ints_get8 (x - 4) y (x - 4 + (1 + u)) y (x - 4 + (1 + u)) (y + (1 + v)) (x - 4) (y + (1 + v)) 76 (w5.setCell ⟨w.heap.size, 0, none⟩ (.slice (some ⟨w5.heap.size, 0, none⟩) 4 4)))), rfl, rect_ok (x := x - 4) (y := y) (u := 1 + u) (v := 1 + v) (by omega) (by omega) (by omega) (by omega) (by omega) (by omega) (by omega) (by omega), ?_, ?_⟩
        · exact (HC5.out.setOther (by have := HG.out; simp; omega) _).after ((Below.refl _ _).alloc (Nat.le_refl _) _)
        · exact (HB5.out.setCell (by simp) HG.out _).alloc HG.out _
      · have HT := Lib.hid hB
        clear hB
        go_wp2
        refine bodyPost_ret (v := .agg #[.slice (some ⟨g', 0, none⟩) 5 cap']) (by simp [results, Try.results62, go_sem, *]) rfl ?_
        refine ⟨g', 5, cap', _, rfl, by have := HS7.out; omega, ⟨by omega, by omega⟩, HR5.out.set_other (by have := HS7.out; simp <;> omega) _, by simp, HT.out, ?_, ?_⟩
        · exact HC5.out.setOther (by have := HG.out; simp; omega) _
        · exact HB5.out.setCell (by simp) HG.out _
    · have e0 : (k == 0) = false := by simpa using hk0
      have e1 : (k == 1) = false := by simpa using hk1
      have HV1 := HV
      have HR1 : Hid (RowF wk w7.heap.size 76 (4 * 2) (ints [x - 4, y, x - 4 + (1 + u), y + p, x - 4 + (1 + u) + q, y + (1 + v) + 1, x - 4 - r, y + (1 + v)])) := HR
      have HX1 := HX
      have HC1 := HC
      have HB1 := HB
      have HS1 := HSk
      clear HV HR HX HC HB HSk
      go_wp2_with fail
      refine (sStoneOk_any _ _ _ ([x - 4, y, x - 4 + (1 + u), y + p, x - 4 + (1 + u) + q, y + (1 + v) + 1, x - 4 - r, y + (1 + v)]) _ (HR1.out.recs (by simp))).mono ?_
      rintro e w5 ⟨rfl, hb5⟩
      have HV5 := Lib.hid (HV1.out.after hb5)
      have HR5 := Lib.hid (HR1.out.after hb5)
      have HX5 := Lib.hid (HX1.out.after hb5)
      have HC5 := Lib.hid (HC1.out.after hb5)
      have HB5 := Lib.hid (HB1.out.far hb5 (by have := HS1.out; omega) HG.out)
      have HZ5 := Lib.hid hb5.size
      clear hb5 HV1 HR1 HX1 HC1 HB1 c7 f7 c2 f2
      have c7 := HX5.out.cell (i := 0) (by omega)
      have c2 := HV5.out.cell (i := 0) (by omega)
      have f2 := HV5.out.frozen 0
      have hs2 : w.heap.size < w5.heap.size := by have := HS1.out; have := HZ5.out; omega
      have hs7 : w7.heap.size + 1 < w5.heap.size := by have := HS1.out; have := HZ5.out; have := HS7.out; omega
      cases hB : stoneB ([x - 4, y, x - 4 + (1 + u), y + p, x - 4 + (1 + u) + q, y + (1 + v) + 1, x - 4 - r, y + (1 + v)]) 4
      · have hne2 : ¬ w5.heap.size = w.heap.size := by omega
        go_wp2
        refine bodyPost_ret (v := .agg #[.slice (some ⟨w5.heap.size, 0, none⟩) 4 4]) (by simp [results, Try.results62, go_sem, *]) rfl ?_
        refine ⟨w5.heap.size, 4, 4, _, rfl, by omega, ⟨Nat.le_refl _, by omega⟩, (by simpa using RowF.of_row (ints_get8 (x - 4) y (x - 4 + (1 + u)) y (x - 4 + (1 + u)) (y + (1 + v)) (x - 4) (y + (1 + v)) 76 (w5.setCell ⟨w.heap.size, 0, none⟩ (.slice (some ⟨w5.heap.size, 0, none⟩) 4 4)))), rfl, rect_ok (x := x - 4) (y := y) (u := 1 + u) (v := 1 + v) (by omega) (by omega) (by omega) (by omega) (by omega) (by omega) (by omega) (by omega), ?_, ?_⟩
        · exact (HC5.out.setOther (by have := HG.out; simp; omega) _).after ((Below.refl _ _).alloc (Nat.le_refl _) _)
        · exact (HB5.out.setCell (by simp) HG.out _).alloc HG.out _
      · have HT := Lib.hid hB
        clear hB
        go_wp2
        refine bodyPost_ret (v := .agg #[.slice (some ⟨w7.heap.size, 0, none⟩) 4 4]) (by simp [results, Try.results62, go_sem, *]) rfl ?_
        refine ⟨w7.heap.size, 4, 4, _, rfl, by have := HS7.out; omega, ⟨by omega, by omega⟩, HR5.out.set_other (by have := HS7.out; simp <;> omega) _, by simp, HT.out, ?_, ?_⟩
        · exact HC5.out.setOther (by have := HG.out; simp; omega) _
        · exact HB5.out.setCell (by simp) HG.out _

end Go.Proofs.Ytplabaneihjcoaa
