/-
  Contract: rowsFor in the program: the conditions that an arch with weights lays down.
-/
import Derived.Test.YtbcgckdjbabdjaaWRowB
import Derived.Test.YtbcgckdjbabdjaaStepR
namespace Go.Proofs.Ytbcgckdjbabdjaa
open Go.RowKit
set_option linter.unusedSimpArgs false

theorem infoRow : (Try.prog.info? 92).map (fun i => (i.zero, i.size, i.bytes)) = some (some (.agg #[.int .i64 0, .int .i64 0, .int .i64 0, .int .i64 0]), 4, 32) := by kernel_rfl
theorem OwnR.weaken {w : World} {base base' : Nat} {E : TypeId} {K n : Nat} {v : Value} {xs : List Int} (h : OwnR w base E K v n xs) (hb : base' ≤ base) : OwnR w base' E K v n xs := by
  refine ⟨⟨h.1.1, ?_⟩, h.2⟩
  rcases h.1.2 with h2 | ⟨g, cap, cur, h1, h2, h3⟩
  · exact .inl h2
  · exact .inr ⟨g, cap, cur, h1, Nat.le_trans hb h2, h3⟩
/-- Two cells outside the row turn. -/
theorem OwnR.set2 {w : World} {base : Nat} {E : TypeId} {K n : Nat} {v : Value} {xs : List Int} (h : OwnR w base E K v n xs) (p q : Addr) (x y : Value) (hp : p.block < base) (hq : q.block < base) : OwnR ((w.setCell p x).setCell q y) base E K v n xs := by
  refine ⟨⟨h.1.1, ?_⟩, h.2⟩
  rcases h.1.2 with h2 | ⟨g, cap, cur, h1, h2, h3, hr⟩
  · exact .inl h2
  · refine .inr ⟨g, cap, cur, h1, h2, ?_, hr⟩
    rw [Below.heap_setCell _ q y g (by omega), Below.heap_setCell _ p x g (by omega)]
    exact h3
/-- The call returns m rows, flattened to L, in memory of its own. -/
def RowsPost (w : World) (m : Nat) (L : List Int) (e : Ending) (w' : World) : Prop :=
  ∃ v, e = .returned v ∧ OwnR w' w.heap.size 92 4 v m L ∧ Below w.heap.size w w'
theorem sum_past {xs : List Int} {k : Nat} (hl : xs.length = k * 2) : sumW xs (k + 1) = sumW xs k ∧ sumM xs (k + 1) = sumM xs k := by
  have h1 : nth xs (k * 2) = 0 := by simp [nth, List.getD, List.getElem?_eq_none (show xs.length ≤ k * 2 by omega)]
  have h2 : nth xs (k * 2 + 1) = 0 := by simp [nth, List.getD, List.getElem?_eq_none (show xs.length ≤ k * 2 + 1 by omega)]
  exact ⟨by simp [sumW, h1], by simp [sumM, h2]⟩
/-- The loop's state: the boxes of the arch and of the sums, the rows so far. -/
structure RFor (w wr : World) (va : Value) (zs xs : List Int) (k : Nat) (v5 : Value) : Prop where
  arch : RowF wr w.heap.size 31 1 (fun _ => va)
  left : RowF wr (w.heap.size + 1) 103 2 (ints [sumW xs k, sumM xs k])
  own : OwnR wr (w.heap.size + 2) 92 4 v5 (k * 2) (rowTo zs (sumW xs) (sumM xs) k)
  below : Below w.heap.size w wr
theorem rfor_start (w : World) (va : Value) (zs xs : List Int) : RFor w ((w.alloc (.cells #[va] 31)).alloc (.cells #[.int .i64 0, .int .i64 0] 103)) va zs xs 0 (.slice none 0 0) := by
  refine ⟨(RowF.of_row (World.rowIs_alloc w #[va] _ (fun _ => va) (fun i hi => by simp at hi; subst hi; rfl))).alloc _, ?_, OwnR.nil _ _ _ _, ((Below.refl _ _).alloc (Nat.le_refl _) _).alloc (by simp) _⟩
  have h := RowF.of_row (World.rowIs_alloc (w.alloc (.cells #[va] 31)) #[.int .i64 0, .int .i64 0] 103 (ints [0, 0]) (fun i hi => by simp at hi; match i, hi with | 0, _ => rfl | 1, _ => rfl))
  rw [World.size_alloc] at h
  exact h
theorem RFor.drew {w wr : World} {va : Value} {zs xs : List Int} {k : Nat} {v5 : Value} (h : RFor w wr va zs xs k v5) : RFor w wr.drew va zs xs k v5 := ⟨h.arch.drew, h.left.drew, h.own.drew, h.below.drew⟩
theorem rowC_new4 (w : World) (a b c d : Int) (T : TypeId) : RowF (w.alloc (.cells #[.int .i64 a, .int .i64 b, .int .i64 c, .int .i64 d] T)) w.heap.size T 4 (ints [a, b, c, d]) :=
  RowF.of_row (World.rowIs_alloc w #[.int .i64 a, .int .i64 b, .int .i64 c, .int .i64 d] T _ (fun j hj => by simp at hj; match j, hj with | 0, _ => rfl | 1, _ => rfl | 2, _ => rfl | 3, _ => rfl))
theorem rowC_new8 (w : World) (a b c d e f g h : Int) (T : TypeId) : RowF (w.alloc (.cells #[.int .i64 a, .int .i64 b, .int .i64 c, .int .i64 d, .int .i64 e, .int .i64 f, .int .i64 g, .int .i64 h] T)) w.heap.size T 8 (ints [a, b, c, d, e, f, g, h]) :=
  RowF.of_row (World.rowIs_alloc w #[.int .i64 a, .int .i64 b, .int .i64 c, .int .i64 d, .int .i64 e, .int .i64 f, .int .i64 g, .int .i64 h] T _ (fun j hj => by simp at hj; match j, hj with | 0, _ => rfl | 1, _ => rfl | 2, _ => rfl | 3, _ => rfl | 4, _ => rfl | 5, _ => rfl | 6, _ => rfl | 7, _ => rfl))
theorem jWraps {ix iy ox oy w m : Int} (h : JBd ix iy ox oy w m) : IntKind.i64.wrap (-ix) = -ix ∧ IntKind.i64.wrap (-oy) = -oy ∧ IntKind.i64.wrap (ix * w) = ix * w ∧ IntKind.i64.wrap (m - ix * w) = m - ix * w ∧ IntKind.i64.wrap (ox * w) = ox * w ∧ IntKind.i64.wrap (ox * w - m) = ox * w - m := by
  obtain ⟨h1, h2, h3, h4, h5, h6⟩ := h
  exact ⟨IntWalk.i64_in _ (by omega), IntWalk.i64_in _ (by omega), IntWalk.i64_in _ (by omega), IntWalk.i64_in _ (by omega), IntWalk.i64_in _ (by omega), IntWalk.i64_in _ (by omega)⟩

set_option maxRecDepth 100000 in
set_option maxHeartbeats 3200000 in
theorem rowsFor_any (A : Option Addr) (n c : Nat) (zs : List Int) (B : Option Addr) (d : Nat) (xs : List Int) (w : World) (h : RecsAt w w.heap.size 4 A n zs) (hs : RecsAt w w.heap.size 2 B (n - 1) xs) (hA : archB zs n = true) (hb : WMok (sumW xs) (sumM xs) n) :
    Calls Try.prog 61 #[.agg #[.slice A n c], .slice B (n - 1) d] w (RowsPost w (n * 2 + 1) (rowsL zs (sumW xs) (sumM xs) n)) := by
  have hn8 := (archB_out hA).1
  obtain ⟨m, rfl⟩ : ∃ m, n = m + 1 := ⟨n - 1, by omega⟩
  rw [Nat.add_sub_cancel] at hs ⊢
  obtain ⟨b, off, rfl, hbB, hcell⟩ := h.2 (by omega)
  obtain ⟨bs, offs, rfl, hbS, hcs⟩ := hs.2 (by omega)
  have HC := Lib.hid (fun j (hj : j < m + 1) => jtCells hcell hj)
  have HCS := Lib.hid hcs
  have HPAST := Lib.hid (sum_past hs.1)
  have HB := Lib.hid hb
  have HJB := Lib.hid (fun k (hk : k < m + 1) => jBd_of hA hb hk)
  have HOK := Lib.hid (allB_t (rowsL_ok hA hb))
  have ST := Lib.hid (rfor_start w (.slice (some ⟨b, off, none⟩) (m + 1) c) zs xs)
  have hz0 : ((w.alloc (.cells #[.slice (some ⟨b, off, none⟩) (m + 1) c] 31)).alloc (.cells #[.int .i64 0, .int .i64 0] 103)).heap.size = w.heap.size + 1 + 1 := by simp
  clear hcell hcs h hs hA hb
  go_enter Try.func61, Try.ntmps61
  go_wp2
  go_loopw [5, 12] (fun v5 v12 wr => ∃ (k : Nat), k ≤ m + 1 ∧ v12 = .int .i64 k ∧ Hid (RFor w wr (.slice (some ⟨b, off, none⟩) (m + 1) c) zs xs k v5)) (fun _ v12 _ => m + 1 - (intOf v12).toNat)
  case atStart => exact ⟨0, Nat.zero_le _, rfl, ST⟩
  case round =>
    clear ST
    obtain ⟨k, hk, rfl, HR⟩ := hrel
    have hz := HR.out.below.size
    have hll := HR.out.left.lt
    by_cases hlt : k < m + 1
    · have ki : (k : Int) < ((m + 1 : Nat) : Int) := by omega
      have k0 : (0 : Int) ≤ (k : Int) := by omega
      have a0 : wr.cell? ⟨w.heap.size, 0, none⟩ = some (.slice (some ⟨b, off, none⟩) (m + 1) c) := HR.out.arch.cell (by omega)
      have hq := HC.out k hlt
      have x0 : wr.cell? ⟨b, off + k * 4, none⟩ = some (.int .i64 (nth zs (k * 4))) := (HR.out.below.cell (by exact hbB)).trans hq.1
      have x1 : wr.cell? ⟨b, off + k * 4 + 1, none⟩ = some (.int .i64 (nth zs (k * 4 + 1))) := (HR.out.below.cell (by exact hbB)).trans hq.2.1
      have x2 : wr.cell? ⟨b, off + k * 4 + 2, none⟩ = some (.int .i64 (nth zs (k * 4 + 2))) := (HR.out.below.cell (by exact hbB)).trans hq.2.2.1
      have x3 : wr.cell? ⟨b, off + k * 4 + 3, none⟩ = some (.int .i64 (nth zs (k * 4 + 3))) := (HR.out.below.cell (by exact hbB)).trans hq.2.2.2
      have HX : Hid (rowTo zs (sumW xs) (sumM xs) k ++ [nth zs (k * 4 + 1), -nth zs (k * 4), 1, sumM xs k - nth zs (k * 4) * sumW xs k, -nth zs (k * 4 + 3), nth zs (k * 4 + 2), -1, nth zs (k * 4 + 2) * sumW xs k - sumM xs k] = rowTo zs (sumW xs) (sumM xs) (k + 1)) := rfl
      obtain ⟨e1, e2, e3, e4, e5, e6⟩ := jWraps (HJB.out k hlt)
      have HSW : Hid (∀ a b, sumW xs k = a → sumM xs k = b → sumW xs (k + 1) = a + nth xs (k * 2) ∧ sumM xs (k + 1) = b + nth xs (k * 2 + 1)) := fun a b h1 h2 => by subst h1; subst h2; exact ⟨rfl, rfl⟩
      have HL := Lib.hid HR.out.left
      have HO := Lib.hid HR.out.own
      have HAr := Lib.hid HR.out.arch
      have HBl := Lib.hid HR.out.below
      clear hq HR
      generalize hWk : sumW xs k = lw at *
      generalize hMk : sumM xs k = lm at *
      have HWM := Lib.hid (HSW.out _ _ rfl rfl)
      have HWk := Lib.hid hWk
      have HMk := Lib.hid hMk
      clear HSW hWk hMk
      generalize nth zs (k * 4) = ix at *
      generalize nth zs (k * 4 + 1) = iy at *
      generalize nth zs (k * 4 + 2) = ox at *
      generalize nth zs (k * 4 + 3) = oy at *
      obtain ⟨⟨z0, z1, z2, z3⟩, _⟩ := Box4.new wr ix iy ox oy 90
      have hla := HL.out.alloc (.cells #[.int .i64 ix, .int .i64 iy, .int .i64 ox, .int .i64 oy] 90)
      have l0 : (wr.alloc (.cells #[.int .i64 ix, .int .i64 iy, .int .i64 ox, .int .i64 oy] 90)).cell? ⟨w.heap.size + 1, 0, none⟩ = some (.int .i64 lw) := hla.cell (by omega)
      have l1 : (wr.alloc (.cells #[.int .i64 ix, .int .i64 iy, .int .i64 ox, .int .i64 oy] 90)).cell? ⟨w.heap.size + 1, 1, none⟩ = some (.int .i64 lm) := hla.cell (by omega)
      clear hla
      have HBA := Lib.hid (((Below.refl (w.heap.size + 2) wr).alloc (by omega) (.cells #[.int .i64 ix, .int .i64 iy, .int .i64 ox, .int .i64 oy] 90)).alloc (by simp; omega) (.cells #[.int .i64 iy, .int .i64 (-ix), .int .i64 1, .int .i64 (lm - ix * lw), .int .i64 (-oy), .int .i64 ox, .int .i64 (-1), .int .i64 (ox * lw - lm)] 92))
      have HOA := Lib.hid ((HO.out.alloc (.cells #[.int .i64 ix, .int .i64 iy, .int .i64 ox, .int .i64 oy] 90)).alloc (.cells #[.int .i64 iy, .int .i64 (-ix), .int .i64 1, .int .i64 (lm - ix * lw), .int .i64 (-oy), .int .i64 ox, .int .i64 (-1), .int .i64 (ox * lw - lm)] 92))
      have HCN : Hid (∀ i, i < 2 * 4 → ((wr.alloc (.cells #[.int .i64 ix, .int .i64 iy, .int .i64 ox, .int .i64 oy] 90)).alloc (.cells #[.int .i64 iy, .int .i64 (-ix), .int .i64 1, .int .i64 (lm - ix * lw), .int .i64 (-oy), .int .i64 ox, .int .i64 (-1), .int .i64 (ox * lw - lm)] 92)).cell? ⟨wr.heap.size + 1, i, none⟩ = some (.int .i64 (nth [iy, -ix, 1, lm - ix * lw, -oy, ox, -1, ox * lw - lm] i))) := by
        intro i hi
        have h := rowC_new8 (wr.alloc (.cells #[.int .i64 ix, .int .i64 iy, .int .i64 ox, .int .i64 oy] 90)) iy (-ix) 1 (lm - ix * lw) (-oy) ox (-1) (ox * lw - lm) 92
        rw [World.size_alloc] at h
        exact h.cell hi
      have hW0 : w.heap.size + 2 ≤ ((wr.alloc (.cells #[.int .i64 ix, .int .i64 iy, .int .i64 ox, .int .i64 oy] 90)).alloc (.cells #[.int .i64 iy, .int .i64 (-ix), .int .i64 1, .int .i64 (lm - ix * lw), .int .i64 (-oy), .int .i64 ox, .int .i64 (-1), .int .i64 (ox * lw - lm)] 92)).heap.size := by simp; omega
      by_cases hkm : k < m
      · have hkm' : (k : Int) < (m : Int) := by omega
        go_wp2_with (at_builtin; refine wpList_appR _ rfl (.tmp 17) (.tmp 52) 27 rfl (w.heap.size + 2) 92 4 32 #[.int .i64 0, .int .i64 0, .int .i64 0, .int .i64 0] Try.underlying27 infoRow rfl (by decide) (by decide) _ (k * 2) _ rfl (by exact HOA.out) (wr.heap.size + 1) 2 2 [iy, -ix, 1, lm - ix * lw, -oy, ox, -1, ox * lw - lm] rfl rfl (by exact HCN.out) (by omega) (w.heap.size + 2) wr (by exact HBA.out) (Nat.le_refl _) hW0 _ HX.out ?_ (by omega); intro g' cap' w3 hown3 hb3)
        have HAr3 := Lib.hid (HAr.out.below hb3 (by omega))
        have hl3 := HL.out.below hb3 (by omega)
        have HL3 := Lib.hid hl3
        have HBl3 := Lib.hid (HBl.out.trans (hb3.mono (by omega)))
        have HO3 := Lib.hid (show OwnR w3 (w.heap.size + 2) 92 4 (.slice (some ⟨g', 0, none⟩) (k * 2 + 2) cap') ((k + 1) * 2) (rowTo zs (sumW xs) (sumM xs) (k + 1)) by rw [show (k + 1) * 2 = k * 2 + 2 by omega]; exact hown3)
        have hz3 : wr.heap.size ≤ w3.heap.size := hb3.size
        clear x0 x1 x2 x3 z0 z1 z2 z3 l0 l1 a0 hown3 e1 e2 e3 e4 e5 e6
        have hc1 := HCS.out (k * 2) (by omega)
        have hc2 := HCS.out (k * 2 + 1) (by omega)
        have s0 : w3.cell? ⟨bs, offs + k * 2, none⟩ = some (.int .i64 (nth xs (k * 2))) := (HBl3.out.cell (by exact hbS)).trans hc1
        have s1 : w3.cell? ⟨bs, offs + k * 2 + 1, none⟩ = some (.int .i64 (nth xs (k * 2 + 1))) := (HBl3.out.cell (by exact hbS)).trans hc2
        have l0 : w3.cell? ⟨w.heap.size + 1, 0, none⟩ = some (.int .i64 lw) := hl3.cell (by omega)
        have l1 : w3.cell? ⟨w.heap.size + 1, 1, none⟩ = some (.int .i64 lm) := hl3.cell (by omega)
        have f0 := hl3.frozen 0
        have f1 := hl3.frozen 1
        have hbd := HB.out (k + 1) (by omega)
        rw [HWM.out.1, HWM.out.2] at hbd
        have ne1 : ¬ bs = w.heap.size + 1 := by omega
        have es1 : IntKind.i64.wrap (lw + nth xs (k * 2)) = lw + nth xs (k * 2) := IntWalk.i64_in _ (by omega)
        have es2 : IntKind.i64.wrap (lm + nth xs (k * 2 + 1)) = lm + nth xs (k * 2 + 1) := IntWalk.i64_in _ (by omega)
        generalize nth xs (k * 2) = sw at *
        generalize nth xs (k * 2 + 1) = sm at *
        clear hl3 hc1 hc2 hb3
        have hlA := HL3.out.set 0 (.int .i64 (lw + sw))
        have l1' : (w3.setCell ⟨w.heap.size + 1, 0, none⟩ (.int .i64 (lw + sw))).cell? ⟨w.heap.size + 1, 1, none⟩ = some (.int .i64 lm) := by
          have h := hlA.cell (i := 1) (by omega)
          exact h
        have s1' : (w3.setCell ⟨w.heap.size + 1, 0, none⟩ (.int .i64 (lw + sw))).cell? ⟨bs, offs + k * 2 + 1, none⟩ = some (.int .i64 sm) := (World.cell?_setCell_far _ _ _ _ (by simp; omega)).trans s1
        have f1' : (w3.setCell ⟨w.heap.size + 1, 0, none⟩ (.int .i64 (lw + sw))).frozen? ⟨w.heap.size + 1, 1, none⟩ = false := hlA.frozen 1
        have HF : Hid (RFor w ((w3.setCell ⟨w.heap.size + 1, 0, none⟩ (.int .i64 (lw + sw))).drew.setCell ⟨w.heap.size + 1, 1, none⟩ (.int .i64 (lm + sm))) (.slice (some ⟨b, off, none⟩) (m + 1) c) zs xs (k + 1) (.slice (some ⟨g', 0, none⟩) (k * 2 + 2) cap')) := by
          have hcg : Below (w.heap.size + 2) w3 w3 := Below.refl _ _
          refine ⟨(HAr3.out.set_other (by simp) _).set_other (by simp) _, ?_, ?_, (HBl3.out.setCell (by simp) _).drew.setCell (by simp) _⟩
          · rw [HWM.out.1, HWM.out.2]
            exact (hlA.set 1 (.int .i64 (lm + sm))).congr (fun i hi => by match i, hi with | 0, _ => rfl | 1, _ => rfl)
          · exact HO3.out.set2 _ _ _ _ (by simp) (by simp)
        clear hlA
        go_wp2
        go_region_law (fail)
        all_goals
          go_wp2
          generalize hWZ : (w3.setCell ⟨w.heap.size + 1, 0, none⟩ (.int .i64 (lw + sw))) = wz at *
          go_region_law (fail)
          all_goals
            go_wp2
            go_roundw
            case rel => exact ⟨k + 1, by omega, by go_num, Lib.hid HF.out.drew⟩
            case measure => simp [intOf]; omega
      · obtain rfl : k = m := by omega
        go_wp2_with (at_builtin; refine wpList_appR _ rfl (.tmp 17) (.tmp 52) 27 rfl (w.heap.size + 2) 92 4 32 #[.int .i64 0, .int .i64 0, .int .i64 0, .int .i64 0] Try.underlying27 infoRow rfl (by decide) (by decide) _ (k * 2) _ rfl (by exact HOA.out) (wr.heap.size + 1) 2 2 [iy, -ix, 1, lm - ix * lw, -oy, ox, -1, ox * lw - lm] rfl rfl (by exact HCN.out) (by omega) (w.heap.size + 2) wr (by exact HBA.out) (Nat.le_refl _) hW0 _ HX.out ?_ (by omega); intro g' cap' w3 hown3 hb3)
        have HAr3 := Lib.hid (HAr.out.below hb3 (by omega))
        have hl3 := HL.out.below hb3 (by omega)
        have HL3 := Lib.hid hl3
        have HBl3 := Lib.hid (HBl.out.trans (hb3.mono (by omega)))
        have HO3 := Lib.hid (show OwnR w3 (w.heap.size + 2) 92 4 (.slice (some ⟨g', 0, none⟩) (k * 2 + 2) cap') ((k + 1) * 2) (rowTo zs (sumW xs) (sumM xs) (k + 1)) by rw [show (k + 1) * 2 = k * 2 + 2 by omega]; exact hown3)
        have hz3 : wr.heap.size ≤ w3.heap.size := hb3.size
        clear x0 x1 x2 x3 z0 z1 z2 z3 l0 l1 a0 hown3 e1 e2 e3 e4 e5 e6
        have HF : Hid (RFor w w3 (.slice (some ⟨b, off, none⟩) (k + 1) c) zs xs (k + 1) (.slice (some ⟨g', 0, none⟩) (k * 2 + 2) cap')) :=
          ⟨HAr3.out, by rw [HPAST.out.1, HPAST.out.2, HWk.out, HMk.out]; exact HL3.out, HO3.out, HBl3.out⟩
        clear hl3 hb3
        go_wp2
        go_roundw
        case rel => exact ⟨k + 1, by omega, by go_num, HF⟩
        case measure => first | (simp [intOf]; done) | (simp [intOf]; omega)
    · obtain rfl : k = m + 1 := by omega
      have HU : Hid (rowTo zs (sumW xs) (sumM xs) (m + 1) ++ [-1, 0, 0, 0] = rowsL zs (sumW xs) (sumM xs) (m + 1)) := rfl
      have HO := Lib.hid (HR.out.own.alloc (.cells #[.int .i64 (-1), .int .i64 0, .int .i64 0, .int .i64 0] 92))
      have HBA := Lib.hid (HR.out.below.alloc hz (.cells #[.int .i64 (-1), .int .i64 0, .int .i64 0, .int .i64 0] 92))
      have HCN : Hid (∀ i, i < 1 * 4 → (wr.alloc (.cells #[.int .i64 (-1), .int .i64 0, .int .i64 0, .int .i64 0] 92)).cell? ⟨wr.heap.size, i, none⟩ = some (.int .i64 (nth [-1, 0, 0, 0] i))) := fun i hi => (rowC_new4 wr (-1) 0 0 0 92).cell hi
      go_wp2_with (at_builtin; refine wpList_appR _ rfl (.tmp 77) (.tmp 79) 27 rfl (w.heap.size + 2) 92 4 32 #[.int .i64 0, .int .i64 0, .int .i64 0, .int .i64 0] Try.underlying27 infoRow rfl (by decide) (by decide) _ ((m + 1) * 2) _ rfl (by exact HO.out) wr.heap.size 1 1 [-1, 0, 0, 0] rfl rfl (by exact HCN.out) (by omega) w.heap.size w (by exact HBA.out) (by omega) (by simp; omega) _ HU.out ?_ (by omega); intro g' cap' w3 hown3 hb3)
      have HO3 := Lib.hid hown3
      have HB3 := Lib.hid hb3
      clear hown3 hb3
      go_wp2_with fail
      refine (rowsOk_any _ _ _ _ _ (by exact HO3.out.recs) (by omega)).mono ?_
      rw [HOK.out]
      rintro e w4 ⟨rfl, hb4⟩
      have HO4 := Lib.hid (HO3.out.below hb4)
      have HB4 := Lib.hid (HB3.out.trans (hb4.mono HB3.out.size))
      clear hb4
      go_wp2
      go_ret
      exact ⟨_, rfl, HO4.out.weaken (by omega), HB4.out⟩
end Go.Proofs.Ytbcgckdjbabdjaa
