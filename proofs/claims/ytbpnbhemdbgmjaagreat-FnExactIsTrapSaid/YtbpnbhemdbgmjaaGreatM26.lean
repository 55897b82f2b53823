/-
  Texts that the law stands on, part 26.
-/
import Derived.Test.YtbpnbhemdbgmjaaGreatM13
import Derived.Test.YtbpnbhemdbgmjaaGreatM22
import Derived.Test.YtbpnbhemdbgmjaaGreatM25
import Derived.Deep.RegionLaw
import Derived.BigRegion
section
namespace Go.Proofs.YtbpnbhemdbgmjaaGreat.X
open Go.RowKit
set_option linter.unusedSimpArgs false
theorem infoRow : (Tryzx.prog.info? 65).map (fun i => (i.zero, i.size, i.bytes)) = some (some (.agg #[.int .i64 0, .int .i64 0, .int .i64 0, .int .i64 0]), 4, 32) := by kernel_rfl
def RowsPost (w : World) (m : Nat) (L : List Int) (e : Ending) (w' : World) : Prop :=
  ∃ v, e = .returned v ∧ OwnR w' w.heap.size 65 4 v m L ∧ Below w.heap.size w w'
def RowsPostN (w : World) (m : Nat) (L : List Int) (e : Ending) (w' : World) : Prop := RowsPost w m L e w' ∧ (m = 0 → e = .returned (.slice none 0 0))
theorem sum_past {xs : List Int} {k : Nat} (hl : xs.length = k * 2) : sumW xs (k + 1) = sumW xs k ∧ sumM xs (k + 1) = sumM xs k := by
  have h1 : nth xs (k * 2) = 0 := by simp [nth, List.getD, List.getElem?_eq_none (show xs.length ≤ k * 2 by omega)]
  have h2 : nth xs (k * 2 + 1) = 0 := by simp [nth, List.getD, List.getElem?_eq_none (show xs.length ≤ k * 2 + 1 by omega)]
  exact ⟨by simp [sumW, h1], by simp [sumM, h2]⟩
structure RFor (w wr : World) (va : Value) (zs xs : List Int) (k : Nat) (v5 : Value) : Prop where
  arch : RowF wr w.heap.size 26 1 (fun _ => va)
  left : RowF wr (w.heap.size + 1) 105 2 (ints [sumW xs k, sumM xs k])
  own : OwnR wr (w.heap.size + 2) 65 4 v5 (k * 2) (rowTo zs (sumW xs) (sumM xs) k)
  below : Below w.heap.size w wr
theorem rfor_start (w : World) (va : Value) (zs xs : List Int) : RFor w ((w.alloc (.cells #[va] 26)).alloc (.cells #[.int .i64 0, .int .i64 0] 105)) va zs xs 0 (.slice none 0 0) := by
  refine ⟨(RowF.of_row (World.rowIs_alloc w #[va] _ (fun _ => va) (fun i hi => by simp at hi; subst hi; rfl))).alloc _, ?_, OwnR.nil _ _ _ _, ((Below.refl _ _).alloc (Nat.le_refl _) _).alloc (by simp) _⟩
  have h := RowF.of_row (World.rowIs_alloc (w.alloc (.cells #[va] 26)) #[.int .i64 0, .int .i64 0] 105 (ints [0, 0]) (fun i hi => by simp at hi; match i, hi with | 0, _ => rfl | 1, _ => rfl))
  rw [World.size_alloc] at h
  exact h
theorem RFor.drew {w wr : World} {va : Value} {zs xs : List Int} {k : Nat} {v5 : Value} (h : RFor w wr va zs xs k v5) : RFor w wr.drew va zs xs k v5 := ⟨h.arch.drew, h.left.drew, h.own.drew, h.below.drew⟩
theorem rowC_new4 (w : World) (a b c d : Int) (T : TypeId) : RowF (w.alloc (.cells #[.int .i64 a, .int .i64 b, .int .i64 c, .int .i64 d] T)) w.heap.size T 4 (ints [a, b, c, d]) :=
  RowF.of_row (World.rowIs_alloc w #[.int .i64 a, .int .i64 b, .int .i64 c, .int .i64 d] T _ (fun j hj => by simp at hj; match j, hj with | 0, _ => rfl | 1, _ => rfl | 2, _ => rfl | 3, _ => rfl))
theorem rowC_new8 (w : World) (a b c d e f g h : Int) (T : TypeId) : RowF (w.alloc (.cells #[.int .i64 a, .int .i64 b, .int .i64 c, .int .i64 d, .int .i64 e, .int .i64 f, .int .i64 g, .int .i64 h] T)) w.heap.size T 8 (ints [a, b, c, d, e, f, g, h]) :=
  RowF.of_row (World.rowIs_alloc w #[.int .i64 a, .int .i64 b, .int .i64 c, .int .i64 d, .int .i64 e, .int .i64 f, .int .i64 g, .int .i64 h] T _ (fun j hj => by simp at hj; match j, hj with | 0, _ => rfl | 1, _ => rfl | 2, _ => rfl | 3, _ => rfl | 4, _ => rfl | 5, _ => rfl | 6, _ => rfl | 7, _ => rfl))
theorem jWraps {ix iy ox oy w m : Int} (h : JBd ix iy ox oy w m) : IntKind.i64.wrap (-ix) = -ix ∧ IntKind.i64.wrap (-oy) = -oy ∧ IntKind.i64.wrap (ix * w) = ix * w ∧ IntKind.i64.wrap (m - ix * w) = m - ix * w ∧ IntKind.i64.wrap (ox * w) = ox * w ∧ IntKind.i64.wrap (ox * w - m) = ox * w - m := by
  obtain ⟨h1, h2, h3, h4, h5, h6⟩ := h
  exact ⟨IntWalk.i64_in _ (by omega), IntWalk.i64_in _ (by omega), IntWalk.i64_in _ (by omega), IntWalk.i64_in _ (by omega), IntWalk.i64_in _ (by omega), IntWalk.i64_in _ (by omega)⟩
set_option maxRecDepth 100000 in
set_option maxHeartbeats 3200000 in
theorem rowsFor_any (A : Option Addr) (n c : Nat) (zs : List Int) (B : Option Addr) (d : Nat) (xs : List Int) (w : World) (h : RecsAt w w.heap.size 4 A n zs) (hs : RecsAt w w.heap.size 2 B (n - 1) xs) (hA : archB zs n = true) (hb : WMok (sumW xs) (sumM xs) n) :
    Calls Tryzx.prog 91 #[.agg #[.slice A n c], .slice B (n - 1) d] w (RowsPost w (n * 2 + 1) (rowsL zs (sumW xs) (sumM xs) n)) := by
  have hn8 := (archB_out hA).1
  obtain ⟨m, rfl⟩ : ∃ m, n = m + 1 := ⟨n - 1, by omega⟩
  rw [Nat.add_sub_cancel] at hs ⊢
  obtain ⟨b, off, rfl, hbB, hcell⟩ := h.2 (by omega)
  obtain ⟨bs, offs, rfl, hbS, hcs⟩ := hs.2 (by omega)
  have HC := Lib.hid (fun j (hj : j < m + 1) => jtCells hcell hj)
  have HCS := Lib.hid hcs
  have HPAST := Lib.hid (sum_past hs.1)
  have HB := Lib.hid hb
  have HJB := Lib.hid (fun k (hk : k < m + 1) => jBd_of hA hb hk)
  have HOK := Lib.hid (allB_t (rowsL_ok hA hb))
  have ST := Lib.hid (rfor_start w (.slice (some ⟨b, off, none⟩) (m + 1) c) zs xs)
  have hz0 : ((w.alloc (.cells #[.slice (some ⟨b, off, none⟩) (m + 1) c] 26)).alloc (.cells #[.int .i64 0, .int .i64 0] 105)).heap.size = w.heap.size + 1 + 1 := by simp
  clear hcell hcs h hs hA hb
  go_enter Tryzx.func91, Tryz.ntmps91
  go_wp2
  go_loopw [5, 12] (fun v5 v12 wr => ∃ (k : Nat), k ≤ m + 1 ∧ v12 = .int .i64 k ∧ Hid (RFor w wr (.slice (some ⟨b, off, none⟩) (m + 1) c) zs xs k v5)) (fun _ v12 _ => m + 1 - (intOf v12).toNat)
  case atStart => exact ⟨0, Nat.zero_le _, rfl, ST⟩
  case round =>
    clear ST
    obtain ⟨k, hk, rfl, HR⟩ := hrel
    have hz := HR.out.below.size
    have hll := HR.out.left.lt
    by_cases hlt : k < m + 1
    · have ki : (k : Int) < ((m + 1 : Nat) : Int) := by omega
      have k0 : (0 : Int) ≤ (k : Int) := by omega
      have a0 : wr.cell? ⟨w.heap.size, 0, none⟩ = some (.slice (some ⟨b, off, none⟩) (m + 1) c) := HR.out.arch.cell (by omega)
      have hq := HC.out k hlt
      have x0 : wr.cell? ⟨b, off + k * 4, none⟩ = some (.int .i64 (nth zs (k * 4))) := (HR.out.below.cell (by exact hbB)).trans hq.1
      have x1 : wr.cell? ⟨b, off + k * 4 + 1, none⟩ = some (.int .i64 (nth zs (k * 4 + 1))) := (HR.out.below.cell (by exact hbB)).trans hq.2.1
      have x2 : wr.cell? ⟨b, off + k * 4 + 2, none⟩ = some (.int .i64 (nth zs (k * 4 + 2))) := (HR.out.below.cell (by exact hbB)).trans hq.2.2.1
      have x3 : wr.cell? ⟨b, off + k * 4 + 3, none⟩ = some (.int .i64 (nth zs (k * 4 + 3))) := (HR.out.below.cell (by exact hbB)).trans hq.2.2.2
      have HX : Hid (rowTo zs (sumW xs) (sumM xs) k ++ [nth zs (k * 4 + 1), -nth zs (k * 4), 1, sumM xs k - nth zs (k * 4) * sumW xs k, -nth zs (k * 4 + 3), nth zs (k * 4 + 2), -1, nth zs (k * 4 + 2) * sumW xs k - sumM xs k] = rowTo zs (sumW xs) (sumM xs) (k + 1)) := rfl
      obtain ⟨e1, e2, e3, e4, e5, e6⟩ := jWraps (HJB.out k hlt)
      have HSW : Hid (∀ a b, sumW xs k = a → sumM xs k = b → sumW xs (k + 1) = a + nth xs (k * 2) ∧ sumM xs (k + 1) = b + nth xs (k * 2 + 1)) := fun a b h1 h2 => by subst h1; subst h2; exact ⟨rfl, rfl⟩
      have HL := Lib.hid HR.out.left
      have HO := Lib.hid HR.out.own
      have HAr := Lib.hid HR.out.arch
      have HBl := Lib.hid HR.out.below
      clear hq HR
      generalize hWk : sumW xs k = lw at *
      generalize hMk : sumM xs k = lm at *
      have HWM := Lib.hid (HSW.out _ _ rfl rfl)
      have HWk := Lib.hid hWk
      have HMk := Lib.hid hMk
      clear HSW hWk hMk
      generalize nth zs (k * 4) = ix at *
      generalize nth zs (k * 4 + 1) = iy at *
      generalize nth zs (k * 4 + 2) = ox at *
      generalize nth zs (k * 4 + 3) = oy at *
      obtain ⟨⟨z0, z1, z2, z3⟩, _⟩ := Box4.new wr ix iy ox oy 45
      have hla := HL.out.alloc (.cells #[.int .i64 ix, .int .i64 iy, .int .i64 ox, .int .i64 oy] 45)
      have l0 : (wr.alloc (.cells #[.int .i64 ix, .int .i64 iy, .int .i64 ox, .int .i64 oy] 45)).cell? ⟨w.heap.size + 1, 0, none⟩ = some (.int .i64 lw) := hla.cell (by omega)
      have l1 : (wr.alloc (.cells #[.int .i64 ix, .int .i64 iy, .int .i64 ox, .int .i64 oy] 45)).cell? ⟨w.heap.size + 1, 1, none⟩ = some (.int .i64 lm) := hla.cell (by omega)
      clear hla
      have HBA := Lib.hid (((Below.refl (w.heap.size + 2) wr).alloc (by omega) (.cells #[.int .i64 ix, .int .i64 iy, .int .i64 ox, .int .i64 oy] 45)).alloc (by simp; omega) (.cells #[.int .i64 iy, .int .i64 (-ix), .int .i64 1, .int .i64 (lm - ix * lw), .int .i64 (-oy), .int .i64 ox, .int .i64 (-1), .int .i64 (ox * lw - lm)] 65))
      have HOA := Lib.hid ((HO.out.alloc (.cells #[.int .i64 ix, .int .i64 iy, .int .i64 ox, .int .i64 oy] 45)).alloc (.cells #[.int .i64 iy, .int .i64 (-ix), .int .i64 1, .int .i64 (lm - ix * lw), .int .i64 (-oy), .int .i64 ox, .int .i64 (-1), .int .i64 (ox * lw - lm)] 65))
      have HCN : Hid (∀ i, i < 2 * 4 → ((wr.alloc (.cells #[.int .i64 ix, .int .i64 iy, .int .i64 ox, .int .i64 oy] 45)).alloc (.cells #[.int .i64 iy, .int .i64 (-ix), .int .i64 1, .int .i64 (lm - ix * lw), .int .i64 (-oy), .int .i64 ox, .int .i64 (-1), .int .i64 (ox * lw - lm)] 65)).cell? ⟨wr.heap.size + 1, i, none⟩ = some (.int .i64 (nth [iy, -ix, 1, lm - ix * lw, -oy, ox, -1, ox * lw - lm] i))) := by
        intro i hi
        have h := rowC_new8 (wr.alloc (.cells #[.int .i64 ix, .int .i64 iy, .int .i64 ox, .int .i64 oy] 45)) iy (-ix) 1 (lm - ix * lw) (-oy) ox (-1) (ox * lw - lm) 65
        rw [World.size_alloc] at h
        exact h.cell hi
      have hW0 : w.heap.size + 2 ≤ ((wr.alloc (.cells #[.int .i64 ix, .int .i64 iy, .int .i64 ox, .int .i64 oy] 45)).alloc (.cells #[.int .i64 iy, .int .i64 (-ix), .int .i64 1, .int .i64 (lm - ix * lw), .int .i64 (-oy), .int .i64 ox, .int .i64 (-1), .int .i64 (ox * lw - lm)] 65)).heap.size := by simp; omega
      by_cases hkm : k < m
      · have hkm' : (k : Int) < (m : Int) := by omega
        go_wp2_with (at_builtin; refine wpList_appR _ rfl (.tmp 17) (.tmp 52) 61 rfl (w.heap.size + 2) 65 4 32 #[.int .i64 0, .int .i64 0, .int .i64 0, .int .i64 0] Tryzx.underlying61 infoRow rfl (by decide) (by decide) _ (k * 2) _ rfl (by exact HOA.out) (wr.heap.size + 1) 2 2 [iy, -ix, 1, lm - ix * lw, -oy, ox, -1, ox * lw - lm] rfl rfl (by exact HCN.out) (by omega) (w.heap.size + 2) wr (by exact HBA.out) (Nat.le_refl _) hW0 _ HX.out ?_ (by omega); intro g' cap' w3 hown3 hb3)
        have HAr3 := Lib.hid (HAr.out.below hb3 (by omega))
        have hl3 := HL.out.below hb3 (by omega)
        have HL3 := Lib.hid hl3
        have HBl3 := Lib.hid (HBl.out.trans (hb3.mono (by omega)))
        have HO3 := Lib.hid (show OwnR w3 (w.heap.size + 2) 65 4 (.slice (some ⟨g', 0, none⟩) (k * 2 + 2) cap') ((k + 1) * 2) (rowTo zs (sumW xs) (sumM xs) (k + 1)) by rw [show (k + 1) * 2 = k * 2 + 2 by omega]; exact hown3)
        have hz3 : wr.heap.size ≤ w3.heap.size := hb3.size
        clear x0 x1 x2 x3 z0 z1 z2 z3 l0 l1 a0 hown3 e1 e2 e3 e4 e5 e6
        have hc1 := HCS.out (k * 2) (by omega)
        have hc2 := HCS.out (k * 2 + 1) (by omega)
        have s0 : w3.cell? ⟨bs, offs + k * 2, none⟩ = some (.int .i64 (nth xs (k * 2))) := (HBl3.out.cell (by exact hbS)).trans hc1
        have s1 : w3.cell? ⟨bs, offs + k * 2 + 1, none⟩ = some (.int .i64 (nth xs (k * 2 + 1))) := (HBl3.out.cell (by exact hbS)).trans hc2
        have l0 : w3.cell? ⟨w.heap.size + 1, 0, none⟩ = some (.int .i64 lw) := hl3.cell (by omega)
        have l1 : w3.cell? ⟨w.heap.size + 1, 1, none⟩ = some (.int .i64 lm) := hl3.cell (by omega)
        have f0 := hl3.frozen 0
        have f1 := hl3.frozen 1
        have hbd := HB.out (k + 1) (by omega)
        rw [HWM.out.1, HWM.out.2] at hbd
        have ne1 : ¬ bs = w.heap.size + 1 := by omega
        have es1 : IntKind.i64.wrap (lw + nth xs (k * 2)) = lw + nth xs (k * 2) := IntWalk.i64_in _ (by omega)
        have es2 : IntKind.i64.wrap (lm + nth xs (k * 2 + 1)) = lm + nth xs (k * 2 + 1) := IntWalk.i64_in _ (by omega)
        generalize nth xs (k * 2) = sw at *
        generalize nth xs (k * 2 + 1) = sm at *
        clear hl3 hc1 hc2 hb3
        have hlA := HL3.out.set 0 (.int .i64 (lw + sw))
        have l1' : (w3.setCell ⟨w.heap.size + 1, 0, none⟩ (.int .i64 (lw + sw))).cell? ⟨w.heap.size + 1, 1, none⟩ = some (.int .i64 lm) := by
          have h := hlA.cell (i := 1) (by omega)
          exact h
        have s1' : (w3.setCell ⟨w.heap.size + 1, 0, none⟩ (.int .i64 (lw + sw))).cell? ⟨bs, offs + k * 2 + 1, none⟩ = some (.int .i64 sm) := (World.cell?_setCell_far _ _ _ _ (by simp; omega)).trans s1
        have f1' : (w3.setCell ⟨w.heap.size + 1, 0, none⟩ (.int .i64 (lw + sw))).frozen? ⟨w.heap.size + 1, 1, none⟩ = false := hlA.frozen 1
        have HF : Hid (RFor w ((w3.setCell ⟨w.heap.size + 1, 0, none⟩ (.int .i64 (lw + sw))).drew.setCell ⟨w.heap.size + 1, 1, none⟩ (.int .i64 (lm + sm))) (.slice (some ⟨b, off, none⟩) (m + 1) c) zs xs (k + 1) (.slice (some ⟨g', 0, none⟩) (k * 2 + 2) cap')) := by
          have hcg : Below (w.heap.size + 2) w3 w3 := Below.refl _ _
          refine ⟨(HAr3.out.set_other (by simp) _).set_other (by simp) _, ?_, ?_, (HBl3.out.setCell (by simp) _).drew.setCell (by simp) _⟩
          · rw [HWM.out.1, HWM.out.2]
            exact (hlA.set 1 (.int .i64 (lm + sm))).congr (fun i hi => by match i, hi with | 0, _ => rfl | 1, _ => rfl)
          · exact HO3.out.set2 _ _ _ _ (by simp) (by simp)
        clear hlA
        go_wp2
        go_region_law (fail)
        all_goals
          go_wp2
          generalize hWZ : (w3.setCell ⟨w.heap.size + 1, 0, none⟩ (.int .i64 (lw + sw))) = wz at *
          go_region_law (fail)
          all_goals
            go_wp2
            go_roundw
            case rel => exact ⟨k + 1, by omega, by go_num, Lib.hid HF.out.drew⟩
            case measure => simp [intOf]; omega
      · obtain rfl : k = m := by omega
        go_wp2_with (at_builtin; refine wpList_appR _ rfl (.tmp 17) (.tmp 52) 61 rfl (w.heap.size + 2) 65 4 32 #[.int .i64 0, .int .i64 0, .int .i64 0, .int .i64 0] Tryzx.underlying61 infoRow rfl (by decide) (by decide) _ (k * 2) _ rfl (by exact HOA.out) (wr.heap.size + 1) 2 2 [iy, -ix, 1, lm - ix * lw, -oy, ox, -1, ox * lw - lm] rfl rfl (by exact HCN.out) (by omega) (w.heap.size + 2) wr (by exact HBA.out) (Nat.le_refl _) hW0 _ HX.out ?_ (by omega); intro g' cap' w3 hown3 hb3)
        have HAr3 := Lib.hid (HAr.out.below hb3 (by omega))
        have hl3 := HL.out.below hb3 (by omega)
        have HL3 := Lib.hid hl3
        have HBl3 := Lib.hid (HBl.out.trans (hb3.mono (by omega)))
        have HO3 := Lib.hid (show OwnR w3 (w.heap.size + 2) 65 4 (.slice (some ⟨g', 0, none⟩) (k * 2 + 2) cap') ((k + 1) * 2) (rowTo zs (sumW xs) (sumM xs) (k + 1)) by rw [show (k + 1) * 2 = k * 2 + 2 by omega]; exact hown3)
        have hz3 : wr.heap.size ≤ w3.heap.size := hb3.size
        clear x0 x1 x2 x3 z0 z1 z2 z3 l0 l1 a0 hown3 e1 e2 e3 e4 e5 e6
        have HF : Hid (RFor w w3 (.slice (some ⟨b, off, none⟩) (k + 1) c) zs xs (k + 1) (.slice (some ⟨g', 0, none⟩) (k * 2 + 2) cap')) :=
          ⟨HAr3.out, by rw [HPAST.out.1, HPAST.out.2, HWk.out, HMk.out]; exact HL3.out, HO3.out, HBl3.out⟩
        clear hl3 hb3
        go_wp2
        go_roundw
        case rel => exact ⟨k + 1, by omega, by go_num, HF⟩
        case measure => first | (simp [intOf]; done) | (simp [intOf]; omega)
    · obtain rfl : k = m + 1 := by omega
      have HU : Hid (rowTo zs (sumW xs) (sumM xs) (m + 1) ++ [-1, 0, 0, 0] = rowsL zs (sumW xs) (sumM xs) (m + 1)) := rfl
      have HO := Lib.hid (HR.out.own.alloc (.cells #[.int .i64 (-1), .int .i64 0, .int .i64 0, .int .i64 0] 65))
      have HBA := Lib.hid (HR.out.below.alloc hz (.cells #[.int .i64 (-1), .int .i64 0, .int .i64 0, .int .i64 0] 65))
      have HCN : Hid (∀ i, i < 1 * 4 → (wr.alloc (.cells #[.int .i64 (-1), .int .i64 0, .int .i64 0, .int .i64 0] 65)).cell? ⟨wr.heap.size, i, none⟩ = some (.int .i64 (nth [-1, 0, 0, 0] i))) := fun i hi => (rowC_new4 wr (-1) 0 0 0 65).cell hi
      go_wp2_with (at_builtin; refine wpList_appR _ rfl (.tmp 77) (.tmp 79) 61 rfl (w.heap.size + 2) 65 4 32 #[.int .i64 0, .int .i64 0, .int .i64 0, .int .i64 0] Tryzx.underlying61 infoRow rfl (by decide) (by decide) _ ((m + 1) * 2) _ rfl (by exact HO.out) wr.heap.size 1 1 [-1, 0, 0, 0] rfl rfl (by exact HCN.out) (by omega) w.heap.size w (by exact HBA.out) (by omega) (by simp; omega) _ HU.out ?_ (by omega); intro g' cap' w3 hown3 hb3)
      have HO3 := Lib.hid hown3
      have HB3 := Lib.hid hb3
      clear hown3 hb3
      go_wp2_with fail
      refine (rowsOk_any _ _ _ _ _ (by exact HO3.out.recs) (by omega)).mono ?_
      rw [HOK.out]
      rintro e w4 ⟨rfl, hb4⟩
      have HO4 := Lib.hid (HO3.out.below hb4)
      have HB4 := Lib.hid (HB3.out.trans (hb4.mono HB3.out.size))
      clear hb4
      go_wp2
      go_ret
      exact ⟨_, rfl, HO4.out.weaken (by omega), HB4.out⟩
end Go.Proofs.YtbpnbhemdbgmjaaGreat.X
end
section
namespace Go.Proofs.YtbpnbhemdbgmjaaGreat.X
open Go.RowKit
set_option linter.unusedSimpArgs false
section
variable {zs : List Int} {n : Nat} {ls : List Int} {q : Nat}
end
theorem rowF1 (w : World) (u : Value) (T : TypeId) : RowF (w.alloc (.cells #[u] T)) w.heap.size T 1 (fun _ => u) := RowF.of_row (World.rowIs_alloc w #[u] T (fun _ => u) (fun i hi => by simp at hi; subst hi; rfl))
theorem rowC_new2 (w : World) (a b : Int) (T : TypeId) : RowF (w.alloc (.cells #[.int .i64 a, .int .i64 b] T)) w.heap.size T 2 (ints [a, b]) :=
  RowF.of_row (World.rowIs_alloc w #[.int .i64 a, .int .i64 b] T _ (fun j hj => by simp at hj; match j, hj with | 0, _ => rfl | 1, _ => rfl))
end Go.Proofs.YtbpnbhemdbgmjaaGreat.X
end
section
namespace Go.Proofs.YtbpnbhemdbgmjaaGreat.X
open Go.RowKit
set_option linter.unusedSimpArgs false
def StoPost (w : World) (zs : List Int) (n k : Nat) (e : Ending) (w' : World) : Prop :=
  ∃ A m c L, e = .returned (.agg #[.slice A m c]) ∧ RecsAt w' w'.heap.size 2 A m L ∧ m ≤ 4 ∧ weightI L m = (if k + 1 < n then swt zs k else 0) ∧ overI facX L m = (if k + 1 < n then smt zs k else 0) ∧ Below w.heap.size w w'
theorem sto_none : weightI [] 0 = 0 ∧ overI facX [] 0 = 0 := by
  have h : stoneB [] 0 = false := stoneB_f1 (by decide)
  exact ⟨by unfold weightI; rw [overI_f h]; rfl, overI_f h⟩
set_option maxRecDepth 100000 in
set_option maxHeartbeats 3200000 in
theorem sStoneOf_any (A : Option Addr) (n c : Nat) (zs : List Int) (k : Nat) (w : World) (h : RecsAt w w.heap.size 4 A n zs) (hA : archB zs n = true) (hk : k < n) :
    Calls Tryzx.prog 130 #[.agg #[.slice A n c], .int .i64 k] w (StoPost w zs n k) := by
  obtain ⟨hn8, hpt⟩ := archB_out hA
  obtain ⟨b, off, rfl, hbB, hcell⟩ := h.2 (by omega)
  have b0 : Below w.heap.size w ((w.alloc (.cells #[.slice (some ⟨b, off, none⟩) n c] 26)).alloc (.cells #[.slice none 0 0] 150)) := ((Below.refl _ _).alloc (Nat.le_refl _) _).alloc (by simp) _
  have h1 := h.after b0
  have bx0 := (rowF_new1S w (.slice (some ⟨b, off, none⟩) n c) 26).alloc (.cells #[.slice none 0 0] 150)
  have rs0 : RowF ((w.alloc (.cells #[.slice (some ⟨b, off, none⟩) n c] 26)).alloc (.cells #[.slice none 0 0] 150)) (w.heap.size + 1) 150 1 (fun _ => .slice none 0 0) := by
    have h := rowF_new1S (w.alloc (.cells #[.slice (some ⟨b, off, none⟩) n c] 26)) (.slice none 0 0) 150
    rw [World.size_alloc] at h
    exact h
  have e2 : IntKind.i64.wrap ((n : Int) - 2) = (n : Int) - 2 := IntWalk.i64_in _ (by omega)
  by_cases hlt : k + 1 < n
  · have hin : inB (k : Int) 0 ((n : Int) - 2) = true := inB_t (by omega)
    have HC := Lib.hid (fun j (hj : j < n) => jtCells hcell hj)
    go_enter Tryzx.func130, Tryz.ntmps130
    go_wp2_with fail
    refine (sArchOk_any _ _ _ zs _ h1 (by omega)).mono ?_
    rw [hA]
    rintro e wr ⟨rfl, hb1⟩
    have HB1 := Lib.hid (below_then b0 hb1)
    have HBX := Lib.hid (bx0.after hb1)
    have HRS := Lib.hid (rs0.after hb1)
    have hbox := HBX.out.cell (i := 0) (by omega)
    have hz := HB1.out.size
    have hgl := HBX.out.lt
    have hgl2 := HRS.out.lt
    have hq := HC.out k (by omega)
    have hq2 := HC.out (k + 1) (by omega)
    have hbr : b < wr.heap.size := by omega
    have x0 := (HB1.out.cell (p := ⟨b, off + k * 4, none⟩) hbB).trans hq.1
    have x1 := (HB1.out.cell (p := ⟨b, off + k * 4 + 1, none⟩) hbB).trans hq.2.1
    have x2 := (HB1.out.cell (p := ⟨b, off + k * 4 + 2, none⟩) hbB).trans hq.2.2.1
    have x3 := (HB1.out.cell (p := ⟨b, off + k * 4 + 3, none⟩) hbB).trans hq.2.2.2
    have y0 := (HB1.out.cell (p := ⟨b, off + (k + 1) * 4, none⟩) hbB).trans hq2.1
    have y1 := (HB1.out.cell (p := ⟨b, off + (k + 1) * 4 + 1, none⟩) hbB).trans hq2.2.1
    have y2 := (HB1.out.cell (p := ⟨b, off + (k + 1) * 4 + 2, none⟩) hbB).trans hq2.2.2.1
    have y3 := (HB1.out.cell (p := ⟨b, off + (k + 1) * 4 + 3, none⟩) hbB).trans hq2.2.2.2
    have i1 : IntKind.i64.wrap ((k : Int) + 1) = (k : Int) + 1 := IntWalk.i64_in _ (by omega)
    have i2 : (k : Int) < (n : Int) := by omega
    have i3 : (k : Int) + 1 < (n : Int) := by omega
    have i4 : (0 : Int) ≤ (k : Int) + 1 := by omega
    have i5 : ((k : Int) + 1).toNat = k + 1 := by omega
    have i6 : (0 : Int) ≤ (k : Int) := by omega
    have ne1 : wr.heap.size ≠ w.heap.size := by omega
    have ne2 : wr.heap.size ≠ b := by omega
    have HST : Hid (btwA zs k = btw (nth zs (k * 4)) (nth zs (k * 4 + 1)) (nth zs (k * 4 + 2)) (nth zs (k * 4 + 3)) (nth zs ((k + 1) * 4)) (nth zs ((k + 1) * 4 + 1)) (nth zs ((k + 1) * 4 + 2)) (nth zs ((k + 1) * 4 + 3))) := rfl
    have hS : stoneB (btw (nth zs (k * 4)) (nth zs (k * 4 + 1)) (nth zs (k * 4 + 2)) (nth zs (k * 4 + 3)) (nth zs ((k + 1) * 4)) (nth zs ((k + 1) * 4 + 1)) (nth zs ((k + 1) * 4 + 2)) (nth zs ((k + 1) * 4 + 3))) 4 = true := by
      have := hpt k (by omega)
      simp only [pairB, Bool.and_eq_true] at this
      exact this.1
    clear hq hq2 hb1 h1 h hcell b0 bx0 rs0 hpt hA
    obtain ⟨wk, rfl⟩ : ∃ wk : World, wk = wr := ⟨_, rfl⟩
    go_upto_region 3 with (go_at_call 126; refine (l01In_any _ _ _ _).mono ?_; rw [hin]; rintro e w' ⟨rfl, rfl⟩)
    go_cut [5] (fun s5 wx => ∃ gs gq : Nat, s5 = .pointer (some ⟨gs, 0, none⟩) ∧ wk.heap.size ≤ gs ∧ wk.heap.size ≤ gq ∧ Hid (Box wx gs (.slice (some ⟨gq, 0, none⟩) 4 4)) ∧ Hid (RecsAt wx wx.heap.size 2 (some ⟨gq, 0, none⟩) 4 (btwA zs k)) ∧ Hid (Below wk.heap.size wk wx))
    case first =>
      go_region_held3 (fun w' => w'.cell? ⟨w.heap.size, 0, none⟩ = some (.slice (some ⟨b, off, none⟩) n c) ∧ (w'.cell? ⟨b, off + k * 4, none⟩ = some (.int .i64 (nth zs (k * 4))) ∧ w'.cell? ⟨b, off + k * 4 + 1, none⟩ = some (.int .i64 (nth zs (k * 4 + 1))) ∧ w'.cell? ⟨b, off + k * 4 + 2, none⟩ = some (.int .i64 (nth zs (k * 4 + 2))) ∧ w'.cell? ⟨b, off + k * 4 + 3, none⟩ = some (.int .i64 (nth zs (k * 4 + 3)))) ∧ (w'.cell? ⟨b, off + (k + 1) * 4, none⟩ = some (.int .i64 (nth zs ((k + 1) * 4))) ∧ w'.cell? ⟨b, off + (k + 1) * 4 + 1, none⟩ = some (.int .i64 (nth zs ((k + 1) * 4 + 1))) ∧ w'.cell? ⟨b, off + (k + 1) * 4 + 2, none⟩ = some (.int .i64 (nth zs ((k + 1) * 4 + 2))) ∧ w'.cell? ⟨b, off + (k + 1) * 4 + 3, none⟩ = some (.int .i64 (nth zs ((k + 1) * 4 + 3))))) (first | exact ⟨hbox, ⟨x0, x1, x2, x3⟩, ⟨y0, y1, y2, y3⟩⟩ | (refine keepA (by assumption) (fun i => ?_) ?_ <;> first | exact cell_alloc_lt (by first | (simp; done) | (simp; omega) | omega) | exact (cell_alloc_lt (by first | (simp; done) | (simp; omega) | omega)).trans (cell_alloc_lt (by first | (simp; done) | (simp; omega) | omega)).symm | exact hcc _ _ (by first | (simp; done) | (simp; omega) | omega) | exact World.cell?_setCell_far _ _ _ _ (by first | (simp; done) | (simp; omega) | omega))) ((go_at_call 134; refine (sBetween_any _ _ _ _ _ _ _ _ _).mono ?_; rintro e w1 ⟨A1, n1, c1, rfl, ht, _, hb1⟩; obtain ⟨rfl, rfl, gq, rfl, hrq, hgq⟩ := ht hS; rw [hS]; obtain ⟨hcc, hff⟩ := bcell hb1; have k1 := hb1.size; simp at k1; have k2 : w1.heap.size ≠ w.heap.size := (by omega); have k3 : w1.heap.size ≠ b := (by omega)))
      · go_wp2_with fail
        go_meet
        have hzk := hb1.size
        simp at hzk
        have hgl2 := hrq.lt
        simp at hgq
        exact ⟨w1.heap.size, gq, rfl, by omega, by omega, Lib.hid (Box.new _ _ _), Lib.hid ((show RowF (w1.alloc _) gq 43 (4 * 2) (ints (btwA zs k)) from hrq.alloc _).recs rfl), Lib.hid (((below_drewN (Below.refl wk.heap.size wk) 1).trans (hb1.mono (by simp))).alloc (by omega) _)⟩
      · go_wp2_with fail
        go_meet
        have hzk := hb1.size
        simp at hzk
        have hgl2 := hrq.lt
        have hrw := (rowF_new1S wk.drew (.slice none 0 0) 150).after hb1
        simp at hgq
        exact ⟨wk.heap.size, gq, rfl, by omega, by omega, Lib.hid (box_setS _ hrw), Lib.hid ((show RowF (w1.setCell _ _) gq 43 (4 * 2) (ints (btwA zs k)) from hrq.set_other (by simp; omega) _).recs rfl), Lib.hid ((((below_drewN (Below.refl wk.heap.size wk) 1).alloc (Nat.le_refl _) _).trans (hb1.mono (by simp))).setCell (by simp) _)⟩
    case rest =>
      clear x0 x1 x2 x3 y0 y1 y2 y3 hbox
      obtain ⟨gs, gq, rfl, hgs, hgq, HBXS, HRQ, HBW⟩ := hcut
      have HRSc := Lib.hid (HRS.out.after HBW.out)
      have c0 := HRSc.out.cell (i := 0) (by omega)
      have f0 := HRSc.out.frozen 0
      have bxc := HBXS.out.1
      have HB3 : Hid (Below w.heap.size w (wc.setCell ⟨w.heap.size + 1, 0, none⟩ (.slice (some ⟨gq, 0, none⟩) 4 4))) := Lib.hid ((HB1.out.trans (HBW.out.mono hz)).setCell (by simp) _)
      have hr0 : (wc.setCell ⟨w.heap.size + 1, 0, none⟩ (.slice (some ⟨gq, 0, none⟩) 4 4)).cell? ⟨w.heap.size + 1, 0, none⟩ = some (.slice (some ⟨gq, 0, none⟩) 4 4) := (box_setS _ HRSc.out).1
      have HRQ3 : Hid (RecsAt (wc.setCell ⟨w.heap.size + 1, 0, none⟩ (.slice (some ⟨gq, 0, none⟩) 4 4)) (wc.setCell ⟨w.heap.size + 1, 0, none⟩ (.slice (some ⟨gq, 0, none⟩) 4 4)).heap.size 2 (some ⟨gq, 0, none⟩) 4 (btwA zs k)) := by
        refine ⟨HRQ.out.1, fun h0 => ?_⟩
        obtain ⟨b', off', e, hb', hc⟩ := HRQ.out.2 h0
        have e' : gq = b' := by simp at e; exact e.1
        exact ⟨b', off', e, by simpa using hb', fun i hi => (World.cell?_setCell_far _ _ _ _ (by simp; omega)).trans (hc i hi)⟩
      go_wp2
      refine bodyPost_ret (v := .agg #[.slice (some ⟨gq, 0, none⟩) 4 4]) (by simp [results, Tryz.results130, go_sem, *]) rfl ?_
      exact ⟨some ⟨gq, 0, none⟩, 4, 4, btwA zs k, rfl, HRQ3.out, by omega, by rw [if_pos hlt]; rfl, by rw [if_pos hlt]; rfl, HB3.out⟩
  · have hin : inB (k : Int) 0 ((n : Int) - 2) = false := by
      cases h : inB (k : Int) 0 ((n : Int) - 2)
      · rfl
      · have := inB_iff.1 h; omega
    go_enter Tryzx.func130, Tryz.ntmps130
    go_wp2_with fail
    refine (sArchOk_any _ _ _ zs _ h1 (by omega)).mono ?_
    rw [hA]
    rintro e wr ⟨rfl, hb1⟩
    have HB1 := Lib.hid (below_then b0 hb1)
    have HBX := Lib.hid (bx0.after hb1)
    have HRS := Lib.hid (rs0.after hb1)
    have hbox := HBX.out.cell (i := 0) (by omega)
    have hz := HB1.out.size
    have hgl := HBX.out.lt
    have c0 := HRS.out.cell (i := 0) (by omega)
    have f0 := HRS.out.frozen 0
    have HB3 : Hid (Below w.heap.size w (wr.setCell ⟨w.heap.size + 1, 0, none⟩ (.slice none 0 0))) := Lib.hid (HB1.out.setCell (by simp) _)
    have hr0 : (wr.setCell ⟨w.heap.size + 1, 0, none⟩ (.slice none 0 0)).cell? ⟨w.heap.size + 1, 0, none⟩ = some (.slice none 0 0) := (box_setS _ HRS.out).1
    clear hb1 h1 h hcell b0 bx0 rs0 hpt hA
    go_wp2_with (go_at_call 126; refine (l01In_any _ _ _ _).mono ?_; rw [hin]; rintro e w' ⟨rfl, rfl⟩)
    refine bodyPost_ret (v := .agg #[.slice none 0 0]) (by simp [results, Tryz.results130, go_sem, *]) rfl ?_
    exact ⟨none, 0, 0, [], rfl, RecsAt.nil, by omega, by rw [if_neg hlt]; exact sto_none.1, by rw [if_neg hlt]; exact sto_none.2, HB3.out⟩
section
open Go.RowKit
set_option linter.unusedSimpArgs false
structure SSp (w wr : World) (va : Value) (zs xs : List Int) (k : Nat) (v5 : Value) : Prop where
  arch : RowF wr w.heap.size 26 1 (fun _ => va)
  own : OwnR wr (w.heap.size + 1) 65 4 v5 (k * 2) (rowTo zs (sumW xs) (sumM xs) k)
  below : Below w.heap.size w wr
theorem SSp.after {w wr w' : World} {va : Value} {zs xs : List Int} {k : Nat} {v5 : Value} (h : SSp w wr va zs xs k v5) (hb : Below wr.heap.size wr w') : SSp w w' va zs xs k v5 := ⟨h.arch.after hb, h.own.below hb, h.below.trans (hb.mono h.below.size)⟩
set_option maxRecDepth 100000 in
set_option maxHeartbeats 6400000 in
theorem sStageRows_any (A : Option Addr) (n c : Nat) (zs : List Int) (B : Option Addr) (q d : Nat) (cs : List Int) (w : World) (h : RecsAt w w.heap.size 4 A n zs) (hn : n ≤ 1048576) (hi : IntsAt w w.heap.size B q cs) (hq : q ≤ 1048576) :
    Calls Tryzx.prog 83 #[.agg #[.slice A n c], .slice B q d] w (RowsPost w (stgN zs n cs q) (stgR zs n cs q)) := by
  have hs0 : (w.alloc (.cells #[.slice A n c] 26)).heap.size = w.heap.size + 1 := World.size_alloc _ _
  have b0 : Below w.heap.size w ((w.alloc (.cells #[.slice A n c] 26)).alloc (.cells #[] 65)) := ((Below.refl _ _).alloc (Nat.le_refl _) _).alloc (by simp) _
  have h1 := h.after b0
  have l1 := hi.after b0
  have r0 := (rowF1 w (.slice A n c) 26).alloc (.cells #[] 65)
  have o0 : OwnR ((w.alloc (.cells #[.slice A n c] 26)).alloc (.cells #[] 65)) (w.heap.size + 1) 65 4 (.slice (some ⟨w.heap.size + 1, 0, none⟩) 0 0) 0 [] := by
    have h := OwnR.new (w.alloc (.cells #[.slice A n c] 26)) 65 4
    rw [hs0] at h
    exact h
  have HB0 := Lib.hid b0
  have HO0 := Lib.hid o0
  have HR0 := Lib.hid r0
  cases hL : carriedB zs n cs q
  · have HF := Lib.hid (stg_f hL)
    clear b0 o0 r0 hs0 h hi
    go_enter Tryzx.func83, Tryz.ntmps83
    go_wp2_with fail
    refine (sCarriedOk_any _ _ _ zs _ _ _ cs _ h1 hn l1 hq).mono ?_
    rw [hL]
    rintro e w1 ⟨rfl, hb1⟩
    have HO1 := Lib.hid (HO0.out.below hb1)
    have HB1 := Lib.hid (HB0.out.trans (hb1.mono HB0.out.size))
    clear hb1
    go_wp2
    go_ret
    exact ⟨_, rfl, by rw [HF.out.1, HF.out.2]; exact HO1.out.weaken (by omega), HB1.out⟩
  · have HT := Lib.hid (stg_t hL)
    obtain ⟨hA, hasc⟩ := carriedB_out hL
    have hn8 := (archB_out hA).1
    have hwm := wmok_stg cs q (n - 1) hA
    have HJB := Lib.hid (fun k (hk : k < n) => jBd_of hA hwm hk)
    have HWB := Lib.hid (fun k => sumStg_bd zs cs q (n - 1) k)
    have HSTP := Lib.hid (fun k (hk : k < n) => stg_step (zs := zs) (cs := cs) (q := q) (show 0 < n by omega) hk)
    have HASC := Lib.hid hasc
    have HA := Lib.hid hA
    have HH := Lib.hid h
    have HI := Lib.hid hi
    obtain ⟨b, off, rfl, hbB, hcell⟩ := h.2 (by omega)
    have HC := Lib.hid (fun j (hj : j < n) => jtCells hcell hj)
    clear b0 o0 r0 hs0 h hi hcell hA hwm hasc
    go_enter Tryzx.func83, Tryz.ntmps83
    go_wp2_with fail
    refine (sCarriedOk_any _ _ _ zs _ _ _ cs _ h1 hn l1 hq).mono ?_
    rw [hL]
    rintro e w1 ⟨rfl, hb1⟩
    have HST : Hid (SSp w w1 (.slice (some ⟨b, off, none⟩) n c) zs (stgL zs cs q (n - 1)) 0 (.slice (some ⟨w.heap.size + 1, 0, none⟩) 0 0)) := ⟨HR0.out.after hb1, HO0.out.below hb1, HB0.out.trans (hb1.mono HB0.out.size)⟩
    have HAT0 := Lib.hid (atOk_0 HASC.out)
    clear hb1 h1 l1 HO0 HB0 HR0 hL
    generalize hxs : stgL zs cs q (n - 1) = xs at *
    have HXS := Lib.hid hxs
    clear hxs
    go_wp2
    go_loopw [5, 6, 7, 8, 9] (fun v5 v6 v7 v8 v9 wr => ∃ (k t : Nat), k ≤ n ∧ v9 = .int .i64 k ∧ v8 = .int .i64 t ∧ v6 = .int .i64 (sumW xs k) ∧ v7 = .int .i64 (sumM xs k) ∧ Hid (AtOk cs q k t) ∧ Hid (SSp w wr (.slice (some ⟨b, off, none⟩) n c) zs xs k v5)) (fun _ _ _ _ v9 _ => n - (intOf v9).toNat)
    case atStart => exact ⟨0, 0, Nat.zero_le _, rfl, rfl, rfl, rfl, HAT0, HST⟩
    case round =>
      clear HST HAT0
      obtain ⟨k, t, hk, rfl, rfl, rfl, rfl, HAO, HR⟩ := hrel
      have hz := HR.out.below.size
      have a0 : wr.cell? ⟨w.heap.size, 0, none⟩ = some (.slice (some ⟨b, off, none⟩) n c) := HR.out.arch.cell (by omega)
      have hal := HR.out.arch.lt
      by_cases hlt : k < n
      · have ki : (k : Int) < (n : Int) := by omega
        have k0 : (0 : Int) ≤ (k : Int) := by omega
        have hq' := HC.out k hlt
        have x0 : wr.cell? ⟨b, off + k * 4, none⟩ = some (.int .i64 (nth zs (k * 4))) := (HR.out.below.cell (by exact hbB)).trans hq'.1
        have x1 : wr.cell? ⟨b, off + k * 4 + 1, none⟩ = some (.int .i64 (nth zs (k * 4 + 1))) := (HR.out.below.cell (by exact hbB)).trans hq'.2.1
        have x2 : wr.cell? ⟨b, off + k * 4 + 2, none⟩ = some (.int .i64 (nth zs (k * 4 + 2))) := (HR.out.below.cell (by exact hbB)).trans hq'.2.2.1
        have x3 : wr.cell? ⟨b, off + k * 4 + 3, none⟩ = some (.int .i64 (nth zs (k * 4 + 3))) := (HR.out.below.cell (by exact hbB)).trans hq'.2.2.2
        have HX : Hid (rowTo zs (sumW xs) (sumM xs) k ++ [nth zs (k * 4 + 1), -nth zs (k * 4), 1, sumM xs k - nth zs (k * 4) * sumW xs k, -nth zs (k * 4 + 3), nth zs (k * 4 + 2), -1, nth zs (k * 4 + 2) * sumW xs k - sumM xs k] = rowTo zs (sumW xs) (sumM xs) (k + 1)) := rfl
        obtain ⟨e1, e2, e3, e4, e5, e6⟩ := jWraps (HJB.out k hlt)
        have HS1 := Lib.hid (HSTP.out k hlt)
        have hwk := HWB.out k
        have hwk1 := HWB.out (k + 1)
        have HO := Lib.hid HR.out.own
        have HAr := Lib.hid HR.out.arch
        have HBl := Lib.hid HR.out.below
        have hbl : b < wr.heap.size := by omega
        clear hq' HR
        generalize hWk : sumW xs k = lw at *
        generalize hMk : sumM xs k = lm at *
        clear hWk hMk
        generalize nth zs (k * 4) = ix at *
        generalize nth zs (k * 4 + 1) = iy at *
        generalize nth zs (k * 4 + 2) = ox at *
        generalize nth zs (k * 4 + 3) = oy at *
        have p0 := (rowC_new2 wr ix iy 43).alloc (.cells #[.int .i64 ox, .int .i64 oy] 43)
        have p1 : RowF ((wr.alloc (.cells #[.int .i64 ix, .int .i64 iy] 43)).alloc (.cells #[.int .i64 ox, .int .i64 oy] 43)) (wr.heap.size + 1) 43 2 (ints [ox, oy]) := by
          have h := rowC_new2 (wr.alloc (.cells #[.int .i64 ix, .int .i64 iy] 43)) ox oy 43
          rw [World.size_alloc] at h
          exact h
        have c0 : ((wr.alloc (.cells #[.int .i64 ix, .int .i64 iy] 43)).alloc (.cells #[.int .i64 ox, .int .i64 oy] 43)).cell? ⟨wr.heap.size, 0, none⟩ = some (.int .i64 ix) := p0.cell (i := 0) (by omega)
        have c1 : ((wr.alloc (.cells #[.int .i64 ix, .int .i64 iy] 43)).alloc (.cells #[.int .i64 ox, .int .i64 oy] 43)).cell? ⟨wr.heap.size, 1, none⟩ = some (.int .i64 iy) := p0.cell (i := 1) (by omega)
        have d0 : ((wr.alloc (.cells #[.int .i64 ix, .int .i64 iy] 43)).alloc (.cells #[.int .i64 ox, .int .i64 oy] 43)).cell? ⟨wr.heap.size + 1, 0, none⟩ = some (.int .i64 ox) := p1.cell (i := 0) (by omega)
        have d1 : ((wr.alloc (.cells #[.int .i64 ix, .int .i64 iy] 43)).alloc (.cells #[.int .i64 ox, .int .i64 oy] 43)).cell? ⟨wr.heap.size + 1, 1, none⟩ = some (.int .i64 oy) := p1.cell (i := 1) (by omega)
        have HU := Lib.hid (show Below (w.heap.size + 1) wr ((wr.alloc (.cells #[.int .i64 ix, .int .i64 iy] 43)).alloc (.cells #[.int .i64 ox, .int .i64 oy] 43)) from ((Below.refl (w.heap.size + 1) wr).alloc (by omega) _).alloc (by simp; omega) _)
        have HOA := Lib.hid ((HO.out.alloc (.cells #[.int .i64 ix, .int .i64 iy] 43)).alloc (.cells #[.int .i64 ox, .int .i64 oy] 43))
        have hww : ((wr.alloc (.cells #[.int .i64 ix, .int .i64 iy] 43)).alloc (.cells #[.int .i64 ox, .int .i64 oy] 43)).heap.size = wr.heap.size + 2 := by simp
        have HWW := Lib.hid hww
        clear p0 p1 hww
        have HAN : Hid (∀ w3, Below (w.heap.size + 1) wr w3 → RowF w3 w.heap.size 26 1 (fun _ => .slice (some ⟨b, off, none⟩) n c) ∧ Below w.heap.size w w3) := fun w3 hb3 => ⟨HAr.out.below hb3 (by omega), HBl.out.trans (hb3.mono (by omega))⟩
        go_upto_region 12 with fail
        generalize hwx : ((wr.alloc (.cells #[.int .i64 ix, .int .i64 iy] 43)).alloc (.cells #[.int .i64 ox, .int .i64 oy] 43)) = wx at *
        have hwz : wr.heap.size + 2 ≤ wx.heap.size := Nat.le_of_eq HWW.out.symm
        clear hwx x0 x1 x2 x3 a0
        have HOB := Lib.hid (HOA.out.alloc (.cells #[.int .i64 iy, .int .i64 (-ix), .int .i64 1, .int .i64 (lm - ix * lw), .int .i64 (-oy), .int .i64 ox, .int .i64 (-1), .int .i64 (ox * lw - lm)] 65))
        have HUB := Lib.hid (HU.out.alloc (by omega) (.cells #[.int .i64 iy, .int .i64 (-ix), .int .i64 1, .int .i64 (lm - ix * lw), .int .i64 (-oy), .int .i64 ox, .int .i64 (-1), .int .i64 (ox * lw - lm)] 65))
        have HCN : Hid (∀ i, i < 2 * 4 → (wx.alloc (.cells #[.int .i64 iy, .int .i64 (-ix), .int .i64 1, .int .i64 (lm - ix * lw), .int .i64 (-oy), .int .i64 ox, .int .i64 (-1), .int .i64 (ox * lw - lm)] 65)).cell? ⟨wx.heap.size, i, none⟩ = some (.int .i64 (nth [iy, -ix, 1, lm - ix * lw, -oy, ox, -1, ox * lw - lm] i))) := fun i hi => (rowC_new8 wx iy (-ix) 1 (lm - ix * lw) (-oy) ox (-1) (ox * lw - lm) 65).cell hi
        have hW0 : w.heap.size + 1 ≤ (wx.alloc (.cells #[.int .i64 iy, .int .i64 (-ix), .int .i64 1, .int .i64 (lm - ix * lw), .int .i64 (-oy), .int .i64 ox, .int .i64 (-1), .int .i64 (ox * lw - lm)] 65)).heap.size := by simp; omega
        by_cases hc : t < q ∧ nth cs t = (k : Int)
        · obtain ⟨htq, hck⟩ := hc
          have hAT := atOk_t HASC.out HAO.out htq hck
          have HAT1 := Lib.hid hAT.2
          have HS2 : Hid (sumW xs (k + 1) = lw ∧ sumM xs (k + 1) = lm) := by
            show _ ∧ _
            have h := HS1.out
            rw [hAT.1] at h
            simpa using h
          obtain ⟨bi, oi, rfl, hbi, hci⟩ := HI.out.2 (show 0 < q by omega)
          have HCI := Lib.hid (fun (w3 : World) (hb3 : Below w.heap.size w w3) => (hb3.cell (p := ⟨bi, oi + t, none⟩) hbi).trans (hci t htq))
          have ti : (t : Int) < (q : Int) := by omega
          have t0 : (0 : Int) ≤ (t : Int) := by omega
          have hck' : (nth cs t == (k : Int)) = true := by simpa using hck
          have y3 : ∀ w3, Below (w.heap.size + 1) wr w3 → w3.cell? ⟨bi, oi + t, none⟩ = some (.int .i64 (k : Int)) := fun w3 hb3 => by rw [← hck]; exact HCI.out w3 (HAN.out w3 hb3).2
          have Y3 := Lib.hid y3
          clear hAT hci hck y3
          go_wp2_with (at_builtin; refine wpList_appR _ rfl (.tmp 38) (.tmp 63) 61 rfl (w.heap.size + 1) 65 4 32 #[.int .i64 0, .int .i64 0, .int .i64 0, .int .i64 0] Tryzx.underlying61 infoRow rfl (by decide) (by decide) _ (k * 2) _ rfl (by exact HOB.out) wx.heap.size 2 2 [iy, -ix, 1, lm - ix * lw, -oy, ox, -1, ox * lw - lm] rfl rfl (by exact HCN.out) (by omega) (w.heap.size + 1) wr (by exact HUB.out) (Nat.le_refl _) hW0 _ HX.out ?_ (by omega); intro g' cap' w3 hown3 hb3; have y3 := Y3.out w3 hb3; have a3 : w3.cell? ⟨w.heap.size, 0, none⟩ = some (.slice (some ⟨b, off, none⟩) n c) := (HAN.out w3 hb3).1.cell (by omega))
          have HR3 : Hid (SSp w w3 (.slice (some ⟨b, off, none⟩) n c) zs xs (k + 1) (.slice (some ⟨g', 0, none⟩) (k * 2 + 2) cap')) := ⟨(HAN.out w3 hb3).1, by rw [show (k + 1) * 2 = k * 2 + 2 by omega]; exact hown3, (HAN.out w3 hb3).2⟩
          clear hown3 hb3 c0 c1 d0 d1
          go_wp2
          go_roundw
          case rel => exact ⟨k + 1, t + 1, by omega, by go_num, by go_num, by rw [HS2.out.1], by rw [HS2.out.2], HAT1, HR3⟩
          case measure => simp [intOf]; omega
        · have hAT := atOk_f HASC.out HAO.out hc
          have HAT1 := Lib.hid hAT.2
          have HFAL := Lib.hid hAT.1
          clear hAT
          by_cases htq : t < q
          · have hck : ¬ nth cs t = (k : Int) := fun e => hc ⟨htq, e⟩
            obtain ⟨bi, oi, rfl, hbi, hci⟩ := HI.out.2 (show 0 < q by omega)
            have HCI := Lib.hid (fun (w3 : World) (hb3 : Below w.heap.size w w3) => (hb3.cell (p := ⟨bi, oi + t, none⟩) hbi).trans (hci t htq))
            have ti : (t : Int) < (q : Int) := by omega
            have t0 : (0 : Int) ≤ (t : Int) := by omega
            have hck' : (nth cs t == (k : Int)) = false := by simpa using hck
            have Y3 := Lib.hid (fun w3 (hb3 : Below (w.heap.size + 1) wr w3) => HCI.out w3 (HAN.out w3 hb3).2)
            clear hci hck hc
            go_wp2_with (at_builtin; refine wpList_appR _ rfl (.tmp 38) (.tmp 63) 61 rfl (w.heap.size + 1) 65 4 32 #[.int .i64 0, .int .i64 0, .int .i64 0, .int .i64 0] Tryzx.underlying61 infoRow rfl (by decide) (by decide) _ (k * 2) _ rfl (by exact HOB.out) wx.heap.size 2 2 [iy, -ix, 1, lm - ix * lw, -oy, ox, -1, ox * lw - lm] rfl rfl (by exact HCN.out) (by omega) (w.heap.size + 1) wr (by exact HUB.out) (Nat.le_refl _) hW0 _ HX.out ?_ (by omega); intro g' cap' w3 hown3 hb3; have y3 := Y3.out w3 hb3; have a3 : w3.cell? ⟨w.heap.size, 0, none⟩ = some (.slice (some ⟨b, off, none⟩) n c) := (HAN.out w3 hb3).1.cell (by omega))
            have HR3 : Hid (SSp w w3 (.slice (some ⟨b, off, none⟩) n c) zs xs (k + 1) (.slice (some ⟨g', 0, none⟩) (k * 2 + 2) cap')) := ⟨(HAN.out w3 hb3).1, by rw [show (k + 1) * 2 = k * 2 + 2 by omega]; exact hown3, (HAN.out w3 hb3).2⟩
            clear hown3 hb3 c0 c1 d0 d1
            have r3 : RecsAt w3 w3.heap.size 4 (some ⟨b, off, none⟩) n zs := (HH.out.below HR3.out.below).mono HR3.out.below.size
            refine (sStoneOf_any _ _ _ zs k _ r3 HA.out hlt).mono ?_
            rintro e w4 ⟨A4, m4, c4, L4, rfl, hr4, hm4, ew4, em4, hb4⟩
            have HR4 := Lib.hid (HR3.out.after hb4)
            have hwd := weightI_bd L4 m4
            have hmd := overI_bd facX_ok L4 m4
            have HS2 : Hid (sumW xs (k + 1) = lw + weightI L4 m4 ∧ sumM xs (k + 1) = lm + overI facX L4 m4) := by
              show _ ∧ _
              have h := HS1.out
              rw [HFAL.out] at h
              rw [ew4, em4]
              simpa using h
            clear hb4 a3 r3 ew4 em4
            have hba : Below w4.heap.size w4 (w4.alloc (.cells #[.slice A4 m4 c4] 150)) := (Below.refl _ _).alloc (Nat.le_refl _) _
            have BX4 : Box (w4.alloc (.cells #[.slice A4 m4 c4] 150)) w4.heap.size (.slice A4 m4 c4) := Box.new _ _ _
            have s4 := hr4.after hba
            have HR5 := Lib.hid (HR4.out.after hba)
            have b4 := BX4.1
            clear hr4 hba
            rw [HS2.out.1, HS2.out.2] at hwk1
            have es1 : IntKind.i64.wrap (lw + weightI L4 m4) = lw + weightI L4 m4 := IntWalk.i64_in _ (by omega)
            have es2 : IntKind.i64.wrap (lm + overI facX L4 m4) = lm + overI facX L4 m4 := IntWalk.i64_in _ (by omega)
            go_wp2_with (first
              | (go_at_call 131; refine (sWeightOf_any _ _ _ L4 _ (by exact s4) (by omega)).mono ?_; rintro e w5 ⟨rfl, hb5⟩; have b5 := (BX4.after hb5).1; have s5 := s4.after hb5; have HR6 := Lib.hid (HR5.out.after hb5); clear hb5)
              | (go_at_call 132; refine (sMomentOf_any _ _ _ L4 _ (by exact s5) (by omega)).mono ?_; rintro e w6 ⟨rfl, hb6⟩; have HR7 := Lib.hid (HR6.out.after hb6); clear hb6))
            go_roundw
            case rel => exact ⟨k + 1, t, by omega, by go_num, rfl, by rw [HS2.out.1], by rw [HS2.out.2], HAT1, HR7⟩
            case measure => simp [intOf]; omega
          · have ti : ¬ (t : Int) < (q : Int) := by omega
            clear hc
            go_wp2_with (at_builtin; refine wpList_appR _ rfl (.tmp 38) (.tmp 63) 61 rfl (w.heap.size + 1) 65 4 32 #[.int .i64 0, .int .i64 0, .int .i64 0, .int .i64 0] Tryzx.underlying61 infoRow rfl (by decide) (by decide) _ (k * 2) _ rfl (by exact HOB.out) wx.heap.size 2 2 [iy, -ix, 1, lm - ix * lw, -oy, ox, -1, ox * lw - lm] rfl rfl (by exact HCN.out) (by omega) (w.heap.size + 1) wr (by exact HUB.out) (Nat.le_refl _) hW0 _ HX.out ?_ (by omega); intro g' cap' w3 hown3 hb3; have a3 : w3.cell? ⟨w.heap.size, 0, none⟩ = some (.slice (some ⟨b, off, none⟩) n c) := (HAN.out w3 hb3).1.cell (by omega))
            have HR3 : Hid (SSp w w3 (.slice (some ⟨b, off, none⟩) n c) zs xs (k + 1) (.slice (some ⟨g', 0, none⟩) (k * 2 + 2) cap')) := ⟨(HAN.out w3 hb3).1, by rw [show (k + 1) * 2 = k * 2 + 2 by omega]; exact hown3, (HAN.out w3 hb3).2⟩
            clear hown3 hb3 c0 c1 d0 d1
            have r3 : RecsAt w3 w3.heap.size 4 (some ⟨b, off, none⟩) n zs := (HH.out.below HR3.out.below).mono HR3.out.below.size
            refine (sStoneOf_any _ _ _ zs k _ r3 HA.out hlt).mono ?_
            rintro e w4 ⟨A4, m4, c4, L4, rfl, hr4, hm4, ew4, em4, hb4⟩
            have HR4 := Lib.hid (HR3.out.after hb4)
            have hwd := weightI_bd L4 m4
            have hmd := overI_bd facX_ok L4 m4
            have HS2 : Hid (sumW xs (k + 1) = lw + weightI L4 m4 ∧ sumM xs (k + 1) = lm + overI facX L4 m4) := by
              show _ ∧ _
              have h := HS1.out
              rw [HFAL.out] at h
              rw [ew4, em4]
              simpa using h
            clear hb4 a3 r3 ew4 em4
            have hba : Below w4.heap.size w4 (w4.alloc (.cells #[.slice A4 m4 c4] 150)) := (Below.refl _ _).alloc (Nat.le_refl _) _
            have BX4 : Box (w4.alloc (.cells #[.slice A4 m4 c4] 150)) w4.heap.size (.slice A4 m4 c4) := Box.new _ _ _
            have s4 := hr4.after hba
            have HR5 := Lib.hid (HR4.out.after hba)
            have b4 := BX4.1
            clear hr4 hba
            rw [HS2.out.1, HS2.out.2] at hwk1
            have es1 : IntKind.i64.wrap (lw + weightI L4 m4) = lw + weightI L4 m4 := IntWalk.i64_in _ (by omega)
            have es2 : IntKind.i64.wrap (lm + overI facX L4 m4) = lm + overI facX L4 m4 := IntWalk.i64_in _ (by omega)
            go_wp2_with (first
              | (go_at_call 131; refine (sWeightOf_any _ _ _ L4 _ (by exact s4) (by omega)).mono ?_; rintro e w5 ⟨rfl, hb5⟩; have b5 := (BX4.after hb5).1; have s5 := s4.after hb5; have HR6 := Lib.hid (HR5.out.after hb5); clear hb5)
              | (go_at_call 132; refine (sMomentOf_any _ _ _ L4 _ (by exact s5) (by omega)).mono ?_; rintro e w6 ⟨rfl, hb6⟩; have HR7 := Lib.hid (HR6.out.after hb6); clear hb6))
            go_roundw
            case rel => exact ⟨k + 1, t, by omega, by go_num, rfl, by rw [HS2.out.1], by rw [HS2.out.2], HAT1, HR7⟩
            case measure => simp [intOf]; omega
      · obtain rfl : n = k := by omega
        have HU : Hid (rowTo zs (sumW xs) (sumM xs) n ++ [-1, 0, 0, 0] = rowsL zs (sumW xs) (sumM xs) n) := rfl
        have HO := Lib.hid (HR.out.own.alloc (.cells #[.int .i64 (-1), .int .i64 0, .int .i64 0, .int .i64 0] 65))
        have HBA := Lib.hid (HR.out.below.alloc hz (.cells #[.int .i64 (-1), .int .i64 0, .int .i64 0, .int .i64 0] 65))
        have HCN : Hid (∀ i, i < 1 * 4 → (wr.alloc (.cells #[.int .i64 (-1), .int .i64 0, .int .i64 0, .int .i64 0] 65)).cell? ⟨wr.heap.size, i, none⟩ = some (.int .i64 (nth [-1, 0, 0, 0] i))) := fun i hi => (rowC_new4 wr (-1) 0 0 0 65).cell hi
        go_wp2_with (at_builtin; refine wpList_appR _ rfl (.tmp 90) (.tmp 92) 61 rfl (w.heap.size + 1) 65 4 32 #[.int .i64 0, .int .i64 0, .int .i64 0, .int .i64 0] Tryzx.underlying61 infoRow rfl (by decide) (by decide) _ (n * 2) _ rfl (by exact HO.out) wr.heap.size 1 1 [-1, 0, 0, 0] rfl rfl (by exact HCN.out) (by omega) w.heap.size w (by exact HBA.out) (by omega) (by simp; omega) _ HU.out ?_ (by omega); intro g' cap' w3 hown3 hb3)
        have HO3 := Lib.hid hown3
        have HB3 := Lib.hid hb3
        clear hown3 hb3
        go_wp2
        go_ret
        exact ⟨_, rfl, by rw [HT.out.1, HT.out.2]; exact HO3.out.weaken (by omega), HB3.out⟩
end
end Go.Proofs.YtbpnbhemdbgmjaaGreat.X
end
