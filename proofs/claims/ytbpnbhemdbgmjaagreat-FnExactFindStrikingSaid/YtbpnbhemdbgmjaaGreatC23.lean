/-
  Texts that the law stands on, part 23.
-/
import Derived.Test.YtbpnbhemdbgmjaaGreatC1
import Derived.Test.YtbpnbhemdbgmjaaGreatC11
import Derived.Test.YtbpnbhemdbgmjaaGreatC12
import Derived.Test.YtbpnbhemdbgmjaaGreatC13
import Derived.Test.YtbpnbhemdbgmjaaGreatC18
import Derived.Test.YtbpnbhemdbgmjaaGreatC19
import Derived.Test.YtbpnbhemdbgmjaaGreatC20
import Derived.Test.YtbpnbhemdbgmjaaGreatC22
import Derived.Deep.RegionLaw
import Derived.Deep.DeepCutAuto
import Derived.BigRegion
set_option linter.unusedVariables false
set_option linter.unusedSimpArgs false
namespace Go.Proofs.YtbpnbhemdbgmjaaGreat
namespace X
open Go.RowKit
theorem infoRow : (Tryzx.prog.info? 65).map (fun i => (i.zero, i.size, i.bytes)) = some (some (.agg #[.int .i64 0, .int .i64 0, .int .i64 0, .int .i64 0]), 4, 32) := by kernel_rfl
def RowsPost (w : World) (m : Nat) (L : List Int) (e : Ending) (w' : World) : Prop :=
 ∃ v, e = .returned v ∧ OwnR w' w.heap.size 65 4 v m L ∧ Below w.heap.size w w'
def RowsPostN (w : World) (m : Nat) (L : List Int) (e : Ending) (w' : World) : Prop := RowsPost w m L e w' ∧ (m = 0 → e = .returned (.slice none 0 0))
theorem sum_past {xs : List Int} {k : Nat} (hl : xs.length = k * 2) : sumW xs (k + 1) = sumW xs k ∧ sumM xs (k + 1) = sumM xs k := by
 have h1 : nth xs (k * 2) = 0 := by simp [nth, List.getD, List.getElem?_eq_none (show xs.length ≤ k * 2 by omega)]
 have h2 : nth xs (k * 2 + 1) = 0 := by simp [nth, List.getD, List.getElem?_eq_none (show xs.length ≤ k * 2 + 1 by omega)]
 exact ⟨by simp [sumW, h1], by simp [sumM, h2]⟩
structure RFor (w wr : World) (va : Value) (zs xs : List Int) (k : Nat) (v5 : Value) : Prop where
 arch : RowF wr w.heap.size 26 1 (fun _ => va)
 left : RowF wr (w.heap.size + 1) 105 2 (ints [sumW xs k, sumM xs k])
 own : OwnR wr (w.heap.size + 2) 65 4 v5 (k * 2) (rowTo zs (sumW xs) (sumM xs) k)
 below : Below w.heap.size w wr
theorem rfor_start (w : World) (va : Value) (zs xs : List Int) : RFor w ((w.alloc (.cells #[va] 26)).alloc (.cells #[.int .i64 0, .int .i64 0] 105)) va zs xs 0 (.slice none 0 0) := by
 refine ⟨(RowF.of_row (World.rowIs_alloc w #[va] _ (fun _ => va) (fun i hi => by simp at hi; subst hi; rfl))).alloc _, ?_, OwnR.nil _ _ _ _, ((Below.refl _ _).alloc (Nat.le_refl _) _).alloc (by simp) _⟩
 have h := RowF.of_row (World.rowIs_alloc (w.alloc (.cells #[va] 26)) #[.int .i64 0, .int .i64 0] 105 (ints [0, 0]) (fun i hi => by simp at hi; match i, hi with | 0, _ => rfl | 1, _ => rfl))
 rw [World.size_alloc] at h
 exact h
theorem RFor.drew {w wr : World} {va : Value} {zs xs : List Int} {k : Nat} {v5 : Value} (h : RFor w wr va zs xs k v5) : RFor w wr.drew va zs xs k v5 := ⟨h.arch.drew, h.left.drew, h.own.drew, h.below.drew⟩
theorem rowC_new4 (w : World) (a b c d : Int) (T : TypeId) : RowF (w.alloc (.cells #[.int .i64 a, .int .i64 b, .int .i64 c, .int .i64 d] T)) w.heap.size T 4 (ints [a, b, c, d]) :=
 RowF.of_row (World.rowIs_alloc w #[.int .i64 a, .int .i64 b, .int .i64 c, .int .i64 d] T _ (fun j hj => by simp at hj; match j, hj with | 0, _ => rfl | 1, _ => rfl | 2, _ => rfl | 3, _ => rfl))
theorem rowC_new8 (w : World) (a b c d e f g h : Int) (T : TypeId) : RowF (w.alloc (.cells #[.int .i64 a, .int .i64 b, .int .i64 c, .int .i64 d, .int .i64 e, .int .i64 f, .int .i64 g, .int .i64 h] T)) w.heap.size T 8 (ints [a, b, c, d, e, f, g, h]) :=
 RowF.of_row (World.rowIs_alloc w #[.int .i64 a, .int .i64 b, .int .i64 c, .int .i64 d, .int .i64 e, .int .i64 f, .int .i64 g, .int .i64 h] T _ (fun j hj => by simp at hj; match j, hj with | 0, _ => rfl | 1, _ => rfl | 2, _ => rfl | 3, _ => rfl | 4, _ => rfl | 5, _ => rfl | 6, _ => rfl | 7, _ => rfl))
theorem jWraps {ix iy ox oy w m : Int} (h : JBd ix iy ox oy w m) : IntKind.i64.wrap (-ix) = -ix ∧ IntKind.i64.wrap (-oy) = -oy ∧ IntKind.i64.wrap (ix * w) = ix * w ∧ IntKind.i64.wrap (m - ix * w) = m - ix * w ∧ IntKind.i64.wrap (ox * w) = ox * w ∧ IntKind.i64.wrap (ox * w - m) = ox * w - m := by
 obtain ⟨h1, h2, h3, h4, h5, h6⟩ := h
 exact ⟨IntWalk.i64_in _ (by omega), IntWalk.i64_in _ (by omega), IntWalk.i64_in _ (by omega), IntWalk.i64_in _ (by omega), IntWalk.i64_in _ (by omega), IntWalk.i64_in _ (by omega)⟩
set_option maxRecDepth 100000 in
set_option maxHeartbeats 3200000 in
theorem rowsFor_any (A : Option Addr) (n c : Nat) (zs : List Int) (B : Option Addr) (d : Nat) (xs : List Int) (w : World) (h : RecsAt w w.heap.size 4 A n zs) (hs : RecsAt w w.heap.size 2 B (n - 1) xs) (hA : archB zs n = true) (hb : WMok (sumW xs) (sumM xs) n) :
  Calls Tryzx.prog 91 #[.agg #[.slice A n c], .slice B (n - 1) d] w (RowsPost w (n * 2 + 1) (rowsL zs (sumW xs) (sumM xs) n)) := by
 have hn8 := (archB_out hA).1
 obtain ⟨m, rfl⟩ : ∃ m, n = m + 1 := ⟨n - 1, by omega⟩
 rw [Nat.add_sub_cancel] at hs ⊢
 obtain ⟨b, off, rfl, hbB, hcell⟩ := h.2 (by omega)
 obtain ⟨bs, offs, rfl, hbS, hcs⟩ := hs.2 (by omega)
 have HC := Lib.hid (fun j (hj : j < m + 1) => jtCells hcell hj)
 have HCS := Lib.hid hcs
 have HPAST := Lib.hid (sum_past hs.1)
 have HB := Lib.hid hb
 have HJB := Lib.hid (fun k (hk : k < m + 1) => jBd_of hA hb hk)
 have HOK := Lib.hid (allB_t (rowsL_ok hA hb))
 have ST := Lib.hid (rfor_start w (.slice (some ⟨b, off, none⟩) (m + 1) c) zs xs)
 have hz0 : ((w.alloc (.cells #[.slice (some ⟨b, off, none⟩) (m + 1) c] 26)).alloc (.cells #[.int .i64 0, .int .i64 0] 105)).heap.size = w.heap.size + 1 + 1 := by simp
 clear hcell hcs h hs hA hb
 go_enter Tryzx.func91, Tryz.ntmps91
 go_wp2
 go_loopw [5, 12] (fun v5 v12 wr => ∃ (k : Nat), k ≤ m + 1 ∧ v12 = .int .i64 k ∧ Hid (RFor w wr (.slice (some ⟨b, off, none⟩) (m + 1) c) zs xs k v5)) (fun _ v12 _ => m + 1 - (intOf v12).toNat)
 case atStart => exact ⟨0, Nat.zero_le _, rfl, ST⟩
 case round =>
  clear ST
  obtain ⟨k, hk, rfl, HR⟩ := hrel
  have hz := HR.out.below.size
  have hll := HR.out.left.lt
  by_cases hlt : k < m + 1
  ·have ki : (k : Int) < ((m + 1 : Nat) : Int) := by omega
   have k0 : (0 : Int) ≤ (k : Int) := by omega
   have a0 : wr.cell? ⟨w.heap.size, 0, none⟩ = some (.slice (some ⟨b, off, none⟩) (m + 1) c) := HR.out.arch.cell (by omega)
   have hq := HC.out k hlt
   have x0 : wr.cell? ⟨b, off + k * 4, none⟩ = some (.int .i64 (nth zs (k * 4))) := (HR.out.below.cell (by exact hbB)).trans hq.1
   have x1 : wr.cell? ⟨b, off + k * 4 + 1, none⟩ = some (.int .i64 (nth zs (k * 4 + 1))) := (HR.out.below.cell (by exact hbB)).trans hq.2.1
   have x2 : wr.cell? ⟨b, off + k * 4 + 2, none⟩ = some (.int .i64 (nth zs (k * 4 + 2))) := (HR.out.below.cell (by exact hbB)).trans hq.2.2.1
   have x3 : wr.cell? ⟨b, off + k * 4 + 3, none⟩ = some (.int .i64 (nth zs (k * 4 + 3))) := (HR.out.below.cell (by exact hbB)).trans hq.2.2.2
   have HX : Hid (rowTo zs (sumW xs) (sumM xs) k ++ [nth zs (k * 4 + 1), -nth zs (k * 4), 1, sumM xs k - nth zs (k * 4) * sumW xs k, -nth zs (k * 4 + 3), nth zs (k * 4 + 2), -1, nth zs (k * 4 + 2) * sumW xs k - sumM xs k] = rowTo zs (sumW xs) (sumM xs) (k + 1)) := rfl
   obtain ⟨e1, e2, e3, e4, e5, e6⟩ := jWraps (HJB.out k hlt)
   have HSW : Hid (∀ a b, sumW xs k = a → sumM xs k = b → sumW xs (k + 1) = a + nth xs (k * 2) ∧ sumM xs (k + 1) = b + nth xs (k * 2 + 1)) := fun a b h1 h2 => by subst h1; subst h2; exact ⟨rfl, rfl⟩
   have HL := Lib.hid HR.out.left
   have HO := Lib.hid HR.out.own
   have HAr := Lib.hid HR.out.arch
   have HBl := Lib.hid HR.out.below
   clear hq HR
   generalize hWk : sumW xs k = lw at *
   generalize hMk : sumM xs k = lm at *
   have HWM := Lib.hid (HSW.out _ _ rfl rfl)
   have HWk := Lib.hid hWk
   have HMk := Lib.hid hMk
   clear HSW hWk hMk
   generalize nth zs (k * 4) = ix at *
   generalize nth zs (k * 4 + 1) = iy at *
   generalize nth zs (k * 4 + 2) = ox at *
   generalize nth zs (k * 4 + 3) = oy at *
   obtain ⟨⟨z0, z1, z2, z3⟩, _⟩ := Box4.new wr ix iy ox oy 45
   have hla := HL.out.alloc (.cells #[.int .i64 ix, .int .i64 iy, .int .i64 ox, .int .i64 oy] 45)
   have l0 : (wr.alloc (.cells #[.int .i64 ix, .int .i64 iy, .int .i64 ox, .int .i64 oy] 45)).cell? ⟨w.heap.size + 1, 0, none⟩ = some (.int .i64 lw) := hla.cell (by omega)
   have l1 : (wr.alloc (.cells #[.int .i64 ix, .int .i64 iy, .int .i64 ox, .int .i64 oy] 45)).cell? ⟨w.heap.size + 1, 1, none⟩ = some (.int .i64 lm) := hla.cell (by omega)
   clear hla
   have HBA := Lib.hid (((Below.refl (w.heap.size + 2) wr).alloc (by omega) (.cells #[.int .i64 ix, .int .i64 iy, .int .i64 ox, .int .i64 oy] 45)).alloc (by simp; omega) (.cells #[.int .i64 iy, .int .i64 (-ix), .int .i64 1, .int .i64 (lm - ix * lw), .int .i64 (-oy), .int .i64 ox, .int .i64 (-1), .int .i64 (ox * lw - lm)] 65))
   have HOA := Lib.hid ((HO.out.alloc (.cells #[.int .i64 ix, .int .i64 iy, .int .i64 ox, .int .i64 oy] 45)).alloc (.cells #[.int .i64 iy, .int .i64 (-ix), .int .i64 1, .int .i64 (lm - ix * lw), .int .i64 (-oy), .int .i64 ox, .int .i64 (-1), .int .i64 (ox * lw - lm)] 65))
   have HCN : Hid (∀ i, i < 2 * 4 → ((wr.alloc (.cells #[.int .i64 ix, .int .i64 iy, .int .i64 ox, .int .i64 oy] 45)).alloc (.cells #[.int .i64 iy, .int .i64 (-ix), .int .i64 1, .int .i64 (lm - ix * lw), .int .i64 (-oy), .int .i64 ox, .int .i64 (-1), .int .i64 (ox * lw - lm)] 65)).cell? ⟨wr.heap.size + 1, i, none⟩ = some (.int .i64 (nth [iy, -ix, 1, lm - ix * lw, -oy, ox, -1, ox * lw - lm] i))) := by
    intro i hi
    have h := rowC_new8 (wr.alloc (.cells #[.int .i64 ix, .int .i64 iy, .int .i64 ox, .int .i64 oy] 45)) iy (-ix) 1 (lm - ix * lw) (-oy) ox (-1) (ox * lw - lm) 65
    rw [World.size_alloc] at h
    exact h.cell hi
   have hW0 : w.heap.size + 2 ≤ ((wr.alloc (.cells #[.int .i64 ix, .int .i64 iy, .int .i64 ox, .int .i64 oy] 45)).alloc (.cells #[.int .i64 iy, .int .i64 (-ix), .int .i64 1, .int .i64 (lm - ix * lw), .int .i64 (-oy), .int .i64 ox, .int .i64 (-1), .int .i64 (ox * lw - lm)] 65)).heap.size := by simp; omega
   by_cases hkm : k < m
   ·have hkm' : (k : Int) < (m : Int) := by omega
    go_wp2_with (at_builtin; refine wpList_appR _ rfl (.tmp 17) (.tmp 52) 61 rfl (w.heap.size + 2) 65 4 32 #[.int .i64 0, .int .i64 0, .int .i64 0, .int .i64 0] Tryzx.underlying61 infoRow rfl (by decide) (by decide) _ (k * 2) _ rfl (by exact HOA.out) (wr.heap.size + 1) 2 2 [iy, -ix, 1, lm - ix * lw, -oy, ox, -1, ox * lw - lm] rfl rfl (by exact HCN.out) (by omega) (w.heap.size + 2) wr (by exact HBA.out) (Nat.le_refl _) hW0 _ HX.out ?_ (by omega); intro g' cap' w3 hown3 hb3)
    have HAr3 := Lib.hid (HAr.out.below hb3 (by omega))
    have hl3 := HL.out.below hb3 (by omega)
    have HL3 := Lib.hid hl3
    have HBl3 := Lib.hid (HBl.out.trans (hb3.mono (by omega)))
    have HO3 := Lib.hid (show OwnR w3 (w.heap.size + 2) 65 4 (.slice (some ⟨g', 0, none⟩) (k * 2 + 2) cap') ((k + 1) * 2) (rowTo zs (sumW xs) (sumM xs) (k + 1)) by rw [show (k + 1) * 2 = k * 2 + 2 by omega]; exact hown3)
    have hz3 : wr.heap.size ≤ w3.heap.size := hb3.size
    clear x0 x1 x2 x3 z0 z1 z2 z3 l0 l1 a0 hown3 e1 e2 e3 e4 e5 e6
    have hc1 := HCS.out (k * 2) (by omega)
    have hc2 := HCS.out (k * 2 + 1) (by omega)
    have s0 : w3.cell? ⟨bs, offs + k * 2, none⟩ = some (.int .i64 (nth xs (k * 2))) := (HBl3.out.cell (by exact hbS)).trans hc1
    have s1 : w3.cell? ⟨bs, offs + k * 2 + 1, none⟩ = some (.int .i64 (nth xs (k * 2 + 1))) := (HBl3.out.cell (by exact hbS)).trans hc2
    have l0 : w3.cell? ⟨w.heap.size + 1, 0, none⟩ = some (.int .i64 lw) := hl3.cell (by omega)
    have l1 : w3.cell? ⟨w.heap.size + 1, 1, none⟩ = some (.int .i64 lm) := hl3.cell (by omega)
    have f0 := hl3.frozen 0
    have f1 := hl3.frozen 1
    have hbd := HB.out (k + 1) (by omega)
    rw [HWM.out.1, HWM.out.2] at hbd
    have ne1 : ¬ bs = w.heap.size + 1 := by omega
    have es1 : IntKind.i64.wrap (lw + nth xs (k * 2)) = lw + nth xs (k * 2) := IntWalk.i64_in _ (by omega)
    have es2 : IntKind.i64.wrap (lm + nth xs (k * 2 + 1)) = lm + nth xs (k * 2 + 1) := IntWalk.i64_in _ (by omega)
    generalize nth xs (k * 2) = sw at *
    generalize nth xs (k * 2 + 1) = sm at *
    clear hl3 hc1 hc2 hb3
    have hlA := HL3.out.set 0 (.int .i64 (lw + sw))
    have l1' : (w3.setCell ⟨w.heap.size + 1, 0, none⟩ (.int .i64 (lw + sw))).cell? ⟨w.heap.size + 1, 1, none⟩ = some (.int .i64 lm) := by
     have h := hlA.cell (i := 1) (by omega)
     exact h
    have s1' : (w3.setCell ⟨w.heap.size + 1, 0, none⟩ (.int .i64 (lw + sw))).cell? ⟨bs, offs + k * 2 + 1, none⟩ = some (.int .i64 sm) := (World.cell?_setCell_far _ _ _ _ (by simp; omega)).trans s1
    have f1' : (w3.setCell ⟨w.heap.size + 1, 0, none⟩ (.int .i64 (lw + sw))).frozen? ⟨w.heap.size + 1, 1, none⟩ = false := hlA.frozen 1
    have HF : Hid (RFor w ((w3.setCell ⟨w.heap.size + 1, 0, none⟩ (.int .i64 (lw + sw))).drew.setCell ⟨w.heap.size + 1, 1, none⟩ (.int .i64 (lm + sm))) (.slice (some ⟨b, off, none⟩) (m + 1) c) zs xs (k + 1) (.slice (some ⟨g', 0, none⟩) (k * 2 + 2) cap')) := by
     have hcg : Below (w.heap.size + 2) w3 w3 := Below.refl _ _
     refine ⟨(HAr3.out.set_other (by simp) _).set_other (by simp) _, ?_, ?_, (HBl3.out.setCell (by simp) _).drew.setCell (by simp) _⟩
     ·rw [HWM.out.1, HWM.out.2]
      exact (hlA.set 1 (.int .i64 (lm + sm))).congr (fun i hi => by match i, hi with | 0, _ => rfl | 1, _ => rfl)
     ·exact HO3.out.set2 _ _ _ _ (by simp) (by simp)
    clear hlA
    go_wp2
    go_region_law (fail)
    all_goals
     go_wp2
     generalize hWZ : (w3.setCell ⟨w.heap.size + 1, 0, none⟩ (.int .i64 (lw + sw))) = wz at *
     go_region_law (fail)
     all_goals
      go_wp2
      go_roundw
      case rel => exact ⟨k + 1, by omega, by go_num, Lib.hid HF.out.drew⟩
      case measure => simp [intOf]; omega
   ·obtain rfl : k = m := by omega
    go_wp2_with (at_builtin; refine wpList_appR _ rfl (.tmp 17) (.tmp 52) 61 rfl (w.heap.size + 2) 65 4 32 #[.int .i64 0, .int .i64 0, .int .i64 0, .int .i64 0] Tryzx.underlying61 infoRow rfl (by decide) (by decide) _ (k * 2) _ rfl (by exact HOA.out) (wr.heap.size + 1) 2 2 [iy, -ix, 1, lm - ix * lw, -oy, ox, -1, ox * lw - lm] rfl rfl (by exact HCN.out) (by omega) (w.heap.size + 2) wr (by exact HBA.out) (Nat.le_refl _) hW0 _ HX.out ?_ (by omega); intro g' cap' w3 hown3 hb3)
    have HAr3 := Lib.hid (HAr.out.below hb3 (by omega))
    have hl3 := HL.out.below hb3 (by omega)
    have HL3 := Lib.hid hl3
    have HBl3 := Lib.hid (HBl.out.trans (hb3.mono (by omega)))
    have HO3 := Lib.hid (show OwnR w3 (w.heap.size + 2) 65 4 (.slice (some ⟨g', 0, none⟩) (k * 2 + 2) cap') ((k + 1) * 2) (rowTo zs (sumW xs) (sumM xs) (k + 1)) by rw [show (k + 1) * 2 = k * 2 + 2 by omega]; exact hown3)
    have hz3 : wr.heap.size ≤ w3.heap.size := hb3.size
    clear x0 x1 x2 x3 z0 z1 z2 z3 l0 l1 a0 hown3 e1 e2 e3 e4 e5 e6
    have HF : Hid (RFor w w3 (.slice (some ⟨b, off, none⟩) (k + 1) c) zs xs (k + 1) (.slice (some ⟨g', 0, none⟩) (k * 2 + 2) cap')) :=
     ⟨HAr3.out, by rw [HPAST.out.1, HPAST.out.2, HWk.out, HMk.out]; exact HL3.out, HO3.out, HBl3.out⟩
    clear hl3 hb3
    go_wp2
    go_roundw
    case rel => exact ⟨k + 1, by omega, by go_num, HF⟩
    case measure => first | (simp [intOf]; done) | (simp [intOf]; omega)
  ·obtain rfl : k = m + 1 := by omega
   have HU : Hid (rowTo zs (sumW xs) (sumM xs) (m + 1) ++ [-1, 0, 0, 0] = rowsL zs (sumW xs) (sumM xs) (m + 1)) := rfl
   have HO := Lib.hid (HR.out.own.alloc (.cells #[.int .i64 (-1), .int .i64 0, .int .i64 0, .int .i64 0] 65))
   have HBA := Lib.hid (HR.out.below.alloc hz (.cells #[.int .i64 (-1), .int .i64 0, .int .i64 0, .int .i64 0] 65))
   have HCN : Hid (∀ i, i < 1 * 4 → (wr.alloc (.cells #[.int .i64 (-1), .int .i64 0, .int .i64 0, .int .i64 0] 65)).cell? ⟨wr.heap.size, i, none⟩ = some (.int .i64 (nth [-1, 0, 0, 0] i))) := fun i hi => (rowC_new4 wr (-1) 0 0 0 65).cell hi
   go_wp2_with (at_builtin; refine wpList_appR _ rfl (.tmp 77) (.tmp 79) 61 rfl (w.heap.size + 2) 65 4 32 #[.int .i64 0, .int .i64 0, .int .i64 0, .int .i64 0] Tryzx.underlying61 infoRow rfl (by decide) (by decide) _ ((m + 1) * 2) _ rfl (by exact HO.out) wr.heap.size 1 1 [-1, 0, 0, 0] rfl rfl (by exact HCN.out) (by omega) w.heap.size w (by exact HBA.out) (by omega) (by simp; omega) _ HU.out ?_ (by omega); intro g' cap' w3 hown3 hb3)
   have HO3 := Lib.hid hown3
   have HB3 := Lib.hid hb3
   clear hown3 hb3
   go_wp2_with fail
   refine (rowsOk_any _ _ _ _ _ (by exact HO3.out.recs) (by omega)).mono ?_
   rw [HOK.out]
   rintro e w4 ⟨rfl, hb4⟩
   have HO4 := Lib.hid (HO3.out.below hb4)
   have HB4 := Lib.hid (HB3.out.trans (hb4.mono HB3.out.size))
   clear hb4
   go_wp2
   go_ret
   exact ⟨_, rfl, HO4.out.weaken (by omega), HB4.out⟩
end X
namespace X
open Go.RowKit
theorem box_setS {w : World} {g : Nat} {t : TypeId} {f : Nat → Value} (v : Value) (h : RowF w g t 1 f) : Box (w.setCell ⟨g, 0, none⟩ v) g v :=
 ⟨by have := (h.set 0 v).cell (i := 0) (by omega); simpa using this, by simpa using h.lt⟩
theorem rowF_new1S (w : World) (u : Value) (t : TypeId) : RowF (w.alloc (.cells #[u] t)) w.heap.size t 1 (fun _ => u) := RowF.of_row (World.rowIs_alloc w #[u] t (fun _ => u) (fun i hi => by simp at hi; subst hi; rfl))
end X
namespace X
open Go.RowKit
theorem l04Cross_any (ax ay bx b_y : Int) (w : World) (ha : ptB ax ay = true) (hb : ptB bx b_y = true) :
  Calls Tryzx.prog 174 #[.agg #[.int .i64 ax, .int .i64 ay], .agg #[.int .i64 bx, .int .i64 b_y]] w fun e w' => e = .returned (.int .i64 (crossI ax ay bx b_y)) ∧ Below w.heap.size w w' := by
 have hcr := crossI_bd ha hb
 unfold crossI at hcr
 rw [ptB_iff] at ha hb
 have hmA := mul_bd (m := 60) (n := 60) (a := ax) (b := b_y) (by omega) (by omega)
 have hmB := mul_bd (m := 60) (n := 60) (a := ay) (b := bx) (by omega) (by omega)
 go_enter Tryzx.func174, Tryz.ntmps174
 go_wp2
 go_ret
 exact ⟨rfl, ((Below.refl _ _).alloc (Nat.le_refl _) _).alloc (by simp) _⟩
set_option maxRecDepth 100000 in
set_option maxHeartbeats 1600000 in
theorem sAreaTwice_any (A : Option Addr) (n c : Nat) (zs : List Int) (w : World) (h : RecsAt w w.heap.size 2 A n zs) (hn : n ≤ 1048576) :
  Calls Tryzx.prog 172 #[.agg #[.slice A n c]] w fun e w' => e = .returned (.int .i64 (overI facOne zs n)) ∧ Below w.heap.size w w' := by
 have HA := Lib.hid ((Below.refl w.heap.size w).alloc (Nat.le_refl _) (.cells #[.slice A n c] 150))
 have H := Lib.hid h
 cases hs : stoneB zs n
 ·have HF := Lib.hid (overI_f (F := facOne) hs)
  go_enter Tryzx.func172, Tryz.ntmps172
  go_wp2
  go_loopw [3, 4] (fun s i wr => s = .int .i64 0 ∧ i = .int .i64 0 ∧ wr.cell? ⟨w.heap.size, 0, none⟩ = some (.slice A n c) ∧ Below w.heap.size w wr) (fun _ i _ => n - (intOf i).toNat)
  case atStart => exact ⟨rfl, rfl, cell_new0 _ _ _, HA.out⟩
  case round =>
   clear HA
   obtain ⟨rfl, rfl, hbox, hb⟩ := hrel
   have HB := Lib.hid hb
   by_cases h0 : n = 0
   ·subst h0
    clear hb
    go_wp2
    go_ret
    exact ⟨ret_int HF.out.symm, HB.out⟩
   ·have hpos : (0 : Int) < (n : Int) := by omega
    have hpos' : 0 < n := by omega
    have r1 := (H.out.below hb).mono hb.size
    clear hb h0
    go_wp2_with fail
    refine (sStoneOk_any _ _ _ zs _ r1).mono ?_
    rw [hs]
    rintro e w1 ⟨rfl, hb1⟩
    have HB1 := Lib.hid (HB.out.trans (hb1.mono HB.out.size))
    clear hb1
    go_wp2
    go_ret
    exact ⟨ret_int HF.out.symm, HB1.out⟩
 ·have ho := stoneB_out hs
  have HT := Lib.hid (overI_t (F := facOne) hs)
  have hn3 := ho.1.1
  have hn6 := ho.1.2
  have HPT := Lib.hid ho.2.1
  have HBD := Lib.hid (overTo_bd facOne_ok ho.2.1)
  obtain ⟨b, off, rfl, hbB, hc⟩ := h.2 (by omega)
  have HC := Lib.hid hc
  clear hc h ho
  go_enter Tryzx.func172, Tryz.ntmps172
  go_wp2
  go_loopw [3, 4] (fun s i wr => ∃ j : Nat, j ≤ n ∧ i = .int .i64 j ∧ s = .int .i64 (overTo facOne zs n j) ∧ wr.cell? ⟨w.heap.size, 0, none⟩ = some (.slice (some ⟨b, off, none⟩) n c) ∧ Below w.heap.size w wr) (fun _ i _ => n - (intOf i).toNat)
  case atStart => exact ⟨0, Nat.zero_le _, rfl, rfl, cell_new0 _ _ _, HA.out⟩
  case round =>
   clear HA
   obtain ⟨j, hj, rfl, rfl, hbox, hb⟩ := hrel
   have HB := Lib.hid hb
   have hgl := World.block_lt_of_cell? _ _ hbox
   simp only at hgl
   by_cases hlt : j < n
   ·have r0 := (H.out.below hb).mono hb.size
    have hji : (j : Int) < (n : Int) := by omega
    clear hb
    go_wp2_with fail
    refine (sStoneOk_any _ _ _ zs _ r0).mono ?_
    rw [hs]
    rintro e w1 ⟨rfl, hb1⟩
    have hb := HB.out.trans (hb1.mono HB.out.size)
    have hbox1 := (hb1.cell (p := ⟨w.heap.size, 0, none⟩) hgl).trans hbox
    have hgl1 : w.heap.size < w1.heap.size := by have := hb1.size; omega
    have HB1 := Lib.hid hb
    have hm1 : (j + 1) % n < n := Nat.mod_lt _ (by omega)
    obtain ⟨x0, x1⟩ := ptCells (fun i hi => (hb.cell (by exact hbB)).trans (HC.out i hi)) hlt
    obtain ⟨y0, y1⟩ := ptCells (fun i hi => (hb.cell (by exact hbB)).trans (HC.out i hi)) hm1
    have hz1 := hb.size
    clear hb hb1 hbox hgl r0
    have r1 : Int.tmod ((j : Int) + 1) (n : Int) = (((j + 1) % n : Nat) : Int) := rem_nat (j + 1) n
    have hpk := HPT.out j hlt
    have hp1 := HPT.out _ hm1
    have HST := Lib.hid (show overTo facOne zs n (j + 1) = overTo facOne zs n j + part facOne zs j ((j + 1) % n) from rfl)
    have hb0 := HBD.out j (by omega)
    unfold ptA at hpk hp1
    have hcr := crossI_bd hpk hp1
    rw [part_one] at HST
    generalize (j + 1) % n = j1 at *
    generalize overTo facOne zs n j = S at *
    have i1 : IntKind.i64.wrap ((j : Int) + 1) = (j : Int) + 1 := IntWalk.i64_in _ (by omega)
    have i3 : IntKind.i64.wrap (j1 : Int) = (j1 : Int) := IntWalk.i64_in _ (by omega)
    have i6 : (j1 : Int) < (n : Int) := by omega
    have i8 : ¬ n = 0 := by omega
    have i9 : ¬ (n : Int) = 0 := by omega
    have i10 : ((n : Int) == 0) = false := by simp; omega
    have i11 : (0 : Int) ≤ (j : Int) := by omega
    have i12 : (0 : Int) ≤ (j1 : Int) := by omega
    have e5 : IntKind.i64.wrap (S + crossI (nth zs (j * 2)) (nth zs (j * 2 + 1)) (nth zs (j1 * 2)) (nth zs (j1 * 2 + 1))) = S + crossI (nth zs (j * 2)) (nth zs (j * 2 + 1)) (nth zs (j1 * 2)) (nth zs (j1 * 2 + 1)) := IntWalk.i64_in _ (by omega)
    go_wp2
    go_region_held3 (fun w' => w'.cell? ⟨w.heap.size, 0, none⟩ = some (.slice (some ⟨b, off, none⟩) n c) ∧ (w'.cell? ⟨b, off + j * 2, none⟩ = some (.int .i64 (nth zs (j * 2))) ∧ w'.cell? ⟨b, off + j * 2 + 1, none⟩ = some (.int .i64 (nth zs (j * 2 + 1)))) ∧ (w'.cell? ⟨b, off + j1 * 2, none⟩ = some (.int .i64 (nth zs (j1 * 2))) ∧ w'.cell? ⟨b, off + j1 * 2 + 1, none⟩ = some (.int .i64 (nth zs (j1 * 2 + 1))))) (first | (simp [*]; done) | (refine ⟨?_, ⟨?_, ?_⟩, ⟨?_, ?_⟩⟩ <;> (rw [hcc _ _ (by simp <;> omega)]; simp [*]))) ((go_at_call 174; refine (l04Cross_any _ _ _ _ _ hpk hp1).mono ?_; rintro e w2 ⟨rfl, hb2⟩; obtain ⟨hcc, hff⟩ := bcell hb2))
    have HB2 := Lib.hid (HB1.out.drew.trans (hb2.mono (by simp; omega)))
    have hbox2 := (hb2.cell (p := ⟨w.heap.size, 0, none⟩) (by simp; omega)).trans hbox1
    clear hcc hff hb2
    go_wp2
    go_roundw
    case rel => exact ⟨j + 1, by omega, by go_num, by rw [HST.out], hbox2, HB2.out⟩
    case measure => first | (simp [intOf]; done) | (simp [intOf]; omega)
   ·obtain rfl : j = n := by omega
    clear hb
    go_wp2
    go_ret
    exact ⟨ret_int HT.out.symm, HB.out⟩
theorem sWeightOf_any (A : Option Addr) (n c : Nat) (zs : List Int) (w : World) (h : RecsAt w w.heap.size 2 A n zs) (hn : n ≤ 1048576) :
  Calls Tryzx.prog 131 #[.agg #[.slice A n c]] w fun e w' => e = .returned (.int .i64 (weightI zs n)) ∧ Below w.heap.size w w' := by
 have HA := Lib.hid ((Below.refl w.heap.size w).alloc (Nat.le_refl _) (.cells #[.slice A n c] 150))
 have H0 : RecsAt (w.alloc (.cells #[.slice A n c] 150)) (w.alloc (.cells #[.slice A n c] 150)).heap.size 2 A n zs := (h.alloc (Nat.le_refl _) _).mono (by simp)
 have hbd := overI_bd facOne_ok zs n
 go_enter Tryzx.func131, Tryz.ntmps131
 go_wp2_with fail
 refine (sAreaTwice_any _ _ _ zs _ H0 hn).mono ?_
 rintro e w1 ⟨rfl, hb1⟩
 have HB1 := Lib.hid (HA.out.trans (hb1.mono (by simp)))
 clear hb1
 go_wp2
 go_ret
 exact ⟨ret_int (by unfold weightI; rfl), HB1.out⟩
end X
namespace X
open Go.RowKit
theorem cell_alloc_lt' {w : World} {o : Obj} {g i : Nat} (h : g < w.heap.size) : (w.alloc o).cell? ⟨g, i, none⟩ = w.cell? ⟨g, i, none⟩ := World.cell?_of_block (a := ⟨g, i, none⟩) (Below.heap_alloc w o g h)
theorem part_facX (zs : List Int) (i j : Nat) : part facX zs i j = (nth zs (i * 2) + nth zs (j * 2)) * crossI (nth zs (i * 2)) (nth zs (i * 2 + 1)) (nth zs (j * 2)) (nth zs (j * 2 + 1)) := rfl
def Two (w : World) (b : Nat) (u v : Value) : Prop := w.cell? ⟨b, 0, none⟩ = some u ∧ w.cell? ⟨b, 1, none⟩ = some v ∧ b < w.heap.size
theorem Two.new (w : World) (u v : Value) (t : TypeId) : Two (w.alloc (.cells #[u, v] t)) w.heap.size u v := by
 have h := World.rowIs_alloc w #[u, v] t (fun i => if i = 0 then u else v) (fun i hi => by simp at hi; match i, hi with | 0, _ => rfl | 1, _ => rfl)
 exact ⟨h.cell (by simp), h.cell (by simp), by simp⟩
theorem Two.alloc {w : World} {b : Nat} {u v : Value} (h : Two w b u v) (o : Obj) : Two (w.alloc o) b u v := ⟨(cell_alloc_lt' h.2.2).trans h.1, (cell_alloc_lt' h.2.2).trans h.2.1, by have := h.2.2; simp; omega⟩
set_option maxRecDepth 100000 in
set_option maxHeartbeats 1600000 in
theorem sMomentOf_any (A : Option Addr) (n c : Nat) (zs : List Int) (w : World) (h : RecsAt w w.heap.size 2 A n zs) (hn : n ≤ 1048576) :
  Calls Tryzx.prog 132 #[.agg #[.slice A n c]] w fun e w' => e = .returned (.int .i64 (overI facX zs n)) ∧ Below w.heap.size w w' := by
 have HA := Lib.hid ((Below.refl w.heap.size w).alloc (Nat.le_refl _) (.cells #[.slice A n c] 150))
 have H := Lib.hid h
 cases hs : stoneB zs n
 ·have HF := Lib.hid (overI_f (F := facX) hs)
  go_enter Tryzx.func132, Tryz.ntmps132
  go_wp2
  go_loopw [3, 4] (fun s i wr => s = .int .i64 0 ∧ i = .int .i64 0 ∧ wr.cell? ⟨w.heap.size, 0, none⟩ = some (.slice A n c) ∧ Below w.heap.size w wr) (fun _ i _ => n - (intOf i).toNat)
  case atStart => exact ⟨rfl, rfl, cell_new0 _ _ _, HA.out⟩
  case round =>
   clear HA
   obtain ⟨rfl, rfl, hbox, hb⟩ := hrel
   have HB := Lib.hid hb
   by_cases h0 : n = 0
   ·subst h0
    clear hb
    go_wp2
    go_ret
    exact ⟨ret_int HF.out.symm, HB.out⟩
   ·have hpos : (0 : Int) < (n : Int) := by omega
    have hpos' : 0 < n := by omega
    have r1 := (H.out.below hb).mono hb.size
    clear hb h0
    go_wp2_with fail
    refine (sStoneOk_any _ _ _ zs _ r1).mono ?_
    rw [hs]
    rintro e w1 ⟨rfl, hb1⟩
    have HB1 := Lib.hid (HB.out.trans (hb1.mono HB.out.size))
    clear hb1
    go_wp2
    go_ret
    exact ⟨ret_int HF.out.symm, HB1.out⟩
 ·have ho := stoneB_out hs
  have HT := Lib.hid (overI_t (F := facX) hs)
  have hn3 := ho.1.1
  have hn6 := ho.1.2
  have HPT := Lib.hid ho.2.1
  have HBD := Lib.hid (overTo_bd facX_ok ho.2.1)
  obtain ⟨b, off, rfl, hbB, hc⟩ := h.2 (by omega)
  have HC := Lib.hid hc
  clear hc h ho
  go_enter Tryzx.func132, Tryz.ntmps132
  go_wp2
  go_loopw [3, 4] (fun s i wr => ∃ j : Nat, j ≤ n ∧ i = .int .i64 j ∧ s = .int .i64 (overTo facX zs n j) ∧ wr.cell? ⟨w.heap.size, 0, none⟩ = some (.slice (some ⟨b, off, none⟩) n c) ∧ Below w.heap.size w wr) (fun _ i _ => n - (intOf i).toNat)
  case atStart => exact ⟨0, Nat.zero_le _, rfl, rfl, cell_new0 _ _ _, HA.out⟩
  case round =>
   clear HA
   obtain ⟨j, hj, rfl, rfl, hbox, hb⟩ := hrel
   have HB := Lib.hid hb
   have hgl := World.block_lt_of_cell? _ _ hbox
   simp only at hgl
   by_cases hlt : j < n
   ·have r0 := (H.out.below hb).mono hb.size
    have hji : (j : Int) < (n : Int) := by omega
    clear hb
    go_wp2_with fail
    refine (sStoneOk_any _ _ _ zs _ r0).mono ?_
    rw [hs]
    rintro e w1 ⟨rfl, hb1⟩
    have hb := HB.out.trans (hb1.mono HB.out.size)
    have hbox1 := (hb1.cell (p := ⟨w.heap.size, 0, none⟩) hgl).trans hbox
    have hgl1 : w.heap.size < w1.heap.size := by have := hb1.size; omega
    have HB1 := Lib.hid hb
    have hm1 : (j + 1) % n < n := Nat.mod_lt _ (by omega)
    obtain ⟨x0, x1⟩ := ptCells (fun i hi => (hb.cell (by exact hbB)).trans (HC.out i hi)) hlt
    obtain ⟨y0, y1⟩ := ptCells (fun i hi => (hb.cell (by exact hbB)).trans (HC.out i hi)) hm1
    have hz1 := hb.size
    clear hb hb1 hbox hgl r0
    have r1 : Int.tmod ((j : Int) + 1) (n : Int) = (((j + 1) % n : Nat) : Int) := rem_nat (j + 1) n
    have hpk := HPT.out j hlt
    have hp1 := HPT.out _ hm1
    have HST := Lib.hid (show overTo facX zs n (j + 1) = overTo facX zs n j + part facX zs j ((j + 1) % n) from rfl)
    have hb0 := HBD.out j (by omega)
    unfold ptA at hpk hp1
    have hcr := crossI_bd hpk hp1
    have HPB := part_bd facX_ok (zs := zs) (i := j) (j := (j + 1) % n) hpk hp1
    have hx1 := facX_ok _ _ _ _ hpk hp1
    rw [part_facX] at HST HPB
    unfold facX at hx1
    generalize (j + 1) % n = j1 at *
    generalize overTo facX zs n j = S at *
    have i1 : IntKind.i64.wrap ((j : Int) + 1) = (j : Int) + 1 := IntWalk.i64_in _ (by omega)
    have i3 : IntKind.i64.wrap (j1 : Int) = (j1 : Int) := IntWalk.i64_in _ (by omega)
    have i6 : (j1 : Int) < (n : Int) := by omega
    have i8 : ¬ n = 0 := by omega
    have i9 : ¬ (n : Int) = 0 := by omega
    have i10 : ((n : Int) == 0) = false := by simp; omega
    have i11 : (0 : Int) ≤ (j : Int) := by omega
    have i12 : (0 : Int) ≤ (j1 : Int) := by omega
    have e4 : IntKind.i64.wrap (nth zs (j * 2) + nth zs (j1 * 2)) = nth zs (j * 2) + nth zs (j1 * 2) := IntWalk.i64_in _ (by omega)
    have z0 : (w1.alloc (.cells #[.int .i64 (nth zs (j * 2)), .int .i64 (nth zs (j * 2 + 1))] 43)).cell? ⟨w.heap.size, 0, none⟩ = some (.slice (some ⟨b, off, none⟩) n c) := (cell_alloc_lt' (by omega)).trans hbox1
    have z1 : (w1.alloc (.cells #[.int .i64 (nth zs (j * 2)), .int .i64 (nth zs (j * 2 + 1))] 43)).cell? ⟨b, off + j1 * 2, none⟩ = some (.int .i64 (nth zs (j1 * 2))) := (cell_alloc_lt' (by omega)).trans y0
    have z2 : (w1.alloc (.cells #[.int .i64 (nth zs (j * 2)), .int .i64 (nth zs (j * 2 + 1))] 43)).cell? ⟨b, off + j1 * 2 + 1, none⟩ = some (.int .i64 (nth zs (j1 * 2 + 1))) := (cell_alloc_lt' (by omega)).trans y1
    have HB2 := Lib.hid ((HB1.out.alloc hz1 (.cells #[.int .i64 (nth zs (j * 2)), .int .i64 (nth zs (j * 2 + 1))] 43)).drew.alloc (by simp; omega) (.cells #[.int .i64 (nth zs (j1 * 2)), .int .i64 (nth zs (j1 * 2 + 1))] 43))
    have HXA : Hid (Two ((w1.alloc (.cells #[.int .i64 (nth zs (j * 2)), .int .i64 (nth zs (j * 2 + 1))] 43)).drew.alloc (.cells #[.int .i64 (nth zs (j1 * 2)), .int .i64 (nth zs (j1 * 2 + 1))] 43)) w1.heap.size (.int .i64 (nth zs (j * 2))) (.int .i64 (nth zs (j * 2 + 1))) ∧
      Two ((w1.alloc (.cells #[.int .i64 (nth zs (j * 2)), .int .i64 (nth zs (j * 2 + 1))] 43)).drew.alloc (.cells #[.int .i64 (nth zs (j1 * 2)), .int .i64 (nth zs (j1 * 2 + 1))] 43)) (w1.heap.size + 1) (.int .i64 (nth zs (j1 * 2))) (.int .i64 (nth zs (j1 * 2 + 1)))) := by
     have h := Two.new (w1.alloc (.cells #[.int .i64 (nth zs (j * 2)), .int .i64 (nth zs (j * 2 + 1))] 43)).drew (.int .i64 (nth zs (j1 * 2))) (.int .i64 (nth zs (j1 * 2 + 1))) 43
     rw [World.size_drew, World.size_alloc] at h
     exact ⟨(show Two (w1.alloc _).drew _ _ _ from Two.new w1 _ _ _).alloc _, h⟩
    have hbx7 : ((w1.alloc (.cells #[.int .i64 (nth zs (j * 2)), .int .i64 (nth zs (j * 2 + 1))] 43)).drew.alloc (.cells #[.int .i64 (nth zs (j1 * 2)), .int .i64 (nth zs (j1 * 2 + 1))] 43)).cell? ⟨w.heap.size, 0, none⟩ = some (.slice (some ⟨b, off, none⟩) n c) := (cell_alloc_lt' (by simp; omega)).trans z0
    clear y0 y1 HB1
    have e6 : IntKind.i64.wrap ((nth zs (j * 2) + nth zs (j1 * 2)) * crossI (nth zs (j * 2)) (nth zs (j * 2 + 1)) (nth zs (j1 * 2)) (nth zs (j1 * 2 + 1))) = (nth zs (j * 2) + nth zs (j1 * 2)) * crossI (nth zs (j * 2)) (nth zs (j * 2 + 1)) (nth zs (j1 * 2)) (nth zs (j1 * 2 + 1)) := IntWalk.i64_in _ (by omega)
    have e7 : IntKind.i64.wrap (S + (nth zs (j * 2) + nth zs (j1 * 2)) * crossI (nth zs (j * 2)) (nth zs (j * 2 + 1)) (nth zs (j1 * 2)) (nth zs (j1 * 2 + 1))) = S + (nth zs (j * 2) + nth zs (j1 * 2)) * crossI (nth zs (j * 2)) (nth zs (j * 2 + 1)) (nth zs (j1 * 2)) (nth zs (j1 * 2 + 1)) := IntWalk.i64_in _ (by omega)
    clear HPB hx1 hcr hb0
    go_wp2
    go_region_held3 (fun w' => w'.cell? ⟨w.heap.size, 0, none⟩ = some (.slice (some ⟨b, off, none⟩) n c) ∧ w'.cell? ⟨b, off + j1 * 2, none⟩ = some (.int .i64 (nth zs (j1 * 2))) ∧ w'.cell? ⟨b, off + j1 * 2 + 1, none⟩ = some (.int .i64 (nth zs (j1 * 2 + 1))))
     (first | exact ⟨z0, z1, z2⟩ | exact ⟨(cell_alloc_lt' (by simp; omega)).trans z0, (cell_alloc_lt' (by simp; omega)).trans z1, (cell_alloc_lt' (by simp; omega)).trans z2⟩) (fail)
    clear z0 z1 z2 x0 x1
    have a0 := HXA.out.1.1
    have a1 := HXA.out.1.2.1
    have b0 := HXA.out.2.1
    have b1 := HXA.out.2.2.1
    go_wp2
    go_region_held3 (fun w' => w'.cell? ⟨w1.heap.size, 0, none⟩ = some (.int .i64 (nth zs (j * 2))) ∧ w'.cell? ⟨w1.heap.size, 1, none⟩ = some (.int .i64 (nth zs (j * 2 + 1))) ∧ w'.cell? ⟨w1.heap.size + 1, 0, none⟩ = some (.int .i64 (nth zs (j1 * 2))) ∧ w'.cell? ⟨w1.heap.size + 1, 1, none⟩ = some (.int .i64 (nth zs (j1 * 2 + 1))))
     (first | exact ⟨a0, a1, b0, b1⟩ | exact ⟨(hcc _ _ (by first | (simp; done) | (simp; omega))).trans a0, (hcc _ _ (by first | (simp; done) | (simp; omega))).trans a1, (hcc _ _ (by first | (simp; done) | (simp; omega))).trans b0, (hcc _ _ (by first | (simp; done) | (simp; omega))).trans b1⟩)
     ((go_at_call 174; refine (l04Cross_any _ _ _ _ _ hpk hp1).mono ?_; rintro e w2 ⟨rfl, hb2⟩; obtain ⟨hcc, hff⟩ := bcell hb2))
    have HB3 := Lib.hid (HB2.out.drew.trans (hb2.mono (by simp; omega)))
    have hbox2 := (hb2.cell (p := ⟨w.heap.size, 0, none⟩) (by simp; omega)).trans hbx7
    clear hcc hff hb2 a0 a1 b0 b1 hbx7
    go_wp2
    go_roundw
    case rel => exact ⟨j + 1, by omega, by go_num, by rw [HST.out], hbox2, HB3.out⟩
    case measure => first | (simp [intOf]; done) | (simp [intOf]; omega)
   ·obtain rfl : j = n := by omega
    clear hb
    go_wp2
    go_ret
    exact ⟨ret_int HT.out.symm, HB.out⟩
end X
namespace X
open Go.RowKit
def lwL (zs ls : List Int) (q k : Nat) : List Int := (List.range k).map (leftW zs ls q)
def lmL (zs ls : List Int) (q k : Nat) : List Int := (List.range k).map (leftM zs ls q)
structure LRel (w : World) (zs ls : List Int) (q j : Nat) (va : Value) (v6 v7 : Value) (wr : World) : Prop where
 ws : OwnR wr (w.heap.size + 1) 3 1 v6 j (lwL zs ls q j)
 ms : OwnR wr (w.heap.size + 1) 3 1 v7 j (lmL zs ls q j)
 apart : ApartV v6 v7
 box : RowF wr w.heap.size 26 1 (fun _ => va)
 below : Below w.heap.size w wr
theorem LRel.after {w wr w' : World} {zs ls : List Int} {q j : Nat} {va v6 v7 : Value} (h : LRel w zs ls q j va v6 v7 wr) (hb : Below wr.heap.size wr w') : LRel w zs ls q j va v6 v7 w' :=
 ⟨h.ws.below hb, h.ms.below hb, h.apart, h.box.after hb, h.below.trans (hb.mono h.below.size)⟩
theorem LRel.drew {w wr : World} {zs ls : List Int} {q j : Nat} {va v6 v7 : Value} (h : LRel w zs ls q j va v6 v7 wr) : LRel w zs ls q j va v6 v7 wr.drew := ⟨h.ws, h.ms, h.apart, h.box.drew, below_drewN h.below 1⟩
end X
namespace X
open Go.RowKit
section
variable {zs : List Int} {n : Nat} {ls : List Int} {q : Nat}
end
theorem rowF1 (w : World) (u : Value) (T : TypeId) : RowF (w.alloc (.cells #[u] T)) w.heap.size T 1 (fun _ => u) := RowF.of_row (World.rowIs_alloc w #[u] T (fun _ => u) (fun i hi => by simp at hi; subst hi; rfl))
theorem rowC_new2 (w : World) (a b : Int) (T : TypeId) : RowF (w.alloc (.cells #[.int .i64 a, .int .i64 b] T)) w.heap.size T 2 (ints [a, b]) :=
 RowF.of_row (World.rowIs_alloc w #[.int .i64 a, .int .i64 b] T _ (fun j hj => by simp at hj; match j, hj with | 0, _ => rfl | 1, _ => rfl))
end X
namespace X
open Go.RowKit
def FacCalls (f : FuncId) (F : Fac) : Prop := ∀ (ax ay bx b_y : Int) (w : World), ptB ax ay = true → ptB bx b_y = true →
 Calls Tryzx.prog f #[.agg #[.int .i64 ax, .int .i64 ay], .agg #[.int .i64 bx, .int .i64 b_y]] w fun e w' => e = .returned (.int .i64 (F ax ay bx b_y)) ∧ Below w.heap.size w w'
theorem facOne_calls : FacCalls 195 facOne := by
 intro ax ay bx b_y w ha hb
 rw [ptB_iff] at ha hb
 go_enter Tryzx.func195, Tryz.ntmps195
 go_wp2
 go_ret
 exact ⟨rfl, ((Below.refl _ _).alloc (Nat.le_refl _) _).alloc (by simp) _⟩
set_option maxRecDepth 100000 in
set_option maxHeartbeats 1600000 in
theorem overAreaTwice_any (A : Option Addr) (n c : Nat) (zs : List Int) (w : World) (h : RecsAt w w.heap.size 2 A n zs) :
  Calls Tryzx.prog 177 #[.agg #[.slice A n c], .func (.func 195) #[] #[]] w fun e w' => e = .returned (.int .i64 (overI facOne zs n)) ∧ Below w.heap.size w w' := by
 have hF : FacOk facOne := facOne_ok
 have hC : FacCalls 195 facOne := facOne_calls
 have HA := Lib.hid ((Below.refl w.heap.size w).alloc (Nat.le_refl _) (.cells #[.slice A n c] 150))
 have H0 : RecsAt (w.alloc (.cells #[.slice A n c] 150)) (w.alloc (.cells #[.slice A n c] 150)).heap.size 2 A n zs := (h.alloc (Nat.le_refl _) _).mono (by simp)
 cases hs : stoneB zs n
 ·have HF := Lib.hid (overI_f (F := facOne) hs)
  go_enter Tryzx.func177, Tryz.ntmps177
  go_wp2_with fail
  refine (iStoneOk_any _ _ _ zs _ H0).mono ?_
  rw [hs]
  rintro e w1 ⟨rfl, hb1⟩
  have HB1 := Lib.hid (HA.out.trans (hb1.mono (by simp)))
  clear hb1 H0
  go_wp2
  go_ret
  exact ⟨ret_int HF.out.symm, HB1.out⟩
 ·have ho := stoneB_out hs
  have HT := Lib.hid (overI_t (F := facOne) hs)
  have hn3 := ho.1.1
  have hn6 := ho.1.2
  have HPT := Lib.hid ho.2.1
  have HBD := Lib.hid (overTo_bd hF ho.2.1)
  obtain ⟨b, off, rfl, hbB, hc⟩ := h.2 (by omega)
  have HC := Lib.hid hc
  have HFC := Lib.hid hC
  have HFO := Lib.hid hF
  clear hc h ho hC hF
  go_enter Tryzx.func177, Tryz.ntmps177
  go_wp2_with fail
  refine (iStoneOk_any _ _ _ zs _ H0).mono ?_
  rw [hs]
  rintro e w1 ⟨rfl, hb1⟩
  have HB1 := Lib.hid (HA.out.trans (hb1.mono (by simp)))
  have hbox1 := (hb1.cell (p := ⟨w.heap.size, 0, none⟩) (by simp)).trans (cell_new0 _ _ _)
  clear hb1 H0 hs
  go_wp2
  go_loopw [5, 15] (fun s i wr => ∃ j : Nat, j ≤ n ∧ i = .int .i64 j ∧ s = .int .i64 (overTo facOne zs n j) ∧ wr.cell? ⟨w.heap.size, 0, none⟩ = some (.slice (some ⟨b, off, none⟩) n c) ∧ Below w.heap.size w wr) (fun _ i _ => n - (intOf i).toNat)
  case atStart => exact ⟨0, Nat.zero_le _, rfl, rfl, hbox1, HB1.out⟩
  case round =>
   clear HB1 HA hbox1
   obtain ⟨j, hj, rfl, rfl, hbox, hb⟩ := hrel
   have HB := Lib.hid hb
   have hgl := World.block_lt_of_cell? _ _ hbox
   simp only at hgl
   have hz0 := hb.size
   by_cases hlt : j < n
   ·have hm1 : (j + 1) % n < n := Nat.mod_lt _ (by omega)
    obtain ⟨x0, x1⟩ := ptCells (fun i hi => (hb.cell (by exact hbB)).trans (HC.out i hi)) hlt
    obtain ⟨y0, y1⟩ := ptCells (fun i hi => (hb.cell (by exact hbB)).trans (HC.out i hi)) hm1
    have r1 : Int.tmod ((j : Int) + 1) (n : Int) = (((j + 1) % n : Nat) : Int) := rem_nat (j + 1) n
    have hpk := HPT.out j hlt
    have hp1 := HPT.out _ hm1
    have HST := Lib.hid (show overTo facOne zs n (j + 1) = overTo facOne zs n j + part facOne zs j ((j + 1) % n) from rfl)
    have hb0 := HBD.out j (by omega)
    have hpb := part_bd HFO.out hpk hp1
    clear hb
    unfold ptA at hpk hp1
    have HPX := hpk
    have HPY := hp1
    generalize (j + 1) % n = j1 at *
    have i1 : IntKind.i64.wrap ((j : Int) + 1) = (j : Int) + 1 := IntWalk.i64_in _ (by omega)
    have i3 : IntKind.i64.wrap (j1 : Int) = (j1 : Int) := IntWalk.i64_in _ (by omega)
    have i5 : (j : Int) < (n : Int) := by omega
    have i6 : (j1 : Int) < (n : Int) := by omega
    have i8 : ¬ n = 0 := by omega
    have i9 : ¬ (n : Int) = 0 := by omega
    have i10 : ((n : Int) == 0) = false := by simp; omega
    have i11 : (0 : Int) ≤ (j : Int) := by omega
    have i12 : (0 : Int) ≤ (j1 : Int) := by omega
    have l1 : b < wr.heap.size := by omega
    have l2 : b < wr.heap.size + 1 := by omega
    have l3 : w.heap.size < wr.heap.size + 1 := by omega
    have l4 : ¬ b = wr.heap.size := by omega
    have l5 : ¬ b = wr.heap.size + 1 := by omega
    have l6 : ¬ w.heap.size = wr.heap.size := by omega
    have l7 : ¬ w.heap.size = wr.heap.size + 1 := by omega
    have hcr := crossI_bd hpk hp1
    have hfb := HFO.out _ _ _ _ hpk hp1
    unfold part at HST hpb
    unfold crossI at HST hpb hcr
    rw [ptB_iff] at HPX HPY
    have hmA := mul_bd (m := 60) (n := 60) (a := nth zs (j * 2)) (b := nth zs (j1 * 2 + 1)) (by omega) (by omega)
    have hmB := mul_bd (m := 60) (n := 60) (a := nth zs (j * 2 + 1)) (b := nth zs (j1 * 2)) (by omega) (by omega)
    clear HPX HPY
    generalize nth zs (j * 2) = ax at *
    generalize nth zs (j * 2 + 1) = ay at *
    generalize nth zs (j1 * 2) = bx at *
    generalize nth zs (j1 * 2 + 1) = b_y at *
    generalize overTo facOne zs n j = S at *
    have e1 : IntKind.i64.wrap (ax * b_y) = ax * b_y := IntWalk.i64_in _ (by omega)
    have e2 : IntKind.i64.wrap (ay * bx) = ay * bx := IntWalk.i64_in _ (by omega)
    have e3 : IntKind.i64.wrap (ax * b_y - ay * bx) = ax * b_y - ay * bx := IntWalk.i64_in _ (by omega)
    have e4 : IntKind.i64.wrap (facOne ax ay bx b_y * (ax * b_y - ay * bx)) = facOne ax ay bx b_y * (ax * b_y - ay * bx) := IntWalk.i64_in _ (by omega)
    have e5 : IntKind.i64.wrap (S + facOne ax ay bx b_y * (ax * b_y - ay * bx)) = S + facOne ax ay bx b_y * (ax * b_y - ay * bx) := IntWalk.i64_in _ (by omega)
    go_wp2
    go_region
    ·go_wp2
     go_region_held3 (fun w' => w'.cell? ⟨wr.heap.size, 0, none⟩ = some (.int .i64 ax) ∧ w'.cell? ⟨wr.heap.size, 1, none⟩ = some (.int .i64 ay) ∧ w'.cell? ⟨wr.heap.size + 1, 0, none⟩ = some (.int .i64 bx) ∧ w'.cell? ⟨wr.heap.size + 1, 1, none⟩ = some (.int .i64 b_y)) (first | (go_keep; done) | (refine ⟨?_, ?_, ?_, ?_⟩ <;> (rw [hcc _ _ (by simp <;> omega)]; go_keep))) ((refine (HFC.out _ _ _ _ _ hpk hp1).mono ?_; rintro e w2 ⟨rfl, hb2⟩; obtain ⟨hcc, hff⟩ := bcell hb2))
     have HB2 := Lib.hid ((((HB.out.alloc hz0 _).alloc (by simp; omega) _).drew.drew).trans (hb2.mono (by simp; omega)))
     have hbox2 := (hb2.cell (p := ⟨w.heap.size, 0, none⟩) (by simp; omega)).trans ((World.cell?_alloc_lt _ _ _ (by simp; omega)).trans ((World.cell?_alloc_lt _ _ _ (by simp; omega)).trans hbox))
     clear hcc hff hb2
     go_wp2
     go_roundw
     case rel => exact ⟨j + 1, by omega, by go_num, by rw [HST.out], hbox2, HB2.out⟩
     case measure => first | (simp [intOf]; done) | (simp [intOf]; omega)
    ·go_wp2
     go_region_held3 (fun w' => w'.cell? ⟨wr.heap.size + 1, 0, none⟩ = some (.int .i64 ax) ∧ w'.cell? ⟨wr.heap.size + 1, 1, none⟩ = some (.int .i64 ay) ∧ w'.cell? ⟨wr.heap.size, 0, none⟩ = some (.int .i64 bx) ∧ w'.cell? ⟨wr.heap.size, 1, none⟩ = some (.int .i64 b_y)) (first | (go_keep; done) | (refine ⟨?_, ?_, ?_, ?_⟩ <;> (rw [hcc _ _ (by simp <;> omega)]; go_keep))) ((refine (HFC.out _ _ _ _ _ hpk hp1).mono ?_; rintro e w2 ⟨rfl, hb2⟩; obtain ⟨hcc, hff⟩ := bcell hb2))
     have HB2 := Lib.hid ((((HB.out.alloc hz0 _).alloc (by simp; omega) _).drew.drew).trans (hb2.mono (by simp; omega)))
     have hbox2 := (hb2.cell (p := ⟨w.heap.size, 0, none⟩) (by simp; omega)).trans ((World.cell?_alloc_lt _ _ _ (by simp; omega)).trans ((World.cell?_alloc_lt _ _ _ (by simp; omega)).trans hbox))
     clear hcc hff hb2
     go_wp2
     go_roundw
     case rel => exact ⟨j + 1, by omega, by go_num, by rw [HST.out], hbox2, HB2.out⟩
     case measure => first | (simp [intOf]; done) | (simp [intOf]; omega)
   ·obtain rfl : j = n := by omega
    clear hb
    go_wp2
    go_ret
    exact ⟨ret_int HT.out.symm, HB.out⟩
theorem iAreaTwice_any (A : Option Addr) (n c : Nat) (zs : List Int) (w : World) (h : RecsAt w w.heap.size 2 A n zs) :
  Calls Tryzx.prog 176 #[.agg #[.slice A n c]] w fun e w' => e = .returned (.int .i64 (overI facOne zs n)) ∧ Below w.heap.size w w' := by
 have HA := Lib.hid ((Below.refl w.heap.size w).alloc (Nat.le_refl _) (.cells #[.slice A n c] 150))
 have H0 : RecsAt (w.alloc (.cells #[.slice A n c] 150)) (w.alloc (.cells #[.slice A n c] 150)).heap.size 2 A n zs := (h.alloc (Nat.le_refl _) _).mono (by simp)
 go_enter Tryzx.func176, Tryz.ntmps176
 go_wp2_with fail
 refine (overAreaTwice_any _ _ _ zs _ H0).mono ?_
 rintro e w1 ⟨rfl, hb1⟩
 have HB1 := Lib.hid (HA.out.trans (hb1.mono (by simp)))
 clear hb1
 go_wp2
 go_ret
 exact ⟨rfl, HB1.out⟩
theorem iWeightOf_any (A : Option Addr) (n c : Nat) (zs : List Int) (w : World) (h : RecsAt w w.heap.size 2 A n zs) :
  Calls Tryzx.prog 135 #[.agg #[.slice A n c]] w fun e w' => e = .returned (.int .i64 (weightI zs n)) ∧ Below w.heap.size w w' := by
 have HA := Lib.hid ((Below.refl w.heap.size w).alloc (Nat.le_refl _) (.cells #[.slice A n c] 150))
 have H0 : RecsAt (w.alloc (.cells #[.slice A n c] 150)) (w.alloc (.cells #[.slice A n c] 150)).heap.size 2 A n zs := (h.alloc (Nat.le_refl _) _).mono (by simp)
 have hbd := overI_bd facOne_ok zs n
 go_enter Tryzx.func135, Tryz.ntmps135
 go_wp2_with fail
 refine (iAreaTwice_any _ _ _ zs _ H0).mono ?_
 rintro e w1 ⟨rfl, hb1⟩
 have HB1 := Lib.hid (HA.out.trans (hb1.mono (by simp)))
 clear hb1
 go_wp2
 go_ret
 exact ⟨ret_int (by unfold weightI; rfl), HB1.out⟩
theorem facX_calls : FacCalls 178 facX := by
 intro ax ay bx b_y w ha hb
 rw [ptB_iff] at ha hb
 go_enter Tryzx.func178, Tryz.ntmps178
 go_wp2
 go_ret
 exact ⟨rfl, ((Below.refl _ _).alloc (Nat.le_refl _) _).alloc (by simp) _⟩
set_option maxRecDepth 100000 in
set_option maxHeartbeats 1600000 in
theorem overMomentOf_any (A : Option Addr) (n c : Nat) (zs : List Int) (w : World) (h : RecsAt w w.heap.size 2 A n zs) :
  Calls Tryzx.prog 177 #[.agg #[.slice A n c], .func (.func 178) #[] #[]] w fun e w' => e = .returned (.int .i64 (overI facX zs n)) ∧ Below w.heap.size w w' := by
 have hF : FacOk facX := facX_ok
 have hC : FacCalls 178 facX := facX_calls
 have HA := Lib.hid ((Below.refl w.heap.size w).alloc (Nat.le_refl _) (.cells #[.slice A n c] 150))
 have H0 : RecsAt (w.alloc (.cells #[.slice A n c] 150)) (w.alloc (.cells #[.slice A n c] 150)).heap.size 2 A n zs := (h.alloc (Nat.le_refl _) _).mono (by simp)
 cases hs : stoneB zs n
 ·have HF := Lib.hid (overI_f (F := facX) hs)
  go_enter Tryzx.func177, Tryz.ntmps177
  go_wp2_with fail
  refine (iStoneOk_any _ _ _ zs _ H0).mono ?_
  rw [hs]
  rintro e w1 ⟨rfl, hb1⟩
  have HB1 := Lib.hid (HA.out.trans (hb1.mono (by simp)))
  clear hb1 H0
  go_wp2
  go_ret
  exact ⟨ret_int HF.out.symm, HB1.out⟩
 ·have ho := stoneB_out hs
  have HT := Lib.hid (overI_t (F := facX) hs)
  have hn3 := ho.1.1
  have hn6 := ho.1.2
  have HPT := Lib.hid ho.2.1
  have HBD := Lib.hid (overTo_bd hF ho.2.1)
  obtain ⟨b, off, rfl, hbB, hc⟩ := h.2 (by omega)
  have HC := Lib.hid hc
  have HFC := Lib.hid hC
  have HFO := Lib.hid hF
  clear hc h ho hC hF
  go_enter Tryzx.func177, Tryz.ntmps177
  go_wp2_with fail
  refine (iStoneOk_any _ _ _ zs _ H0).mono ?_
  rw [hs]
  rintro e w1 ⟨rfl, hb1⟩
  have HB1 := Lib.hid (HA.out.trans (hb1.mono (by simp)))
  have hbox1 := (hb1.cell (p := ⟨w.heap.size, 0, none⟩) (by simp)).trans (cell_new0 _ _ _)
  clear hb1 H0 hs
  go_wp2
  go_loopw [5, 15] (fun s i wr => ∃ j : Nat, j ≤ n ∧ i = .int .i64 j ∧ s = .int .i64 (overTo facX zs n j) ∧ wr.cell? ⟨w.heap.size, 0, none⟩ = some (.slice (some ⟨b, off, none⟩) n c) ∧ Below w.heap.size w wr) (fun _ i _ => n - (intOf i).toNat)
  case atStart => exact ⟨0, Nat.zero_le _, rfl, rfl, hbox1, HB1.out⟩
  case round =>
   clear HB1 HA hbox1
   obtain ⟨j, hj, rfl, rfl, hbox, hb⟩ := hrel
   have HB := Lib.hid hb
   have hgl := World.block_lt_of_cell? _ _ hbox
   simp only at hgl
   have hz0 := hb.size
   by_cases hlt : j < n
   ·have hm1 : (j + 1) % n < n := Nat.mod_lt _ (by omega)
    obtain ⟨x0, x1⟩ := ptCells (fun i hi => (hb.cell (by exact hbB)).trans (HC.out i hi)) hlt
    obtain ⟨y0, y1⟩ := ptCells (fun i hi => (hb.cell (by exact hbB)).trans (HC.out i hi)) hm1
    have r1 : Int.tmod ((j : Int) + 1) (n : Int) = (((j + 1) % n : Nat) : Int) := rem_nat (j + 1) n
    have hpk := HPT.out j hlt
    have hp1 := HPT.out _ hm1
    have HST := Lib.hid (show overTo facX zs n (j + 1) = overTo facX zs n j + part facX zs j ((j + 1) % n) from rfl)
    have hb0 := HBD.out j (by omega)
    have hpb := part_bd HFO.out hpk hp1
    clear hb
    unfold ptA at hpk hp1
    have HPX := hpk
    have HPY := hp1
    generalize (j + 1) % n = j1 at *
    have i1 : IntKind.i64.wrap ((j : Int) + 1) = (j : Int) + 1 := IntWalk.i64_in _ (by omega)
    have i3 : IntKind.i64.wrap (j1 : Int) = (j1 : Int) := IntWalk.i64_in _ (by omega)
    have i5 : (j : Int) < (n : Int) := by omega
    have i6 : (j1 : Int) < (n : Int) := by omega
    have i8 : ¬ n = 0 := by omega
    have i9 : ¬ (n : Int) = 0 := by omega
    have i10 : ((n : Int) == 0) = false := by simp; omega
    have i11 : (0 : Int) ≤ (j : Int) := by omega
    have i12 : (0 : Int) ≤ (j1 : Int) := by omega
    have l1 : b < wr.heap.size := by omega
    have l2 : b < wr.heap.size + 1 := by omega
    have l3 : w.heap.size < wr.heap.size + 1 := by omega
    have l4 : ¬ b = wr.heap.size := by omega
    have l5 : ¬ b = wr.heap.size + 1 := by omega
    have l6 : ¬ w.heap.size = wr.heap.size := by omega
    have l7 : ¬ w.heap.size = wr.heap.size + 1 := by omega
    have hcr := crossI_bd hpk hp1
    have hfb := HFO.out _ _ _ _ hpk hp1
    unfold part at HST hpb
    unfold crossI at HST hpb hcr
    rw [ptB_iff] at HPX HPY
    have hmA := mul_bd (m := 60) (n := 60) (a := nth zs (j * 2)) (b := nth zs (j1 * 2 + 1)) (by omega) (by omega)
    have hmB := mul_bd (m := 60) (n := 60) (a := nth zs (j * 2 + 1)) (b := nth zs (j1 * 2)) (by omega) (by omega)
    clear HPX HPY
    generalize nth zs (j * 2) = ax at *
    generalize nth zs (j * 2 + 1) = ay at *
    generalize nth zs (j1 * 2) = bx at *
    generalize nth zs (j1 * 2 + 1) = b_y at *
    generalize overTo facX zs n j = S at *
    have e1 : IntKind.i64.wrap (ax * b_y) = ax * b_y := IntWalk.i64_in _ (by omega)
    have e2 : IntKind.i64.wrap (ay * bx) = ay * bx := IntWalk.i64_in _ (by omega)
    have e3 : IntKind.i64.wrap (ax * b_y - ay * bx) = ax * b_y - ay * bx := IntWalk.i64_in _ (by omega)
    have e4 : IntKind.i64.wrap (facX ax ay bx b_y * (ax * b_y - ay * bx)) = facX ax ay bx b_y * (ax * b_y - ay * bx) := IntWalk.i64_in _ (by omega)
    have e5 : IntKind.i64.wrap (S + facX ax ay bx b_y * (ax * b_y - ay * bx)) = S + facX ax ay bx b_y * (ax * b_y - ay * bx) := IntWalk.i64_in _ (by omega)
    go_wp2
    go_region
    ·go_wp2
     go_region_held3 (fun w' => w'.cell? ⟨wr.heap.size, 0, none⟩ = some (.int .i64 ax) ∧ w'.cell? ⟨wr.heap.size, 1, none⟩ = some (.int .i64 ay) ∧ w'.cell? ⟨wr.heap.size + 1, 0, none⟩ = some (.int .i64 bx) ∧ w'.cell? ⟨wr.heap.size + 1, 1, none⟩ = some (.int .i64 b_y)) (first | (go_keep; done) | (refine ⟨?_, ?_, ?_, ?_⟩ <;> (rw [hcc _ _ (by simp <;> omega)]; go_keep))) ((refine (HFC.out _ _ _ _ _ hpk hp1).mono ?_; rintro e w2 ⟨rfl, hb2⟩; obtain ⟨hcc, hff⟩ := bcell hb2))
     have HB2 := Lib.hid ((((HB.out.alloc hz0 _).alloc (by simp; omega) _).drew.drew).trans (hb2.mono (by simp; omega)))
     have hbox2 := (hb2.cell (p := ⟨w.heap.size, 0, none⟩) (by simp; omega)).trans ((World.cell?_alloc_lt _ _ _ (by simp; omega)).trans ((World.cell?_alloc_lt _ _ _ (by simp; omega)).trans hbox))
     clear hcc hff hb2
     go_wp2
     go_roundw
     case rel => exact ⟨j + 1, by omega, by go_num, by rw [HST.out], hbox2, HB2.out⟩
     case measure => first | (simp [intOf]; done) | (simp [intOf]; omega)
    ·go_wp2
     go_region_held3 (fun w' => w'.cell? ⟨wr.heap.size + 1, 0, none⟩ = some (.int .i64 ax) ∧ w'.cell? ⟨wr.heap.size + 1, 1, none⟩ = some (.int .i64 ay) ∧ w'.cell? ⟨wr.heap.size, 0, none⟩ = some (.int .i64 bx) ∧ w'.cell? ⟨wr.heap.size, 1, none⟩ = some (.int .i64 b_y)) (first | (go_keep; done) | (refine ⟨?_, ?_, ?_, ?_⟩ <;> (rw [hcc _ _ (by simp <;> omega)]; go_keep))) ((refine (HFC.out _ _ _ _ _ hpk hp1).mono ?_; rintro e w2 ⟨rfl, hb2⟩; obtain ⟨hcc, hff⟩ := bcell hb2))
     have HB2 := Lib.hid ((((HB.out.alloc hz0 _).alloc (by simp; omega) _).drew.drew).trans (hb2.mono (by simp; omega)))
     have hbox2 := (hb2.cell (p := ⟨w.heap.size, 0, none⟩) (by simp; omega)).trans ((World.cell?_alloc_lt _ _ _ (by simp; omega)).trans ((World.cell?_alloc_lt _ _ _ (by simp; omega)).trans hbox))
     clear hcc hff hb2
     go_wp2
     go_roundw
     case rel => exact ⟨j + 1, by omega, by go_num, by rw [HST.out], hbox2, HB2.out⟩
     case measure => first | (simp [intOf]; done) | (simp [intOf]; omega)
   ·obtain rfl : j = n := by omega
    clear hb
    go_wp2
    go_ret
    exact ⟨ret_int HT.out.symm, HB.out⟩
theorem iMomentOf_any (A : Option Addr) (n c : Nat) (zs : List Int) (w : World) (h : RecsAt w w.heap.size 2 A n zs) :
  Calls Tryzx.prog 136 #[.agg #[.slice A n c]] w fun e w' => e = .returned (.int .i64 (overI facX zs n)) ∧ Below w.heap.size w w' := by
 have HA := Lib.hid ((Below.refl w.heap.size w).alloc (Nat.le_refl _) (.cells #[.slice A n c] 150))
 have H0 : RecsAt (w.alloc (.cells #[.slice A n c] 150)) (w.alloc (.cells #[.slice A n c] 150)).heap.size 2 A n zs := (h.alloc (Nat.le_refl _) _).mono (by simp)
 go_enter Tryzx.func136, Tryz.ntmps136
 go_wp2_with fail
 refine (overMomentOf_any _ _ _ zs _ H0).mono ?_
 rintro e w1 ⟨rfl, hb1⟩
 have HB1 := Lib.hid (HA.out.trans (hb1.mono (by simp)))
 clear hb1
 go_wp2
 go_ret
 exact ⟨rfl, HB1.out⟩
end X
end Go.Proofs.YtbpnbhemdbgmjaaGreat
