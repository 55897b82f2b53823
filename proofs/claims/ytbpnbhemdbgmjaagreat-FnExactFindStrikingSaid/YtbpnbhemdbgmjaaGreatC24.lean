/-
  Texts that the law stands on, part 24.
-/
import Derived.Test.YtbpnbhemdbgmjaaGreatC1
import Derived.Test.YtbpnbhemdbgmjaaGreatC11
import Derived.Test.YtbpnbhemdbgmjaaGreatC17
import Derived.Test.YtbpnbhemdbgmjaaGreatC19
import Derived.Test.YtbpnbhemdbgmjaaGreatC22
import Derived.Test.YtbpnbhemdbgmjaaGreatC23
import Derived.Deep.RegionLaw
import Derived.Deep.DeepCutAuto
import Derived.Deep.RegionHeld3
import Derived.Outline
set_option linter.unusedVariables false
set_option linter.unusedSimpArgs false
namespace Go.Proofs.YtbpnbhemdbgmjaaGreat
namespace X
open Go.RowKit
theorem infoWt : (Tryzx.prog.info? 105).map (fun i => (i.zero, i.size, i.bytes)) = some (some (.agg #[.int .i64 0, .int .i64 0]), 2, 16) := by kernel_rfl
theorem box_set {w : World} {g : Nat} {t : TypeId} {f : Nat → Value} (v : Value) (h : RowF w g t 1 f) : Box (w.setCell ⟨g, 0, none⟩ v) g v :=
 ⟨by have := (h.set 0 v).cell (i := 0) (by omega); simpa using this, by simpa using h.lt⟩
theorem rowF_new1 (w : World) (u : Value) (t : TypeId) : RowF (w.alloc (.cells #[u] t)) w.heap.size t 1 (fun _ => u) := RowF.of_row (World.rowIs_alloc w #[u] t (fun _ => u) (fun i hi => by simp at hi; subst hi; rfl))
theorem rowF_new3 (w : World) (a b c : Int) (T : TypeId) : RowF (w.alloc (.cells #[.int .i64 a, .int .i64 b, .int .i64 c] T)) w.heap.size T 3 (ints [a, b, c]) :=
 RowF.of_row (World.rowIs_alloc w #[.int .i64 a, .int .i64 b, .int .i64 c] T _ (fun j hj => by simp at hj; match j, hj with | 0, _ => rfl | 1, _ => rfl | 2, _ => rfl))
def WtsPost (w : World) (L : List Int) (m : Nat) (e : Ending) (w' : World) : Prop :=
 ∃ g, e = .returned (.slice (some ⟨g, 0, none⟩) m m) ∧ w.heap.size ≤ g ∧ RowF w' g 105 (m * 2) (ints L) ∧ Below w.heap.size w w'
theorem wmL_fill {zs ls : List Int} {i m k : Nat} (hk : k < m) : (fun j => if j = k * 2 + 1 then Value.int .i64 (kmTo zs ls k i) else if j = k * 2 then Value.int .i64 (kwTo zs ls k i) else fill (wmL zs ls i m) (k * 2) j) = fill (wmL zs ls i m) ((k + 1) * 2) := by
 funext j
 have h := wmL_nth zs ls i hk
 have h2 := fill_step2 (wmL zs ls i m) (k * 2) j
 rw [h.1, h.2] at h2
 rw [h2, show (k + 1) * 2 = k * 2 + 2 by omega]
theorem wmL_load {zs ls : List Int} {i m k : Nat} (hk : k < m) (h : nth ls (i * 3) = (k : Int)) : ∀ j, j < m * 2 → (if j = k * 2 + 1 then Value.int .i64 (kmTo zs ls k (i + 1)) else if j = k * 2 then Value.int .i64 (kwTo zs ls k (i + 1)) else ints (wmL zs ls i m) j) = ints (wmL zs ls (i + 1) m) j := by
 intro j hj
 have h1 := wmL_nth zs ls (i + 1) hk
 by_cases e1 : j = k * 2 + 1
 ·subst e1; rw [if_pos rfl, ints_def, h1.2]
 ·by_cases e2 : j = k * 2
  ·subst e2; rw [if_neg e1, if_pos rfl, ints_def, h1.1]
  ·rw [if_neg e1, if_neg e2, ints_def, ints_def]
   have hne : ¬ nth ls (i * 3) = ((j / 2 : Nat) : Int) := by omega
   have ha := wmL_nth zs ls i (m := m) (k := j / 2) (by omega)
   have hb := wmL_nth zs ls (i + 1) (m := m) (k := j / 2) (by omega)
   rw [kwTo_f zs hne, kmTo_f zs hne] at hb
   rcases Nat.mod_two_eq_zero_or_one j with e | e
   ·rw [show j = j / 2 * 2 by omega, ha.1, hb.1]
   ·rw [show j = j / 2 * 2 + 1 by omega, ha.2, hb.2]
set_option maxRecDepth 100000 in
set_option maxHeartbeats 3200000 in
theorem weightsOf_any (A : Option Addr) (n c : Nat) (zs : List Int) (B : Option Addr) (q d : Nat) (ls : List Int) (w : World) (h : RecsAt w w.heap.size 4 A n zs) (hl : RecsAt w w.heap.size 3 B q ls) (hL : loadsB zs n ls q = true) :
    Calls Tryzx.prog 90 #[.agg #[.slice A n c], .slice B q d] w (WtsPost w (wmL zs ls q (n - 1)) (n - 1)) := by
  obtain ⟨hA, hq6, hLA⟩ := loadsB_out hL
  obtain ⟨hn8, hpt⟩ := archB_out hA
  obtain ⟨m, rfl⟩ : ∃ m, n = m + 1 := ⟨n - 1, by omega⟩
  rw [Nat.add_sub_cancel] at hpt ⊢
  have hmk := fun W => run_make_recs (P := Tryzx.prog) 102 105 2 16 #[.int .i64 0, .int .i64 0] Tryzx.underlying102 infoWt m (by omega) (by omega) W
  have HPT := Lib.hid hpt
  have HLA := Lib.hid hLA
  have HKB := Lib.hid (fun k i hi => kwTo_bd zs hLA hq6 k (i := i) hi)
  have HMB := Lib.hid (fun k i hi => kmTo_bd zs hLA hq6 k (i := i) hi)
  obtain ⟨b, off, rfl, hbB, hcell⟩ := h.2 (by omega)
  have HC := Lib.hid (fun j (hj : j < m + 1) => jtCells hcell hj)
  have HLD := Lib.hid hl
  have e1 : ((m + 1 : Nat) : Int) - 1 = (m : Int) := by omega
  have e2 : IntKind.i64.wrap (((m + 1 : Nat) : Int) - 1) = (m : Int) := by rw [e1]; exact IntWalk.i64_in _ (by omega)
  have HB0 := Lib.hid (((Below.refl w.heap.size w).alloc (Nat.le_refl _) (.cells #[.slice (some ⟨b, off, none⟩) (m + 1) c] 26)).alloc (by simp) (.cells (madeCells #[.int .i64 0, .int .i64 0] (m * 2)) 105))
  have HX0 := Lib.hid ((Box.new w (.slice (some ⟨b, off, none⟩) (m + 1) c) 26).alloc (.cells (madeCells #[.int .i64 0, .int .i64 0] (m * 2)) 105))
  have HR0 : Hid (RowF ((w.alloc (.cells #[.slice (some ⟨b, off, none⟩) (m + 1) c] 26)).alloc (.cells (madeCells #[.int .i64 0, .int .i64 0] (m * 2)) 105)) (w.heap.size + 1) 105 (m * 2) (fill (wmL zs ls 0 m) (0 * 2))) := by
    have h := RowF.of_row (rowIs_made0 (w.alloc (.cells #[.slice (some ⟨b, off, none⟩) (m + 1) c] 26)) #[.int .i64 0, .int .i64 0] 105 (m * 2) (fun j hj => by simp at hj; match j, hj with | 0, _ => rfl | 1, _ => rfl) (by simp) (wmL zs ls 0 m))
    rw [World.size_alloc] at h
    exact h
  clear hcell h hl hL hA hLA hpt
  go_enter Tryzx.func90, Tryz.ntmps90
  go_wp2
  clear hmk
  go_loopw [18] (fun i wr => ∃ k : Nat, k ≤ m ∧ i = .int .i64 k ∧ Hid (RowF wr (w.heap.size + 1) 105 (m * 2) (fill (wmL zs ls 0 m) (k * 2))) ∧ Hid (Box wr w.heap.size (.slice (some ⟨b, off, none⟩) (m + 1) c)) ∧ Hid (Below w.heap.size w wr)) (fun i _ => m - (intOf i).toNat)
  case atStart => exact ⟨0, Nat.zero_le _, rfl, HR0, HX0, HB0⟩
  case round =>
    clear HR0 HX0 HB0
    obtain ⟨k, hk, rfl, HR, HX, HB⟩ := hrel
    by_cases hlt : k < m
    · have hq := HC.out k (by omega)
      have hq2 := HC.out (k + 1) (by omega)
      have hz := HB.out.size
      have hbr : b < wr.heap.size := by omega
      have hgl := HX.out.2
      have hrl := HR.out.lt
      have hbox := HX.out.1
      have x0 := (HB.out.cell (p := ⟨b, off + k * 4, none⟩) hbB).trans hq.1
      have x1 := (HB.out.cell (p := ⟨b, off + k * 4 + 1, none⟩) hbB).trans hq.2.1
      have x2 := (HB.out.cell (p := ⟨b, off + k * 4 + 2, none⟩) hbB).trans hq.2.2.1
      have x3 := (HB.out.cell (p := ⟨b, off + k * 4 + 3, none⟩) hbB).trans hq.2.2.2
      have y0 := (HB.out.cell (p := ⟨b, off + (k + 1) * 4, none⟩) hbB).trans hq2.1
      have y1 := (HB.out.cell (p := ⟨b, off + (k + 1) * 4 + 1, none⟩) hbB).trans hq2.2.1
      have y2 := (HB.out.cell (p := ⟨b, off + (k + 1) * 4 + 2, none⟩) hbB).trans hq2.2.2.1
      have y3 := (HB.out.cell (p := ⟨b, off + (k + 1) * 4 + 3, none⟩) hbB).trans hq2.2.2.2
      have i1 : IntKind.i64.wrap ((k : Int) + 1) = (k : Int) + 1 := IntWalk.i64_in _ (by omega)
      have i2 : (k : Int) < ((m + 1 : Nat) : Int) := by omega
      have i2' : (k : Int) < (m : Int) + 1 := by omega
      have i3 : (k : Int) + 1 < ((m + 1 : Nat) : Int) := by omega
      have i3' : (k : Int) + 1 < (m : Int) + 1 := by omega
      have i4 : (0 : Int) ≤ (k : Int) + 1 := by omega
      have i5 : ((k : Int) + 1).toNat = k + 1 := by omega
      have i6 : (0 : Int) ≤ (k : Int) := by omega
      have i7 : (k : Int) < (m : Int) := by omega
      have ne1 : wr.heap.size ≠ w.heap.size := by omega
      have ne2 : wr.heap.size ≠ b := by omega
      have HST : Hid (btwA zs k = btw (nth zs (k * 4)) (nth zs (k * 4 + 1)) (nth zs (k * 4 + 2)) (nth zs (k * 4 + 3)) (nth zs ((k + 1) * 4)) (nth zs ((k + 1) * 4 + 1)) (nth zs ((k + 1) * 4 + 2)) (nth zs ((k + 1) * 4 + 3))) := rfl
      have hS : stoneB (btw (nth zs (k * 4)) (nth zs (k * 4 + 1)) (nth zs (k * 4 + 2)) (nth zs (k * 4 + 3)) (nth zs ((k + 1) * 4)) (nth zs ((k + 1) * 4 + 1)) (nth zs ((k + 1) * 4 + 2)) (nth zs ((k + 1) * 4 + 3))) 4 = true := by
        have := HPT.out k hlt
        simp only [pairB, Bool.and_eq_true] at this
        exact this.1
      clear hq hq2
      obtain ⟨wk, rfl⟩ : ∃ wk : World, wk = wr := ⟨_, rfl⟩
      go_upto_region 5 with fail
      go_cut [7] (fun s7 wx => ∃ gs gq : Nat, s7 = .pointer (some ⟨gs, 0, none⟩) ∧ wk.heap.size ≤ gs ∧ Hid (Box wx gs (.slice (some ⟨gq, 0, none⟩) 4 4)) ∧ Hid (RecsAt wx wx.heap.size 2 (some ⟨gq, 0, none⟩) 4 (btwA zs k)) ∧ Hid (Below wk.heap.size wk wx))
      case first =>
        go_region_held3 (fun w' => w'.cell? ⟨w.heap.size, 0, none⟩ = some (.slice (some ⟨b, off, none⟩) (m + 1) c) ∧ (w'.cell? ⟨b, off + k * 4, none⟩ = some (.int .i64 (nth zs (k * 4))) ∧ w'.cell? ⟨b, off + k * 4 + 1, none⟩ = some (.int .i64 (nth zs (k * 4 + 1))) ∧ w'.cell? ⟨b, off + k * 4 + 2, none⟩ = some (.int .i64 (nth zs (k * 4 + 2))) ∧ w'.cell? ⟨b, off + k * 4 + 3, none⟩ = some (.int .i64 (nth zs (k * 4 + 3)))) ∧ (w'.cell? ⟨b, off + (k + 1) * 4, none⟩ = some (.int .i64 (nth zs ((k + 1) * 4))) ∧ w'.cell? ⟨b, off + (k + 1) * 4 + 1, none⟩ = some (.int .i64 (nth zs ((k + 1) * 4 + 1))) ∧ w'.cell? ⟨b, off + (k + 1) * 4 + 2, none⟩ = some (.int .i64 (nth zs ((k + 1) * 4 + 2))) ∧ w'.cell? ⟨b, off + (k + 1) * 4 + 3, none⟩ = some (.int .i64 (nth zs ((k + 1) * 4 + 3))))) (first | exact ⟨hbox, ⟨x0, x1, x2, x3⟩, ⟨y0, y1, y2, y3⟩⟩ | (refine keepA (by assumption) (fun i => ?_) ?_ <;> first | exact cell_alloc_lt (by first | (simp; done) | (simp; omega) | omega) | exact (cell_alloc_lt (by first | (simp; done) | (simp; omega) | omega)).trans (cell_alloc_lt (by first | (simp; done) | (simp; omega) | omega)).symm | exact hcc _ _ (by first | (simp; done) | (simp; omega) | omega) | exact World.cell?_setCell_far _ _ _ _ (by first | (simp; done) | (simp; omega) | omega))) ((go_at_call 121; refine (iBetween_any _ _ _ _ _ _ _ _ _).mono ?_; rintro e w1 ⟨A1, n1, c1, rfl, ht, _, hb1⟩; obtain ⟨rfl, rfl, gq, rfl, hrq, hgq⟩ := ht hS; rw [hS]; obtain ⟨hcc, hff⟩ := bcell hb1; have k1 := hb1.size; simp at k1; have k2 : w1.heap.size ≠ w.heap.size := (by omega); have k3 : w1.heap.size ≠ b := (by omega)))
        · go_wp2_with fail
          go_meet
          have hzk := hb1.size
          simp at hzk
          have hgl2 := hrq.lt
          exact ⟨w1.heap.size, gq, rfl, by omega, Lib.hid (Box.new _ _ _), Lib.hid ((show RowF (w1.alloc _) gq 43 (4 * 2) (ints (btwA zs k)) from hrq.alloc _).recs rfl), Lib.hid (((below_drewN (Below.refl wk.heap.size wk) 1).trans (hb1.mono (by simp))).alloc (by omega) _)⟩
        · go_wp2_with fail
          go_meet
          have hzk := hb1.size
          simp at hzk
          have hgl2 := hrq.lt
          have hrw := (rowF_new1 wk.drew (.slice none 0 0) 150).after hb1
          simp at hgq
          exact ⟨wk.heap.size, gq, rfl, by omega, Lib.hid (box_set _ hrw), Lib.hid ((show RowF (w1.setCell _ _) gq 43 (4 * 2) (ints (btwA zs k)) from hrq.set_other (by simp; omega) _).recs rfl), Lib.hid ((((below_drewN (Below.refl wk.heap.size wk) 1).alloc (Nat.le_refl _) _).trans (hb1.mono (by simp))).setCell (by simp) _)⟩
      case rest =>
        clear x0 x1 x2 x3 y0 y1 y2 y3 hbox
        obtain ⟨gs, gq, rfl, hgs, HBX, HRQ, HBW⟩ := hcut
        have HRc := Lib.hid (HR.out.after HBW.out)
        have HXc := Lib.hid (HX.out.after HBW.out)
        have HBc := Lib.hid (HB.out.trans (HBW.out.mono hz))
        have hgsl := HBX.out.2
        have bxc := HBX.out.1
        have hrlc := HRc.out.lt
        have hzc := HBW.out.size
        have hnes : w.heap.size + 1 ≠ gs := by omega
        have HSW : Hid (swt zs k = weightI (btwA zs k) 4 ∧ smt zs k = overI facX (btwA zs k) 4) := ⟨rfl, rfl⟩
        clear HR HX HB
        go_wp2
        go_region_held3 (fun w' => w'.cell? ⟨gs, 0, none⟩ = some (.slice (some ⟨gq, 0, none⟩) 4 4)) (first | exact bxc | assumption | (refine (World.cell?_setCell_far _ _ _ _ hnes).trans ((World.cell?_setCell_far _ _ _ _ hnes).trans ?_); assumption))
          ((first
            | (go_at_call 135; refine (iWeightOf_any _ _ _ (btwA zs k) _ (by exact HRQ.out)).mono ?_; rintro e w1 ⟨rfl, hb1⟩; have bx1 : w1.cell? ⟨gs, 0, none⟩ = some (.slice (some ⟨gq, 0, none⟩) 4 4) := (hb1.cell (p := ⟨gs, 0, none⟩) (by exact hgsl)).trans bxc; have HQ1 := Lib.hid ((show RecsAt wc.drew wc.drew.heap.size 2 _ 4 (btwA zs k) from HRQ.out).after hb1))
            | (go_at_call 136; refine (iMomentOf_any _ _ _ (btwA zs k) _ HQ1.out).mono ?_; rintro e w2 ⟨rfl, hb2⟩; have HR2 := Lib.hid ((show RowF wc.drew _ _ _ _ from HRc.out).after hb1 |>.after hb2); have bx2 : w2.cell? ⟨gs, 0, none⟩ = some (.slice (some ⟨gq, 0, none⟩) 4 4) := (hb2.cell (p := ⟨gs, 0, none⟩) (by have := hb1.size; simp at this; exact Nat.lt_of_lt_of_le hgsl this)).trans bx1; have d0 := HR2.out.cell (i := k * 2) (by omega); have d1 := HR2.out.cell (i := k * 2 + 1) (by omega); have f0 := HR2.out.frozen (k * 2); have f1 := HR2.out.frozen (k * 2 + 1))))
        have HB3 := Lib.hid ((((below_drewN HBc.out 1).trans (hb1.mono (by simp; omega))).trans (hb2.mono (by have := hb1.size; simp at this; omega))).setCell (p := ⟨w.heap.size + 1, k * 2, none⟩) (by simp) (.int .i64 (weightI (btwA zs k) 4)) |>.setCell (p := ⟨w.heap.size + 1, k * 2 + 1, none⟩) (by simp) (.int .i64 (overI facX (btwA zs k) 4)))
        have HX3 := Lib.hid (((show Box wc.drew _ _ from HXc.out).after hb1).after hb2)
        have HX4 : Hid (Box ((w2.setCell ⟨w.heap.size + 1, k * 2, none⟩ (.int .i64 (weightI (btwA zs k) 4))).setCell ⟨w.heap.size + 1, k * 2 + 1, none⟩ (.int .i64 (overI facX (btwA zs k) 4))) w.heap.size (.slice (some ⟨b, off, none⟩) (m + 1) c)) :=
          ⟨(World.cell?_setCell_far _ _ _ _ (by simp)).trans ((World.cell?_setCell_far _ _ _ _ (by simp)).trans HX3.out.1), by have := HX3.out.2; simpa using this⟩
        have HR3 : Hid (RowF ((w2.setCell ⟨w.heap.size + 1, k * 2, none⟩ (.int .i64 (weightI (btwA zs k) 4))).setCell ⟨w.heap.size + 1, k * 2 + 1, none⟩ (.int .i64 (overI facX (btwA zs k) 4))) (w.heap.size + 1) 105 (m * 2) (fill (wmL zs ls 0 m) ((k + 1) * 2))) := by
          have h := (HR2.out.set (k * 2) (.int .i64 (weightI (btwA zs k) 4))).set (k * 2 + 1) (.int .i64 (overI facX (btwA zs k) 4))
          have hf := wmL_fill (zs := zs) (ls := ls) (i := 0) hlt
          rw [kwTo_0, kmTo_0, HSW.out.1, HSW.out.2] at hf
          rw [← hf]
          exact h
        clear d0 d1 f0 f1 hb1 hb2 bx1 bx2 bxc
        go_wp2
        go_roundw
        case rel => exact ⟨k + 1, by omega, by go_num, HR3, HX4, HB3⟩
        case measure => simp [intOf]; omega
    · obtain rfl : m = k := by omega
      have HR0 : Hid (RowF wr (w.heap.size + 1) 105 (m * 2) (ints (wmL zs ls 0 m))) := HR.out.congr (fun j hj => fill_end _ hj)
      clear HR HC
      go_wp2
      go_loopw [47] (fun v wr => ∃ i : Nat, i ≤ q ∧ v = .int .i64 i ∧ Hid (RowF wr (w.heap.size + 1) 105 (m * 2) (ints (wmL zs ls i m))) ∧ Hid (Below w.heap.size w wr)) (fun v _ => q - (intOf v).toNat)
      case atStart => exact ⟨0, Nat.zero_le _, rfl, HR0, HB⟩
      case round =>
        clear HR0 HB HX
        obtain ⟨i, hi, rfl, HR, HB⟩ := hrel
        by_cases hli : i < q
        · obtain ⟨b2, off2, rfl, hb2B, hc2⟩ := HLD.out.2 (by omega)
          have hlc := ldCells hc2 hli
          have x0 := (HB.out.cell (p := ⟨b2, off2 + i * 3, none⟩) hb2B).trans hlc.1
          have x1 := (HB.out.cell (p := ⟨b2, off2 + i * 3 + 1, none⟩) hb2B).trans hlc.2.1
          have x2 := (HB.out.cell (p := ⟨b2, off2 + i * 3 + 2, none⟩) hb2B).trans hlc.2.2
          have hlo := loadAt_out (HLA.out i hli)
          obtain ⟨s, hs⟩ : ∃ s : Nat, nth ls (i * 3) = (s : Int) := ⟨(nth ls (i * 3)).toNat, by omega⟩
          have hsm : s < m := by omega
          have hz := HB.out.size
          have hrl := HR.out.lt
          have c0 := HR.out.cell (i := s * 2) (by omega)
          have c1 := HR.out.cell (i := s * 2 + 1) (by omega)
          have hwn := wmL_nth zs ls i hsm
          rw [ints_def, hwn.1] at c0
          rw [ints_def, hwn.2] at c1
          have hkb := HKB.out s i (by omega)
          have hmb := HMB.out s i (by omega)
          have hkb2 := HKB.out s (i + 1) (by omega)
          have hmb2 := HMB.out s (i + 1) (by omega)
          have hwx := wx_bd hlo.2.1 hlo.2.2
          have e3 : IntKind.i64.wrap (kwTo zs ls s i + nth ls (i * 3 + 1)) = kwTo zs ls s (i + 1) := by rw [← kwTo_t zs hs]; exact IntWalk.i64_in _ (by omega)
          have e4 : IntKind.i64.wrap (nth ls (i * 3 + 1) * nth ls (i * 3 + 2)) = nth ls (i * 3 + 1) * nth ls (i * 3 + 2) := IntWalk.i64_in _ (by omega)
          have e5 : IntKind.i64.wrap (kmTo zs ls s i + nth ls (i * 3 + 1) * nth ls (i * 3 + 2)) = kmTo zs ls s (i + 1) := by rw [← kmTo_t zs hs]; exact IntWalk.i64_in _ (by omega)
          have HLW := Lib.hid (wmL_load (zs := zs) hsm hs)
          rw [hs] at x0
          have s0 : (0 : Int) ≤ (s : Int) := by omega
          have s1 : (s : Int) < (m : Int) := by omega
          clear hs hlc hc2 hlo hwn
          have HRA := Lib.hid (HR.out.alloc (.cells #[.int .i64 (s : Int), .int .i64 (nth ls (i * 3 + 1)), .int .i64 (nth ls (i * 3 + 2))] 123))
          have HBA := Lib.hid (HB.out.alloc hz (.cells #[.int .i64 (s : Int), .int .i64 (nth ls (i * 3 + 1)), .int .i64 (nth ls (i * 3 + 2))] 123))
          have g0 := HRA.out.frozen (s * 2)
          have g1 := HRA.out.frozen (s * 2 + 1)
          generalize nth ls (i * 3 + 1) = lw at *
          generalize nth ls (i * 3 + 2) = lx at *
          have HLB : Hid (RowF (wr.alloc (.cells #[.int .i64 (s : Int), .int .i64 lw, .int .i64 lx] 123)) wr.heap.size 123 3 (ints [(s : Int), lw, lx])) := RowF.of_row (World.rowIs_alloc wr #[.int .i64 (s : Int), .int .i64 lw, .int .i64 lx] 123 _ (fun j hj => by simp at hj; match j, hj with | 0, _ => rfl | 1, _ => rfl | 2, _ => rfl))
          clear hkb hmb hkb2 hmb2 hwx
          obtain ⟨wk, rfl⟩ : ∃ wk : World, wk = wr := ⟨_, rfl⟩
          go_upto_region 11 with fail
          go_cut [10] (fun s10 wx => s10 = .pointer (some ⟨wk.heap.size, 0, none⟩) ∧ Hid (RowF wx (w.heap.size + 1) 105 (m * 2) (fun j => if j = s * 2 then Value.int .i64 (kwTo zs ls s (i + 1)) else ints (wmL zs ls i m) j)) ∧ Hid (RowF wx wk.heap.size 123 3 (ints [(s : Int), lw, lx])) ∧ Hid (Below w.heap.size w wx))
          case first =>
            have HLN : Hid (RowF ((wk.setCell ⟨w.heap.size + 1, s * 2, none⟩ (.int .i64 (kwTo zs ls s (i + 1)))).alloc (.cells #[.int .i64 (s : Int), .int .i64 lw, .int .i64 lx] 123)) wk.heap.size 123 3 (ints [(s : Int), lw, lx])) := by
              have h := rowF_new3 (wk.setCell ⟨w.heap.size + 1, s * 2, none⟩ (.int .i64 (kwTo zs ls s (i + 1)))) (s : Int) lw lx 123
              have e : (wk.setCell ⟨w.heap.size + 1, s * 2, none⟩ (.int .i64 (kwTo zs ls s (i + 1)))).heap.size = wk.heap.size := by simp
              rw [e] at h
              exact h
            go_region_law (fail)
            all_goals (go_wp2_with fail; go_meet; exact ⟨rfl, Lib.hid ((HR.out.set (s * 2) _).alloc _).drew, Lib.hid HLN.out.drew, Lib.hid ((HB.out.setCell (by simp) _).alloc (by simp; omega) _).drew⟩)
          case rest =>
            clear c0 x0 x1 x2 e3 g0 g1 HRA HLB HBA
            obtain ⟨rfl, HRc, HLc, HBc⟩ := hcut
            have c1 : wc.cell? ⟨w.heap.size + 1, s * 2 + 1, none⟩ = some (.int .i64 (kmTo zs ls s i)) := by
              have h := HRc.out.cell (i := s * 2 + 1) (by omega)
              rw [if_neg (by omega), ints_def, (wmL_nth zs ls i hsm).2] at h
              exact h
            have y0 : wc.cell? ⟨wk.heap.size, 0, none⟩ = some (.int .i64 (s : Int)) := HLc.out.cell (by omega)
            have y1 : wc.cell? ⟨wk.heap.size, 1, none⟩ = some (.int .i64 lw) := HLc.out.cell (by omega)
            have y2 : wc.cell? ⟨wk.heap.size, 2, none⟩ = some (.int .i64 lx) := HLc.out.cell (by omega)
            have g1 := HRc.out.frozen (s * 2 + 1)
            have HR4 : Hid (RowF (wc.drew.setCell ⟨w.heap.size + 1, s * 2 + 1, none⟩ (.int .i64 (kmTo zs ls s (i + 1)))) (w.heap.size + 1) 105 (m * 2) (ints (wmL zs ls (i + 1) m))) := (HRc.out.drew.set (s * 2 + 1) _).congr HLW.out
            have HB4 : Hid (Below w.heap.size w (wc.drew.setCell ⟨w.heap.size + 1, s * 2 + 1, none⟩ (.int .i64 (kmTo zs ls s (i + 1))))) := Lib.hid (HBc.out.drew.setCell (by simp) _)
            go_wp2
            go_region_law (fail)
            all_goals
              go_wp2
              go_roundw
              case rel => exact ⟨i + 1, by omega, by go_num, HR4, HB4⟩
              case measure => simp [intOf]; omega
        · obtain rfl : q = i := by omega
          go_wp2
          go_ret
          exact ⟨_, rfl, by omega, HR.out, HB.out⟩
end X
namespace X
open Go.RowKit
set_option maxHeartbeats 400000 in
theorem toPoint_any (x0 x1 : Int) (w : World) : Calls Tryzx.prog 167 #[.agg #[.int .i64 x0, .int .i64 x1]] w fun e w' => e = .returned (.agg #[.int .i64 x0, .int .i64 x1]) ∧ Below w.heap.size w w' := by
 go_enter Tryzx.func167, Tryz.ntmps167
 go_wp2
 exact bodyPost_ret (v := .agg #[.int .i64 x0, .int .i64 x1]) (by simp [results, Tryz.results167, go_sem]) rfl ⟨rfl, (((Below.refl _ _).alloc (Nat.le_refl _) _).alloc (by simp) _).alloc (by simp; omega) _⟩
end X
namespace X
open Go.RowKit
theorem infoJoint : (Tryzx.prog.info? 45).map (fun i => (i.zero, i.size, i.bytes)) = some (some (.agg #[.int .i64 0, .int .i64 0, .int .i64 0, .int .i64 0]), 4, 32) := by kernel_rfl
set_option maxHeartbeats 400000 in
theorem toJoint_any (x0 x1 x2 x3 : Int) (w : World) : Calls Tryzx.prog 124 #[.agg #[.int .i64 x0, .int .i64 x1, .int .i64 x2, .int .i64 x3]] w fun e w' => e = .returned (.agg #[.int .i64 x0, .int .i64 x1, .int .i64 x2, .int .i64 x3]) ∧ Below w.heap.size w w' := by
 go_enter Tryzx.func124, Tryz.ntmps124
 go_wp2_with fail
 refine (toPoint_any _ _ _).mono ?_
 rintro e w1 ⟨rfl, hb1⟩
 have hz1 := hb1.size
 simp at hz1
 have ra : RowF w1 w.heap.size 158 4 (ints [x0, x1, x2, x3]) := (((RowF.of_row (World.rowIs_alloc w #[.int .i64 x0, .int .i64 x1, .int .i64 x2, .int .i64 x3] _ _ (fun j hj => by simp at hj; match j, hj with | 0, _ => rfl | 1, _ => rfl | 2, _ => rfl | 3, _ => rfl))).alloc _).alloc _).after hb1
 have rr : RowF w1 (w.heap.size + 1) 45 4 (ints [0, 0, 0, 0]) := by
  have h := ((RowF.of_row (World.rowIs_alloc (w.alloc (.cells #[.int .i64 x0, .int .i64 x1, .int .i64 x2, .int .i64 x3] 158)) #[.int .i64 0, .int .i64 0, .int .i64 0, .int .i64 0] 45 (ints [0, 0, 0, 0]) (fun j hj => by simp at hj; match j, hj with | 0, _ => rfl | 1, _ => rfl | 2, _ => rfl | 3, _ => rfl))).alloc (.cells #[.int .i64 0, .int .i64 0, .int .i64 0, .int .i64 0] 45)).after hb1
  simpa using h
 have ro : RowF w1 (w.heap.size + 1 + 1) 45 4 (ints [0, 0, 0, 0]) := by
  have h := (RowF.of_row (World.rowIs_alloc ((w.alloc (.cells #[.int .i64 x0, .int .i64 x1, .int .i64 x2, .int .i64 x3] 158)).alloc (.cells #[.int .i64 0, .int .i64 0, .int .i64 0, .int .i64 0] 45)) #[.int .i64 0, .int .i64 0, .int .i64 0, .int .i64 0] 45 (ints [0, 0, 0, 0]) (fun j hj => by simp at hj; match j, hj with | 0, _ => rfl | 1, _ => rfl | 2, _ => rfl | 3, _ => rfl))).after hb1
  simpa using h
 have a2 : w1.cell? ⟨w.heap.size, 2, none⟩ = some (.int .i64 x2) := ra.cell (by omega)
 have a3 : w1.cell? ⟨w.heap.size, 3, none⟩ = some (.int .i64 x3) := ra.cell (by omega)
 have o0 : w1.cell? ⟨w.heap.size + 1 + 1, 0, none⟩ = some (.int .i64 0) := ro.cell (by omega)
 have o1 : w1.cell? ⟨w.heap.size + 1 + 1, 1, none⟩ = some (.int .i64 0) := ro.cell (by omega)
 have f0 := ro.frozen 0
 have f1 := ro.frozen 1
 have HB1 := Lib.hid ((((Below.refl _ w).alloc (Nat.le_refl _) _).alloc (by simp) _).alloc (by simp; omega) _ |>.trans (hb1.mono (by simp; omega)))
 have ro2 := (ro.set 0 (.int .i64 x0)).set 1 (.int .i64 x1)
 have rr2 : RowF ((w1.setCell ⟨w.heap.size + 1 + 1, 0, none⟩ (.int .i64 x0)).setCell ⟨w.heap.size + 1 + 1, 1, none⟩ (.int .i64 x1)) (w.heap.size + 1) 45 4 (ints [0, 0, 0, 0]) := (rr.set_other (by simp) _).set_other (by simp) _
 clear hb1
 go_wp2_with fail
 refine (toPoint_any _ _ _).mono ?_
 rintro e w2 ⟨rfl, hb2⟩
 have hz2 := hb2.size
 simp at hz2
 have s := ro2.after hb2
 have r := rr2.after hb2
 have HB2 := Lib.hid (((HB1.out.setCell (p := ⟨w.heap.size + 1 + 1, 0, none⟩) (by simp; omega) _).setCell (p := ⟨w.heap.size + 1 + 1, 1, none⟩) (by simp; omega) _).trans (hb2.mono (by simp; omega)))
 have s0 : w2.cell? ⟨w.heap.size + 1 + 1, 0, none⟩ = some (.int .i64 x0) := s.cell (by omega)
 have s1 : w2.cell? ⟨w.heap.size + 1 + 1, 1, none⟩ = some (.int .i64 x1) := s.cell (by omega)
 have s2 : w2.cell? ⟨w.heap.size + 1 + 1, 2, none⟩ = some (.int .i64 0) := s.cell (by omega)
 have s3 : w2.cell? ⟨w.heap.size + 1 + 1, 3, none⟩ = some (.int .i64 0) := s.cell (by omega)
 have g2 := s.frozen 2
 have g3 := s.frozen 3
 have r0 : w2.cell? ⟨w.heap.size + 1, 0, none⟩ = some (.int .i64 0) := r.cell (by omega)
 have r1 : w2.cell? ⟨w.heap.size + 1, 1, none⟩ = some (.int .i64 0) := r.cell (by omega)
 have r2 : w2.cell? ⟨w.heap.size + 1, 2, none⟩ = some (.int .i64 0) := r.cell (by omega)
 have r3 : w2.cell? ⟨w.heap.size + 1, 3, none⟩ = some (.int .i64 0) := r.cell (by omega)
 have k0 := r.frozen 0
 have k1 := r.frozen 1
 have k2 := r.frozen 2
 have k3 := r.frozen 3
 clear hb2 ro2 rr2 s r ra rr ro a2 a3 o0 o1 f0 f1
 go_wp2
 refine bodyPost_ret (v := .agg #[.int .i64 x0, .int .i64 x1, .int .i64 x2, .int .i64 x3]) (by simp [results, Tryz.results124, go_sem, *]) rfl ⟨rfl, ?_⟩
 exact (((((HB2.out.setCell (p := ⟨w.heap.size + 1 + 1, 2, none⟩) (by simp; omega) _).setCell (p := ⟨w.heap.size + 1 + 1, 3, none⟩) (by simp; omega) _).setCell (p := ⟨w.heap.size + 1, 0, none⟩) (by simp) _).setCell (p := ⟨w.heap.size + 1, 1, none⟩) (by simp) _).setCell (p := ⟨w.heap.size + 1, 2, none⟩) (by simp) _).setCell (p := ⟨w.heap.size + 1, 3, none⟩) (by simp) _
set_option maxHeartbeats 800000 in
theorem toJointS_any (A : Option Addr) (n c : Nat) (zs : List Int) (w : World) (h : RecsAt w w.heap.size 4 A n zs) (hn : n ≤ 1048576) :
  Calls Tryzx.prog 80 #[.slice A n c] w fun e w' => e = .returned (.slice (some ⟨w.heap.size, 0, none⟩) n n) ∧ w'.rowIs w.heap.size 45 (n * 4) (ints zs) ∧ Below w.heap.size w w' := by
 have H := Lib.hid h
 clear h
 have hmk := fun W => run_make_recs (P := Tryzx.prog) 24 45 4 32 #[.int .i64 0, .int .i64 0, .int .i64 0, .int .i64 0] Tryzx.underlying24 infoJoint n (by omega) hn W
 go_enter Tryzx.func80, Tryz.ntmps80
 go_wp2
 clear hmk
 go_loopw [4] (fun i wr => ∃ k : Nat, k ≤ n ∧ i = .int .i64 k ∧ wr.rowIs w.heap.size 45 (n * 4) (fill zs (k * 4)) ∧ Below w.heap.size w wr) (fun i _ => n - (intOf i).toNat)
 case atStart => exact ⟨0, Nat.zero_le _, rfl, by rw [Nat.zero_mul]; exact rowIs_made0 w _ _ _ (fun j hj => by simp at hj; match j, hj with | 0, _ => rfl | 1, _ => rfl | 2, _ => rfl | 3, _ => rfl) (by simp) zs, (Below.refl _ _).alloc (Nat.le_refl _) _⟩
 case round =>
  obtain ⟨k, hk, rfl, hrow, hb⟩ := hrel
  by_cases hlt : k < n
  ·obtain ⟨b, off, rfl, hbB, hc⟩ := H.out.2 (by omega)
   have hgl := hrow.lt
   have hx0 : wr.cell? ⟨b, off + k * 4, none⟩ = some (.int .i64 (nth zs (k * 4))) := (hb.cell (by exact hbB)).trans (hc (k * 4) (by omega))
   have hx1 : wr.cell? ⟨b, off + k * 4 + 1, none⟩ = some (.int .i64 (nth zs (k * 4 + 1))) := (hb.cell (by exact hbB)).trans (by have := hc (k * 4 + 1) (by omega); rwa [← Nat.add_assoc] at this)
   have hx2 : wr.cell? ⟨b, off + k * 4 + 2, none⟩ = some (.int .i64 (nth zs (k * 4 + 2))) := (hb.cell (by exact hbB)).trans (by have := hc (k * 4 + 2) (by omega); rwa [← Nat.add_assoc] at this)
   have hx3 : wr.cell? ⟨b, off + k * 4 + 3, none⟩ = some (.int .i64 (nth zs (k * 4 + 3))) := (hb.cell (by exact hbB)).trans (by have := hc (k * 4 + 3) (by omega); rwa [← Nat.add_assoc] at this)
   have HR := Lib.hid hrow
   have HB := Lib.hid hb
   clear hrow hb hc
   go_wp2_with fail
   refine (toJoint_any _ _ _ _ _).mono ?_
   rintro e w1 ⟨rfl, hb1⟩
   have HR1 := Lib.hid (below_row hb1 HR.out hgl)
   have HB1 := Lib.hid (HB.out.trans (hb1.mono HB.out.size))
   clear hb1
   have hy0 : w1.cell? ⟨w.heap.size, k * 4, none⟩ = some (.int .i64 0) := by rw [HR1.out.cell (by omega), fill_at zs (by omega)]
   have hf0 : w1.frozen? ⟨w.heap.size, k * 4, none⟩ = false := HR1.out.frozen _
   have hy1 : w1.cell? ⟨w.heap.size, k * 4 + 1, none⟩ = some (.int .i64 0) := by rw [HR1.out.cell (by omega), fill_at zs (by omega)]
   have hf1 : w1.frozen? ⟨w.heap.size, k * 4 + 1, none⟩ = false := HR1.out.frozen _
   have hy2 : w1.cell? ⟨w.heap.size, k * 4 + 2, none⟩ = some (.int .i64 0) := by rw [HR1.out.cell (by omega), fill_at zs (by omega)]
   have hf2 : w1.frozen? ⟨w.heap.size, k * 4 + 2, none⟩ = false := HR1.out.frozen _
   have hy3 : w1.cell? ⟨w.heap.size, k * 4 + 3, none⟩ = some (.int .i64 0) := by rw [HR1.out.cell (by omega), fill_at zs (by omega)]
   have hf3 : w1.frozen? ⟨w.heap.size, k * 4 + 3, none⟩ = false := HR1.out.frozen _
   go_wp2
   go_roundw
   case rel => exact ⟨k + 1, by omega, by go_num, by rw [Nat.add_mul, Nat.one_mul]; exact World.rowIs.congr (World.rowIs.set (World.rowIs.set (World.rowIs.set (World.rowIs.set HR1.out (k * 4) _) (k * 4 + 1) _) (k * 4 + 2) _) (k * 4 + 3) _) (fun j _ => fill_step4 zs (k * 4) j), ((((HB1.out.setCell (Nat.le_refl _) _).setCell (Nat.le_refl _) _).setCell (Nat.le_refl _) _).setCell (Nat.le_refl _) _)⟩
   case measure => simp [intOf]; omega
  ·have hkn : k = n := by omega
   subst hkn
   have HR := Lib.hid hrow
   have HB := Lib.hid hb
   clear hrow hb
   go_wp2
   go_ret
   exact ⟨rfl, HR.out.congr (fun j hj => fill_end zs hj), HB.out⟩
theorem szJointS_ok (A : Option Addr) (n c : Nat) (l : Int) (w : World) (h0 : 0 ≤ l) (h1 : l ≤ 1048576) (hn : n ≤ 9223372036854775807) (h : (n : Int) ≤ l) : Calls Tryzx.prog 79 #[.slice A n c, .int .i64 l] w fun e w' => e = .returned (.int .i64 (l - n)) ∧ w = w' := by
 have ht : ¬ l - (n : Int) < 0 := by omega
 go_enter Tryzx.func79, Tryz.ntmps79
 go_wp2
 go_ret
 exact ⟨rfl, rfl⟩
theorem szJointS_no (A : Option Addr) (n c : Nat) (l : Int) (w : World) (h0 : 0 ≤ l) (h1 : l ≤ 1048576) (hn : n ≤ 9223372036854775807) (h : l < (n : Int)) : Calls Tryzx.prog 79 #[.slice A n c, .int .i64 l] w fun e w' => e = .returned (.int .i64 (-1)) ∧ w = w' := by
 have ht : l - (n : Int) < 0 := by omega
 go_enter Tryzx.func79, Tryz.ntmps79
 go_wp2
 go_ret
 exact ⟨rfl, rfl⟩
set_option maxHeartbeats 400000 in
theorem eqJoint_same (x0 x1 x2 x3 : Int) (w : World) : Calls Tryzx.prog 125 #[.agg #[.int .i64 x0, .int .i64 x1, .int .i64 x2, .int .i64 x3], .agg #[.int .i64 x0, .int .i64 x1, .int .i64 x2, .int .i64 x3]] w fun e w' => e = .returned (.bool true) ∧ Below w.heap.size w w' := by
 have t0 : (x0 != x0) = false := by simp
 have t1 : (x1 != x1) = false := by simp
 have t2 : (x2 != x2) = false := by simp
 have t3 : (x3 != x3) = false := by simp
 go_enter Tryzx.func125, Tryz.ntmps125
 go_wp2
 go_ret
 exact ⟨rfl, ((((((Below.refl _ _).alloc (Nat.le_refl _) _).alloc (by simp) _).alloc (by simp; omega) _).alloc (by simp; omega) _).alloc (by simp; omega) _).alloc (by simp; omega) _⟩
set_option maxHeartbeats 800000 in
theorem eqJointS_same (A A' : Option Addr) (n c c' : Nat) (zs : List Int) (w : World) (hx : RecsAt w w.heap.size 4 A n zs) (hy : RecsAt w w.heap.size 4 A' n zs) (hn : n ≤ 1048576) :
  Calls Tryzx.prog 81 #[.slice A n c, .slice A' n c'] w fun e w' => e = .returned (.bool true) ∧ Below w.heap.size w w' := by
 have HX := Lib.hid hx
 have HY := Lib.hid hy
 clear hx hy
 have ht : ((n : Int) != (n : Int)) = false := by simp
 go_enter Tryzx.func81, Tryz.ntmps81
 go_wp2
 go_loopw [5] (fun i wr => ∃ k : Nat, k ≤ n ∧ i = .int .i64 k ∧ Below w.heap.size w wr) (fun i _ => n - (intOf i).toNat)
 case atStart => exact ⟨0, Nat.zero_le _, rfl, Below.refl _ _⟩
 case round =>
  obtain ⟨k, hk, rfl, hb⟩ := hrel
  have HB := Lib.hid hb
  by_cases hlt : k < n
  ·obtain ⟨b, off, rfl, hbB, hc⟩ := HX.out.2 (by omega)
   obtain ⟨b', off', rfl, hbB', hc'⟩ := HY.out.2 (by omega)
   have hz := hb.size
   have cx0 : wr.cell? ⟨b, off + k * 4, none⟩ = some (.int .i64 (nth zs (k * 4))) := (hb.cell (by exact hbB)).trans (hc (k * 4) (by omega))
   have cy0 : wr.cell? ⟨b', off' + k * 4, none⟩ = some (.int .i64 (nth zs (k * 4))) := (hb.cell (by exact hbB')).trans (hc' (k * 4) (by omega))
   have cx1 : wr.cell? ⟨b, off + k * 4 + 1, none⟩ = some (.int .i64 (nth zs (k * 4 + 1))) := (hb.cell (by exact hbB)).trans (by have := hc (k * 4 + 1) (by omega); rwa [← Nat.add_assoc] at this)
   have cy1 : wr.cell? ⟨b', off' + k * 4 + 1, none⟩ = some (.int .i64 (nth zs (k * 4 + 1))) := (hb.cell (by exact hbB')).trans (by have := hc' (k * 4 + 1) (by omega); rwa [← Nat.add_assoc] at this)
   have cx2 : wr.cell? ⟨b, off + k * 4 + 2, none⟩ = some (.int .i64 (nth zs (k * 4 + 2))) := (hb.cell (by exact hbB)).trans (by have := hc (k * 4 + 2) (by omega); rwa [← Nat.add_assoc] at this)
   have cy2 : wr.cell? ⟨b', off' + k * 4 + 2, none⟩ = some (.int .i64 (nth zs (k * 4 + 2))) := (hb.cell (by exact hbB')).trans (by have := hc' (k * 4 + 2) (by omega); rwa [← Nat.add_assoc] at this)
   have cx3 : wr.cell? ⟨b, off + k * 4 + 3, none⟩ = some (.int .i64 (nth zs (k * 4 + 3))) := (hb.cell (by exact hbB)).trans (by have := hc (k * 4 + 3) (by omega); rwa [← Nat.add_assoc] at this)
   have cy3 : wr.cell? ⟨b', off' + k * 4 + 3, none⟩ = some (.int .i64 (nth zs (k * 4 + 3))) := (hb.cell (by exact hbB')).trans (by have := hc' (k * 4 + 3) (by omega); rwa [← Nat.add_assoc] at this)
   generalize nth zs (k * 4) = u0 at *
   generalize nth zs (k * 4 + 1) = u1 at *
   generalize nth zs (k * 4 + 2) = u2 at *
   generalize nth zs (k * 4 + 3) = u3 at *
   have ki : (k : Int) < (n : Int) := by omega
   have k0 : (0 : Int) ≤ (k : Int) := by omega
   clear hc hc' hb
   go_wp2
   go_region_held3 (fun w' => w'.cell? ⟨b, off + k * 4, none⟩ = some (.int .i64 u0) ∧ w'.cell? ⟨b, off + k * 4 + 1, none⟩ = some (.int .i64 u1) ∧ w'.cell? ⟨b, off + k * 4 + 2, none⟩ = some (.int .i64 u2) ∧ w'.cell? ⟨b, off + k * 4 + 3, none⟩ = some (.int .i64 u3) ∧ w'.cell? ⟨b', off' + k * 4, none⟩ = some (.int .i64 u0) ∧ w'.cell? ⟨b', off' + k * 4 + 1, none⟩ = some (.int .i64 u1) ∧ w'.cell? ⟨b', off' + k * 4 + 2, none⟩ = some (.int .i64 u2) ∧ w'.cell? ⟨b', off' + k * 4 + 3, none⟩ = some (.int .i64 u3)) (first | (go_keep; done) | (refine ⟨?_, ?_, ?_, ?_, ?_, ?_, ?_, ?_⟩ <;> (rw [hcc _ _ (by simp <;> omega)]; go_keep))) ((go_at_call 125; refine (eqJoint_same _ _ _ _ _).mono ?_; rintro e w1 ⟨rfl, hb1⟩; obtain ⟨hcc, hff⟩ := bcell hb1))
   have HB1 := Lib.hid (HB.out.drew.trans (hb1.mono (by have := HB.out.size; simp; omega)))
   clear hcc hff hb1
   go_wp2
   go_roundw
   case rel => exact ⟨k + 1, by omega, by go_num, HB1.out⟩
   case measure => simp [intOf]; omega
  ·have hkn : k = n := by omega
   subst hkn
   clear hb
   go_wp2
   go_ret
   exact ⟨rfl, HB.out⟩
end X
namespace X
open Go.RowKit
theorem toArch_any (A : Option Addr) (n c : Nat) (zs : List Int) (w : World) (h : RecsAt w w.heap.size 4 A n zs) (hn : n ≤ 1048576) :
  Calls Tryzx.prog 28 #[.agg #[.slice A n c]] w fun e w' => ∃ g, e = .returned (.agg #[.slice (some ⟨g, 0, none⟩) n n]) ∧ w.heap.size ≤ g ∧ w'.rowIs g 45 (n * 4) (ints zs) ∧ Below w.heap.size w w' := by
 have H3 : RecsAt (((w.alloc (.cells #[.slice A n c] 49)).alloc (.cells #[.slice none 0 0] 26)).alloc (.cells #[.slice none 0 0] 26)) (((w.alloc (.cells #[.slice A n c] 49)).alloc (.cells #[.slice none 0 0] 26)).alloc (.cells #[.slice none 0 0] 26)).heap.size 4 A n zs :=
  (((h.alloc (Nat.le_refl _) _).alloc (by simp) _).alloc (by simp; omega) _).mono (by simp; omega)
 go_enter Tryzx.func28, Tryz.ntmps28
 go_wp2_with fail
 refine (toJointS_any _ _ _ zs _ H3 hn).mono ?_
 rintro e w1 ⟨rfl, r1, hb1⟩
 have rr : RowF w1 (w.heap.size + 1) 26 1 (fun _ => .slice none 0 0) := by
  have h := ((RowF.of_row (World.rowIs_alloc (w.alloc (.cells #[.slice A n c] 49)) #[.slice none 0 0] 26 (fun _ => .slice none 0 0) (fun j hj => by simp at hj; subst hj; rfl))).alloc (.cells #[.slice none 0 0] 26)).after hb1
  simpa using h
 have ro : RowF w1 (w.heap.size + 1 + 1) 26 1 (fun _ => .slice none 0 0) := by
  have h := (RowF.of_row (World.rowIs_alloc ((w.alloc (.cells #[.slice A n c] 49)).alloc (.cells #[.slice none 0 0] 26)) #[.slice none 0 0] 26 (fun _ => .slice none 0 0) (fun j hj => by simp at hj; subst hj; rfl))).after hb1
  simpa using h
 have e1 := rr.cell (i := 0) (by omega)
 have e2 := ro.cell (i := 0) (by omega)
 have f1 := rr.frozen 0
 have f2 := ro.frozen 0
 have HB1 := Lib.hid (((((Below.refl _ w).alloc (Nat.le_refl _) _).alloc (by simp) _).alloc (by simp; omega) _).trans (hb1.mono (by simp; omega)))
 have HR := Lib.hid r1
 clear r1 hb1 rr ro H3
 go_wp2
 refine bodyPost_ret (v := .agg #[.slice (some ⟨w.heap.size + 1 + 1 + 1, 0, none⟩) n n]) (by simp [results, Tryz.results28, go_sem, *]) rfl ⟨w.heap.size + 1 + 1 + 1, rfl, by omega, ?_, ?_⟩
 ·have h := HR.out
  simp at h
  exact (h.of_block (Below.heap_setCell _ _ _ _ (by simp <;> omega))).of_block (Below.heap_setCell _ _ _ _ (by simp <;> omega))
 ·exact (HB1.out.setCell (p := ⟨w.heap.size + 1 + 1, 0, none⟩) (by simp; omega) _).setCell (p := ⟨w.heap.size + 1, 0, none⟩) (by simp) _
theorem szArch_ok (A : Option Addr) (n c : Nat) (l : Int) (w : World) (h0 : 0 ≤ l) (h1 : l ≤ 1048576) (hn : n ≤ 9223372036854775807) (h : (n : Int) ≤ l) : Calls Tryzx.prog 26 #[.agg #[.slice A n c], .int .i64 l] w fun e w' => e = .returned (.int .i64 (l - n)) ∧ Below w.heap.size w w' := by
 have ht : ¬ l - (n : Int) < 0 := by omega
 go_enter Tryzx.func26, Tryz.ntmps26
 go_wp2_with (go_at_call 79; refine (szJointS_ok _ _ _ _ _ h0 h1 hn h).mono ?_; rintro e w' ⟨rfl, rfl⟩)
 go_ret
 exact ⟨rfl, (Below.refl _ _).alloc (Nat.le_refl _) _⟩
theorem szArch_no (A : Option Addr) (n c : Nat) (l : Int) (w : World) (h0 : 0 ≤ l) (h1 : l ≤ 1048576) (hn : n ≤ 9223372036854775807) (h : l < (n : Int)) : Calls Tryzx.prog 26 #[.agg #[.slice A n c], .int .i64 l] w fun e w' => e = .returned (.int .i64 (-1)) ∧ Below w.heap.size w w' := by
 go_enter Tryzx.func26, Tryz.ntmps26
 go_wp2_with (go_at_call 79; refine (szJointS_no _ _ _ _ _ h0 h1 hn h).mono ?_; rintro e w' ⟨rfl, rfl⟩)
 go_ret
 exact ⟨rfl, (Below.refl _ _).alloc (Nat.le_refl _) _⟩
theorem eqArch_same (A A' : Option Addr) (n c c' : Nat) (zs : List Int) (w : World) (hx : RecsAt w w.heap.size 4 A n zs) (hy : RecsAt w w.heap.size 4 A' n zs) (hn : n ≤ 1048576) :
  Calls Tryzx.prog 30 #[.agg #[.slice A n c], .agg #[.slice A' n c']] w fun e w' => e = .returned (.bool true) ∧ Below w.heap.size w w' := by
 have hx2 := ((hx.alloc (Nat.le_refl _) (.cells #[.slice A n c] 26)).alloc (by simp) (.cells #[.slice A' n c'] 26)).mono (B' := ((w.alloc (.cells #[.slice A n c] 26)).alloc (.cells #[.slice A' n c'] 26)).heap.size) (by simp; omega)
 have hy2 := ((hy.alloc (Nat.le_refl _) (.cells #[.slice A n c] 26)).alloc (by simp) (.cells #[.slice A' n c'] 26)).mono (B' := ((w.alloc (.cells #[.slice A n c] 26)).alloc (.cells #[.slice A' n c'] 26)).heap.size) (by simp; omega)
 go_enter Tryzx.func30, Tryz.ntmps30
 go_wp2_with fail
 refine (eqJointS_same _ _ _ _ _ zs _ hx2 hy2 hn).mono ?_
 rintro e w1 ⟨rfl, hb1⟩
 go_wp2
 go_ret
 exact ⟨rfl, (((Below.refl _ w).alloc (Nat.le_refl _) _).alloc (by simp) _).trans (hb1.mono (by simp; omega))⟩
end X
end Go.Proofs.YtbpnbhemdbgmjaaGreat
