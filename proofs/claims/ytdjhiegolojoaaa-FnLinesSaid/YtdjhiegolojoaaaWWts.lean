/-
  Contract: weightsOf in the program: the weights and moments of the stones of a valid arch with valid loads.
-/
import Derived.Test.YtdjhiegolojoaaaWWeightI
import Derived.Test.YtdjhiegolojoaaaPLeft
import Derived.Test.YtdjhiegolojoaaaLawKit
import Derived.Deep.RegionLaw
import Derived.Deep.DeepCutAuto
namespace Go.Proofs.Ytdjhiegolojoaaa
open Go.RowKit
set_option linter.unusedSimpArgs false

theorem infoWt : (Try.prog.info? 163).map (fun i => (i.zero, i.size, i.bytes)) = some (some (.agg #[.int .i64 0, .int .i64 0]), 2, 16) := by kernel_rfl
theorem box_set {w : World} {g : Nat} {t : TypeId} {f : Nat → Value} (v : Value) (h : RowF w g t 1 f) : Box (w.setCell ⟨g, 0, none⟩ v) g v :=
  ⟨by have := (h.set 0 v).cell (i := 0) (by omega); simpa using this, by simpa using h.lt⟩
theorem rowF_new1 (w : World) (u : Value) (t : TypeId) : RowF (w.alloc (.cells #[u] t)) w.heap.size t 1 (fun _ => u) := RowF.of_row (World.rowIs_alloc w #[u] t (fun _ => u) (fun i hi => by simp at hi; subst hi; rfl))
theorem rowF_new3 (w : World) (a b c : Int) (T : TypeId) : RowF (w.alloc (.cells #[.int .i64 a, .int .i64 b, .int .i64 c] T)) w.heap.size T 3 (ints [a, b, c]) :=
  RowF.of_row (World.rowIs_alloc w #[.int .i64 a, .int .i64 b, .int .i64 c] T _ (fun j hj => by simp at hj; match j, hj with | 0, _ => rfl | 1, _ => rfl | 2, _ => rfl))
def WtsPost (w : World) (L : List Int) (m : Nat) (e : Ending) (w' : World) : Prop :=
  ∃ g, e = .returned (.slice (some ⟨g, 0, none⟩) m m) ∧ w.heap.size ≤ g ∧ RowF w' g 163 (m * 2) (ints L) ∧ Below w.heap.size w w'
theorem wmL_fill {zs ls : List Int} {i m k : Nat} (hk : k < m) : (fun j => if j = k * 2 + 1 then Value.int .i64 (kmTo zs ls k i) else if j = k * 2 then Value.int .i64 (kwTo zs ls k i) else fill (wmL zs ls i m) (k * 2) j) = fill (wmL zs ls i m) ((k + 1) * 2) := by
  funext j
  have h := wmL_nth zs ls i hk
  have h2 := fill_step2 (wmL zs ls i m) (k * 2) j
  rw [h.1, h.2] at h2
  rw [h2, show (k + 1) * 2 = k * 2 + 2 by omega]
/-- One more load: only its stone turns. -/
theorem wmL_load {zs ls : List Int} {i m k : Nat} (hk : k < m) (h : nth ls (i * 3) = (k : Int)) : ∀ j, j < m * 2 → (if j = k * 2 + 1 then Value.int .i64 (kmTo zs ls k (i + 1)) else if j = k * 2 then Value.int .i64 (kwTo zs ls k (i + 1)) else ints (wmL zs ls i m) j) = ints (wmL zs ls (i + 1) m) j := by
  intro j hj
  have h1 := wmL_nth zs ls (i + 1) hk
  by_cases e1 : j = k * 2 + 1
  · subst e1; rw [if_pos rfl, ints_def, h1.2]
  · by_cases e2 : j = k * 2
    · subst e2; rw [if_neg e1, if_pos rfl, ints_def, h1.1]
    · rw [if_neg e1, if_neg e2, ints_def, ints_def]
      have hne : ¬ nth ls (i * 3) = ((j / 2 : Nat) : Int) := by omega
      have ha := wmL_nth zs ls i (m := m) (k := j / 2) (by omega)
      have hb := wmL_nth zs ls (i + 1) (m := m) (k := j / 2) (by omega)
      rw [kwTo_f zs hne, kmTo_f zs hne] at hb
      rcases Nat.mod_two_eq_zero_or_one j with e | e
      · rw [show j = j / 2 * 2 by omega, ha.1, hb.1]
      · rw [show j = j / 2 * 2 + 1 by omega, ha.2, hb.2]

set_option maxRecDepth 100000 in
set_option maxHeartbeats 3200000 in
theorem weightsOf_any (A : Option Addr) (n c : Nat) (zs : List Int) (B : Option Addr) (q d : Nat) (ls : List Int) (w : World) (h : RecsAt w w.heap.size 4 A n zs) (hl : RecsAt w w.heap.size 3 B q ls) (hL : loadsB zs n ls q = true) :
    Calls Try.prog 117 #[.agg #[.slice A n c], .slice B q d] w (WtsPost w (wmL zs ls q (n - 1)) (n - 1)) := by
  obtain ⟨hA, hq6, hLA⟩ := loadsB_out hL
  obtain ⟨hn8, hpt⟩ := archB_out hA
  obtain ⟨m, rfl⟩ : ∃ m, n = m + 1 := ⟨n - 1, by omega⟩
  rw [Nat.add_sub_cancel] at hpt ⊢
  have hmk := fun W => run_make_recs (P := Try.prog) 172 163 2 16 #[.int .i64 0, .int .i64 0] Try.underlying172 infoWt m (by omega) (by omega) W
  have HPT := Lib.hid hpt
  have HLA := Lib.hid hLA
  have HKB := Lib.hid (fun k i hi => kwTo_bd zs hLA hq6 k (i := i) hi)
  have HMB := Lib.hid (fun k i hi => kmTo_bd zs hLA hq6 k (i := i) hi)
  obtain ⟨b, off, rfl, hbB, hcell⟩ := h.2 (by omega)
  have HC := Lib.hid (fun j (hj : j < m + 1) => jtCells hcell hj)
  have HLD := Lib.hid hl
  have e1 : ((m + 1 : Nat) : Int) - 1 = (m : Int) := by omega
  have e2 : IntKind.i64.wrap (((m + 1 : Nat) : Int) - 1) = (m : Int) := by rw [e1]; exact IntWalk.i64_in _ (by omega)
  have HB0 := Lib.hid (((Below.refl w.heap.size w).alloc (Nat.le_refl _) (.cells #[.slice (some ⟨b, off, none⟩) (m + 1) c] 41)).alloc (by simp) (.cells (madeCells #[.int .i64 0, .int .i64 0] (m * 2)) 163))
  have HX0 := Lib.hid ((Box.new w (.slice (some ⟨b, off, none⟩) (m + 1) c) 41).alloc (.cells (madeCells #[.int .i64 0, .int .i64 0] (m * 2)) 163))
  have HR0 : Hid (RowF ((w.alloc (.cells #[.slice (some ⟨b, off, none⟩) (m + 1) c] 41)).alloc (.cells (madeCells #[.int .i64 0, .int .i64 0] (m * 2)) 163)) (w.heap.size + 1) 163 (m * 2) (fill (wmL zs ls 0 m) (0 * 2))) := by
    have h := RowF.of_row (rowIs_made0 (w.alloc (.cells #[.slice (some ⟨b, off, none⟩) (m + 1) c] 41)) #[.int .i64 0, .int .i64 0] 163 (m * 2) (fun j hj => by simp at hj; match j, hj with | 0, _ => rfl | 1, _ => rfl) (by simp) (wmL zs ls 0 m))
    rw [World.size_alloc] at h
    exact h
  clear hcell h hl hL hA hLA hpt
  go_enter Try.func117, Try.ntmps117
  go_wp2
  clear hmk
  go_loopw [18] (fun i wr => ∃ k : Nat, k ≤ m ∧ i = .int .i64 k ∧ Hid (RowF wr (w.heap.size + 1) 163 (m * 2) (fill (wmL zs ls 0 m) (k * 2))) ∧ Hid (Box wr w.heap.size (.slice (some ⟨b, off, none⟩) (m + 1) c)) ∧ Hid (Below w.heap.size w wr)) (fun i _ => m - (intOf i).toNat)
  case atStart => exact ⟨0, Nat.zero_le _, rfl, HR0, HX0, HB0⟩
  case round =>
    clear HR0 HX0 HB0
    obtain ⟨k, hk, rfl, HR, HX, HB⟩ := hrel
    by_cases hlt : k < m
    · have hq := HC.out k (by omega)
      have hq2 := HC.out (k + 1) (by omega)
      have hz := HB.out.size
      have hbr : b < wr.heap.size := by omega
      have hgl := HX.out.2
      have hrl := HR.out.lt
      have hbox := HX.out.1
      have x0 := (HB.out.cell (p := ⟨b, off + k * 4, none⟩) hbB).trans hq.1
      have x1 := (HB.out.cell (p := ⟨b, off + k * 4 + 1, none⟩) hbB).trans hq.2.1
      have x2 := (HB.out.cell (p := ⟨b, off + k * 4 + 2, none⟩) hbB).trans hq.2.2.1
      have x3 := (HB.out.cell (p := ⟨b, off + k * 4 + 3, none⟩) hbB).trans hq.2.2.2
      have y0 := (HB.out.cell (p := ⟨b, off + (k + 1) * 4, none⟩) hbB).trans hq2.1
      have y1 := (HB.out.cell (p := ⟨b, off + (k + 1) * 4 + 1, none⟩) hbB).trans hq2.2.1
      have y2 := (HB.out.cell (p := ⟨b, off + (k + 1) * 4 + 2, none⟩) hbB).trans hq2.2.2.1
      have y3 := (HB.out.cell (p := ⟨b, off + (k + 1) * 4 + 3, none⟩) hbB).trans hq2.2.2.2
      have i1 : IntKind.i64.wrap ((k : Int) + 1) = (k : Int) + 1 := IntWalk.i64_in _ (by omega)
      have i2 : (k : Int) < ((m + 1 : Nat) : Int) := by omega
      have i2' : (k : Int) < (m : Int) + 1 := by omega
      have i3 : (k : Int) + 1 < ((m + 1 : Nat) : Int) := by omega
      have i3' : (k : Int) + 1 < (m : Int) + 1 := by omega
      have i4 : (0 : Int) ≤ (k : Int) + 1 := by omega
      have i5 : ((k : Int) + 1).toNat = k + 1 := by omega
      have i6 : (0 : Int) ≤ (k : Int) := by omega
      have i7 : (k : Int) < (m : Int) := by omega
      have ne1 : wr.heap.size ≠ w.heap.size := by omega
      have ne2 : wr.heap.size ≠ b := by omega
      have HST : Hid (btwA zs k = btw (nth zs (k * 4)) (nth zs (k * 4 + 1)) (nth zs (k * 4 + 2)) (nth zs (k * 4 + 3)) (nth zs ((k + 1) * 4)) (nth zs ((k + 1) * 4 + 1)) (nth zs ((k + 1) * 4 + 2)) (nth zs ((k + 1) * 4 + 3))) := rfl
      have hS : stoneB (btw (nth zs (k * 4)) (nth zs (k * 4 + 1)) (nth zs (k * 4 + 2)) (nth zs (k * 4 + 3)) (nth zs ((k + 1) * 4)) (nth zs ((k + 1) * 4 + 1)) (nth zs ((k + 1) * 4 + 2)) (nth zs ((k + 1) * 4 + 3))) 4 = true := by
        have := HPT.out k hlt
        simp only [pairB, Bool.and_eq_true] at this
        exact this.1
      clear hq hq2
      obtain ⟨wk, rfl⟩ : ∃ wk : World, wk = wr := ⟨_, rfl⟩
      go_upto_region 5 with fail
      go_cut [7] (fun s7 wx => ∃ gs gq : Nat, s7 = .pointer (some ⟨gs, 0, none⟩) ∧ wk.heap.size ≤ gs ∧ Hid (Box wx gs (.slice (some ⟨gq, 0, none⟩) 4 4)) ∧ Hid (RecsAt wx wx.heap.size 2 (some ⟨gq, 0, none⟩) 4 (btwA zs k)) ∧ Hid (Below wk.heap.size wk wx))
      case first =>
        go_region_held3 (fun w' => w'.cell? ⟨w.heap.size, 0, none⟩ = some (.slice (some ⟨b, off, none⟩) (m + 1) c) ∧ (w'.cell? ⟨b, off + k * 4, none⟩ = some (.int .i64 (nth zs (k * 4))) ∧ w'.cell? ⟨b, off + k * 4 + 1, none⟩ = some (.int .i64 (nth zs (k * 4 + 1))) ∧ w'.cell? ⟨b, off + k * 4 + 2, none⟩ = some (.int .i64 (nth zs (k * 4 + 2))) ∧ w'.cell? ⟨b, off + k * 4 + 3, none⟩ = some (.int .i64 (nth zs (k * 4 + 3)))) ∧ (w'.cell? ⟨b, off + (k + 1) * 4, none⟩ = some (.int .i64 (nth zs ((k + 1) * 4))) ∧ w'.cell? ⟨b, off + (k + 1) * 4 + 1, none⟩ = some (.int .i64 (nth zs ((k + 1) * 4 + 1))) ∧ w'.cell? ⟨b, off + (k + 1) * 4 + 2, none⟩ = some (.int .i64 (nth zs ((k + 1) * 4 + 2))) ∧ w'.cell? ⟨b, off + (k + 1) * 4 + 3, none⟩ = some (.int .i64 (nth zs ((k + 1) * 4 + 3))))) (first | exact ⟨hbox, ⟨x0, x1, x2, x3⟩, ⟨y0, y1, y2, y3⟩⟩ | (refine keepA (by assumption) (fun i => ?_) ?_ <;> first | exact cell_alloc_lt (by first | (simp; done) | (simp; omega) | omega) | exact (cell_alloc_lt (by first | (simp; done) | (simp; omega) | omega)).trans (cell_alloc_lt (by first | (simp; done) | (simp; omega) | omega)).symm | exact hcc _ _ (by first | (simp; done) | (simp; omega) | omega) | exact World.cell?_setCell_far _ _ _ _ (by first | (simp; done) | (simp; omega) | omega))) ((go_at_call 98; refine (iBetween_any _ _ _ _ _ _ _ _ _).mono ?_; rintro e w1 ⟨A1, n1, c1, rfl, ht, _, hb1⟩; obtain ⟨rfl, rfl, gq, rfl, hrq, hgq⟩ := ht hS; rw [hS]; obtain ⟨hcc, hff⟩ := bcell hb1; have k1 := hb1.size; simp at k1; have k2 : w1.heap.size ≠ w.heap.size := (by omega); have k3 : w1.heap.size ≠ b := (by omega)))
        · go_wp2_with fail
          go_meet
          have hzk := hb1.size
          simp at hzk
          have hgl2 := hrq.lt
          exact ⟨w1.heap.size, gq, rfl, by omega, Lib.hid (Box.new _ _ _), Lib.hid ((show RowF (w1.alloc _) gq 65 (4 * 2) (ints (btwA zs k)) from hrq.alloc _).recs rfl), Lib.hid (((below_drewN (Below.refl wk.heap.size wk) 1).trans (hb1.mono (by simp))).alloc (by omega) _)⟩
        · go_wp2_with fail
          go_meet
          have hzk := hb1.size
          simp at hzk
          have hgl2 := hrq.lt
          have hrw := (rowF_new1 wk.drew (.slice none 0 0) 142).after hb1
          simp at hgq
          exact ⟨wk.heap.size, gq, rfl, by omega, Lib.hid (box_set _ hrw), Lib.hid ((show RowF (w1.setCell _ _) gq 65 (4 * 2) (ints (btwA zs k)) from hrq.set_other (by simp; omega) _).recs rfl), Lib.hid ((((below_drewN (Below.refl wk.heap.size wk) 1).alloc (Nat.le_refl _) _).trans (hb1.mono (by simp))).setCell (by simp) _)⟩
      case rest =>
        clear x0 x1 x2 x3 y0 y1 y2 y3 hbox
        obtain ⟨gs, gq, rfl, hgs, HBX, HRQ, HBW⟩ := hcut
        have HRc := Lib.hid (HR.out.after HBW.out)
        have HXc := Lib.hid (HX.out.after HBW.out)
        have HBc := Lib.hid (HB.out.trans (HBW.out.mono hz))
        have hgsl := HBX.out.2
        have bxc := HBX.out.1
        have hrlc := HRc.out.lt
        have hzc := HBW.out.size
        have hnes : w.heap.size + 1 ≠ gs := by omega
        have HSW : Hid (swt zs k = weightI (btwA zs k) 4 ∧ smt zs k = overI facX (btwA zs k) 4) := ⟨rfl, rfl⟩
        clear HR HX HB
        go_wp2
        go_region_held3 (fun w' => w'.cell? ⟨gs, 0, none⟩ = some (.slice (some ⟨gq, 0, none⟩) 4 4)) (first | exact bxc | assumption | (refine (World.cell?_setCell_far _ _ _ _ hnes).trans ((World.cell?_setCell_far _ _ _ _ hnes).trans ?_); assumption))
          ((first
            | (go_at_call 122; refine (iWeightOf_any _ _ _ (btwA zs k) _ (by exact HRQ.out)).mono ?_; rintro e w1 ⟨rfl, hb1⟩; have bx1 : w1.cell? ⟨gs, 0, none⟩ = some (.slice (some ⟨gq, 0, none⟩) 4 4) := (hb1.cell (p := ⟨gs, 0, none⟩) (by exact hgsl)).trans bxc; have HQ1 := Lib.hid ((show RecsAt wc.drew wc.drew.heap.size 2 _ 4 (btwA zs k) from HRQ.out).after hb1))
            | (go_at_call 123; refine (iMomentOf_any _ _ _ (btwA zs k) _ HQ1.out).mono ?_; rintro e w2 ⟨rfl, hb2⟩; have HR2 := Lib.hid ((show RowF wc.drew _ _ _ _ from HRc.out).after hb1 |>.after hb2); have bx2 : w2.cell? ⟨gs, 0, none⟩ = some (.slice (some ⟨gq, 0, none⟩) 4 4) := (hb2.cell (p := ⟨gs, 0, none⟩) (by have := hb1.size; simp at this; exact Nat.lt_of_lt_of_le hgsl this)).trans bx1; have d0 := HR2.out.cell (i := k * 2) (by omega); have d1 := HR2.out.cell (i := k * 2 + 1) (by omega); have f0 := HR2.out.frozen (k * 2); have f1 := HR2.out.frozen (k * 2 + 1))))
        have HB3 := Lib.hid ((((below_drewN HBc.out 1).trans (hb1.mono (by simp; omega))).trans (hb2.mono (by have := hb1.size; simp at this; omega))).setCell (p := ⟨w.heap.size + 1, k * 2, none⟩) (by simp) (.int .i64 (weightI (btwA zs k) 4)) |>.setCell (p := ⟨w.heap.size + 1, k * 2 + 1, none⟩) (by simp) (.int .i64 (overI facX (btwA zs k) 4)))
        have HX3 := Lib.hid (((show Box wc.drew _ _ from HXc.out).after hb1).after hb2)
        have HX4 : Hid (Box ((w2.setCell ⟨w.heap.size + 1, k * 2, none⟩ (.int .i64 (weightI (btwA zs k) 4))).setCell ⟨w.heap.size + 1, k * 2 + 1, none⟩ (.int .i64 (overI facX (btwA zs k) 4))) w.heap.size (.slice (some ⟨b, off, none⟩) (m + 1) c)) :=
          ⟨(World.cell?_setCell_far _ _ _ _ (by simp)).trans ((World.cell?_setCell_far _ _ _ _ (by simp)).trans HX3.out.1), by have := HX3.out.2; simpa using this⟩
        have HR3 : Hid (RowF ((w2.setCell ⟨w.heap.size + 1, k * 2, none⟩ (.int .i64 (weightI (btwA zs k) 4))).setCell ⟨w.heap.size + 1, k * 2 + 1, none⟩ (.int .i64 (overI facX (btwA zs k) 4))) (w.heap.size + 1) 163 (m * 2) (fill (wmL zs ls 0 m) ((k + 1) * 2))) := by
          have h := (HR2.out.set (k * 2) (.int .i64 (weightI (btwA zs k) 4))).set (k * 2 + 1) (.int .i64 (overI facX (btwA zs k) 4))
          have hf := wmL_fill (zs := zs) (ls := ls) (i := 0) hlt
          rw [kwTo_0, kmTo_0, HSW.out.1, HSW.out.2] at hf
          rw [← hf]
          exact h
        clear d0 d1 f0 f1 hb1 hb2 bx1 bx2 bxc
        go_wp2
        go_roundw
        case rel => exact ⟨k + 1, by omega, by go_num, HR3, HX4, HB3⟩
        case measure => simp [intOf]; omega
    · obtain rfl : m = k := by omega
      have HR0 : Hid (RowF wr (w.heap.size + 1) 163 (m * 2) (ints (wmL zs ls 0 m))) := HR.out.congr (fun j hj => fill_end _ hj)
      clear HR HC
      go_wp2
      go_loopw [47] (fun v wr => ∃ i : Nat, i ≤ q ∧ v = .int .i64 i ∧ Hid (RowF wr (w.heap.size + 1) 163 (m * 2) (ints (wmL zs ls i m))) ∧ Hid (Below w.heap.size w wr)) (fun v _ => q - (intOf v).toNat)
      case atStart => exact ⟨0, Nat.zero_le _, rfl, HR0, HB⟩
      case round =>
        clear HR0 HB HX
        obtain ⟨i, hi, rfl, HR, HB⟩ := hrel
        by_cases hli : i < q
        · obtain ⟨b2, off2, rfl, hb2B, hc2⟩ := HLD.out.2 (by omega)
          have hlc := ldCells hc2 hli
          have x0 := (HB.out.cell (p := ⟨b2, off2 + i * 3, none⟩) hb2B).trans hlc.1
          have x1 := (HB.out.cell (p := ⟨b2, off2 + i * 3 + 1, none⟩) hb2B).trans hlc.2.1
          have x2 := (HB.out.cell (p := ⟨b2, off2 + i * 3 + 2, none⟩) hb2B).trans hlc.2.2
          have hlo := loadAt_out (HLA.out i hli)
          obtain ⟨s, hs⟩ : ∃ s : Nat, nth ls (i * 3) = (s : Int) := ⟨(nth ls (i * 3)).toNat, by omega⟩
          have hsm : s < m := by omega
          have hz := HB.out.size
          have hrl := HR.out.lt
          have c0 := HR.out.cell (i := s * 2) (by omega)
          have c1 := HR.out.cell (i := s * 2 + 1) (by omega)
          have hwn := wmL_nth zs ls i hsm
          rw [ints_def, hwn.1] at c0
          rw [ints_def, hwn.2] at c1
          have hkb := HKB.out s i (by omega)
          have hmb := HMB.out s i (by omega)
          have hkb2 := HKB.out s (i + 1) (by omega)
          have hmb2 := HMB.out s (i + 1) (by omega)
          have hwx := wx_bd hlo.2.1 hlo.2.2
          have e3 : IntKind.i64.wrap (kwTo zs ls s i + nth ls (i * 3 + 1)) = kwTo zs ls s (i + 1) := by rw [← kwTo_t zs hs]; exact IntWalk.i64_in _ (by omega)
          have e4 : IntKind.i64.wrap (nth ls (i * 3 + 1) * nth ls (i * 3 + 2)) = nth ls (i * 3 + 1) * nth ls (i * 3 + 2) := IntWalk.i64_in _ (by omega)
          have e5 : IntKind.i64.wrap (kmTo zs ls s i + nth ls (i * 3 + 1) * nth ls (i * 3 + 2)) = kmTo zs ls s (i + 1) := by rw [← kmTo_t zs hs]; exact IntWalk.i64_in _ (by omega)
          have HLW := Lib.hid (wmL_load (zs := zs) hsm hs)
          rw [hs] at x0
          have s0 : (0 : Int) ≤ (s : Int) := by omega
          have s1 : (s : Int) < (m : Int) := by omega
          clear hs hlc hc2 hlo hwn
          have HRA := Lib.hid (HR.out.alloc (.cells #[.int .i64 (s : Int), .int .i64 (nth ls (i * 3 + 1)), .int .i64 (nth ls (i * 3 + 2))] 69))
          have HBA := Lib.hid (HB.out.alloc hz (.cells #[.int .i64 (s : Int), .int .i64 (nth ls (i * 3 + 1)), .int .i64 (nth ls (i * 3 + 2))] 69))
          have g0 := HRA.out.frozen (s * 2)
          have g1 := HRA.out.frozen (s * 2 + 1)
          generalize nth ls (i * 3 + 1) = lw at *
          generalize nth ls (i * 3 + 2) = lx at *
          have HLB : Hid (RowF (wr.alloc (.cells #[.int .i64 (s : Int), .int .i64 lw, .int .i64 lx] 69)) wr.heap.size 69 3 (ints [(s : Int), lw, lx])) := RowF.of_row (World.rowIs_alloc wr #[.int .i64 (s : Int), .int .i64 lw, .int .i64 lx] 69 _ (fun j hj => by simp at hj; match j, hj with | 0, _ => rfl | 1, _ => rfl | 2, _ => rfl))
          clear hkb hmb hkb2 hmb2 hwx
          obtain ⟨wk, rfl⟩ : ∃ wk : World, wk = wr := ⟨_, rfl⟩
          go_upto_region 11 with fail
          go_cut [10] (fun s10 wx => s10 = .pointer (some ⟨wk.heap.size, 0, none⟩) ∧ Hid (RowF wx (w.heap.size + 1) 163 (m * 2) (fun j => if j = s * 2 then Value.int .i64 (kwTo zs ls s (i + 1)) else ints (wmL zs ls i m) j)) ∧ Hid (RowF wx wk.heap.size 69 3 (ints [(s : Int), lw, lx])) ∧ Hid (Below w.heap.size w wx))
          case first =>
            have HLN : Hid (RowF ((wk.setCell ⟨w.heap.size + 1, s * 2, none⟩ (.int .i64 (kwTo zs ls s (i + 1)))).alloc (.cells #[.int .i64 (s : Int), .int .i64 lw, .int .i64 lx] 69)) wk.heap.size 69 3 (ints [(s : Int), lw, lx])) := by
              have h := rowF_new3 (wk.setCell ⟨w.heap.size + 1, s * 2, none⟩ (.int .i64 (kwTo zs ls s (i + 1)))) (s : Int) lw lx 69
              have e : (wk.setCell ⟨w.heap.size + 1, s * 2, none⟩ (.int .i64 (kwTo zs ls s (i + 1)))).heap.size = wk.heap.size := by simp
              rw [e] at h
              exact h
            go_region_law (fail)
            all_goals (go_wp2_with fail; go_meet; exact ⟨rfl, Lib.hid ((HR.out.set (s * 2) _).alloc _).drew, Lib.hid HLN.out.drew, Lib.hid ((HB.out.setCell (by simp) _).alloc (by simp; omega) _).drew⟩)
          case rest =>
            clear c0 x0 x1 x2 e3 g0 g1 HRA HLB HBA
            obtain ⟨rfl, HRc, HLc, HBc⟩ := hcut
            have c1 : wc.cell? ⟨w.heap.size + 1, s * 2 + 1, none⟩ = some (.int .i64 (kmTo zs ls s i)) := by
              have h := HRc.out.cell (i := s * 2 + 1) (by omega)
              rw [if_neg (by omega), ints_def, (wmL_nth zs ls i hsm).2] at h
              exact h
            have y0 : wc.cell? ⟨wk.heap.size, 0, none⟩ = some (.int .i64 (s : Int)) := HLc.out.cell (by omega)
            have y1 : wc.cell? ⟨wk.heap.size, 1, none⟩ = some (.int .i64 lw) := HLc.out.cell (by omega)
            have y2 : wc.cell? ⟨wk.heap.size, 2, none⟩ = some (.int .i64 lx) := HLc.out.cell (by omega)
            have g1 := HRc.out.frozen (s * 2 + 1)
            have HR4 : Hid (RowF (wc.drew.setCell ⟨w.heap.size + 1, s * 2 + 1, none⟩ (.int .i64 (kmTo zs ls s (i + 1)))) (w.heap.size + 1) 163 (m * 2) (ints (wmL zs ls (i + 1) m))) := (HRc.out.drew.set (s * 2 + 1) _).congr HLW.out
            have HB4 : Hid (Below w.heap.size w (wc.drew.setCell ⟨w.heap.size + 1, s * 2 + 1, none⟩ (.int .i64 (kmTo zs ls s (i + 1))))) := Lib.hid (HBc.out.drew.setCell (by simp) _)
            go_wp2
            go_region_law (fail)
            all_goals
              go_wp2
              go_roundw
              case rel => exact ⟨i + 1, by omega, by go_num, HR4, HB4⟩
              case measure => simp [intOf]; omega
        · obtain rfl : q = i := by omega
          go_wp2
          go_ret
          exact ⟨_, rfl, by omega, HR.out, HB.out⟩
end Go.Proofs.Ytdjhiegolojoaaa
