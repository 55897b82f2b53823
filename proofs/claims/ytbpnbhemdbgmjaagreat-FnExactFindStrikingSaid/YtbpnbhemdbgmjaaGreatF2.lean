/-
  Texts that the law stands on, part 2.
-/
import Derived.Test.YtbpnbhemdbgmjaaGreatF1
import Derived.Test.YtbpnbhemdbgmjaaGreatC1
import Derived.Test.YtbpnbhemdbgmjaaGreatC11
import Derived.Test.YtbpnbhemdbgmjaaGreatC21
import Derived.Test.YtbpnbhemdbgmjaaGreatC23
import Derived.Test.YtbpnbhemdbgmjaaGreatC24
import Derived.Maps.RangeWalk
import Derived.Laws.BitsAllLaws
import Derived.Laws.BitsLemmas
set_option linter.unusedVariables false
set_option linter.unusedSimpArgs false
namespace Go.Proofs.YtbpnbhemdbgmjaaGreat
namespace X
open Go.RowKit
def StoPost (w : World) (zs : List Int) (n k : Nat) (e : Ending) (w' : World) : Prop :=
 ∃ A m c L, e = .returned (.agg #[.slice A m c]) ∧ RecsAt w' w'.heap.size 2 A m L ∧ m ≤ 4 ∧ weightI L m = (if k + 1 < n then swt zs k else 0) ∧ overI facX L m = (if k + 1 < n then smt zs k else 0) ∧ Below w.heap.size w w'
theorem sto_none : weightI [] 0 = 0 ∧ overI facX [] 0 = 0 := by
 have h : stoneB [] 0 = false := stoneB_f1 (by decide)
 exact ⟨by unfold weightI; rw [overI_f h]; rfl, overI_f h⟩
set_option maxRecDepth 100000 in
set_option maxHeartbeats 3200000 in
theorem sStoneOf_any (A : Option Addr) (n c : Nat) (zs : List Int) (k : Nat) (w : World) (h : RecsAt w w.heap.size 4 A n zs) (hA : archB zs n = true) (hk : k < n) :
  Calls Tryzx.prog 130 #[.agg #[.slice A n c], .int .i64 k] w (StoPost w zs n k) := by
 obtain ⟨hn8, hpt⟩ := archB_out hA
 obtain ⟨b, off, rfl, hbB, hcell⟩ := h.2 (by omega)
 have b0 : Below w.heap.size w ((w.alloc (.cells #[.slice (some ⟨b, off, none⟩) n c] 26)).alloc (.cells #[.slice none 0 0] 150)) := ((Below.refl _ _).alloc (Nat.le_refl _) _).alloc (by simp) _
 have h1 := h.after b0
 have bx0 := (rowF_new1S w (.slice (some ⟨b, off, none⟩) n c) 26).alloc (.cells #[.slice none 0 0] 150)
 have rs0 : RowF ((w.alloc (.cells #[.slice (some ⟨b, off, none⟩) n c] 26)).alloc (.cells #[.slice none 0 0] 150)) (w.heap.size + 1) 150 1 (fun _ => .slice none 0 0) := by
  have h := rowF_new1S (w.alloc (.cells #[.slice (some ⟨b, off, none⟩) n c] 26)) (.slice none 0 0) 150
  rw [World.size_alloc] at h
  exact h
 have e2 : IntKind.i64.wrap ((n : Int) - 2) = (n : Int) - 2 := IntWalk.i64_in _ (by omega)
 by_cases hlt : k + 1 < n
 ·have hin : inB (k : Int) 0 ((n : Int) - 2) = true := inB_t (by omega)
  have HC := Lib.hid (fun j (hj : j < n) => jtCells hcell hj)
  go_enter Tryzx.func130, Tryz.ntmps130
  go_wp2_with fail
  refine (sArchOk_any _ _ _ zs _ h1 (by omega)).mono ?_
  rw [hA]
  rintro e wr ⟨rfl, hb1⟩
  have HB1 := Lib.hid (below_then b0 hb1)
  have HBX := Lib.hid (bx0.after hb1)
  have HRS := Lib.hid (rs0.after hb1)
  have hbox := HBX.out.cell (i := 0) (by omega)
  have hz := HB1.out.size
  have hgl := HBX.out.lt
  have hgl2 := HRS.out.lt
  have hq := HC.out k (by omega)
  have hq2 := HC.out (k + 1) (by omega)
  have hbr : b < wr.heap.size := by omega
  have x0 := (HB1.out.cell (p := ⟨b, off + k * 4, none⟩) hbB).trans hq.1
  have x1 := (HB1.out.cell (p := ⟨b, off + k * 4 + 1, none⟩) hbB).trans hq.2.1
  have x2 := (HB1.out.cell (p := ⟨b, off + k * 4 + 2, none⟩) hbB).trans hq.2.2.1
  have x3 := (HB1.out.cell (p := ⟨b, off + k * 4 + 3, none⟩) hbB).trans hq.2.2.2
  have y0 := (HB1.out.cell (p := ⟨b, off + (k + 1) * 4, none⟩) hbB).trans hq2.1
  have y1 := (HB1.out.cell (p := ⟨b, off + (k + 1) * 4 + 1, none⟩) hbB).trans hq2.2.1
  have y2 := (HB1.out.cell (p := ⟨b, off + (k + 1) * 4 + 2, none⟩) hbB).trans hq2.2.2.1
  have y3 := (HB1.out.cell (p := ⟨b, off + (k + 1) * 4 + 3, none⟩) hbB).trans hq2.2.2.2
  have i1 : IntKind.i64.wrap ((k : Int) + 1) = (k : Int) + 1 := IntWalk.i64_in _ (by omega)
  have i2 : (k : Int) < (n : Int) := by omega
  have i3 : (k : Int) + 1 < (n : Int) := by omega
  have i4 : (0 : Int) ≤ (k : Int) + 1 := by omega
  have i5 : ((k : Int) + 1).toNat = k + 1 := by omega
  have i6 : (0 : Int) ≤ (k : Int) := by omega
  have ne1 : wr.heap.size ≠ w.heap.size := by omega
  have ne2 : wr.heap.size ≠ b := by omega
  have HST : Hid (btwA zs k = btw (nth zs (k * 4)) (nth zs (k * 4 + 1)) (nth zs (k * 4 + 2)) (nth zs (k * 4 + 3)) (nth zs ((k + 1) * 4)) (nth zs ((k + 1) * 4 + 1)) (nth zs ((k + 1) * 4 + 2)) (nth zs ((k + 1) * 4 + 3))) := rfl
  have hS : stoneB (btw (nth zs (k * 4)) (nth zs (k * 4 + 1)) (nth zs (k * 4 + 2)) (nth zs (k * 4 + 3)) (nth zs ((k + 1) * 4)) (nth zs ((k + 1) * 4 + 1)) (nth zs ((k + 1) * 4 + 2)) (nth zs ((k + 1) * 4 + 3))) 4 = true := by
   have := hpt k (by omega)
   simp only [pairB, Bool.and_eq_true] at this
   exact this.1
  clear hq hq2 hb1 h1 h hcell b0 bx0 rs0 hpt hA
  obtain ⟨wk, rfl⟩ : ∃ wk : World, wk = wr := ⟨_, rfl⟩
  go_upto_region 3 with (go_at_call 126; refine (l01In_any _ _ _ _).mono ?_; rw [hin]; rintro e w' ⟨rfl, rfl⟩)
  go_cut [5] (fun s5 wx => ∃ gs gq : Nat, s5 = .pointer (some ⟨gs, 0, none⟩) ∧ wk.heap.size ≤ gs ∧ wk.heap.size ≤ gq ∧ Hid (Box wx gs (.slice (some ⟨gq, 0, none⟩) 4 4)) ∧ Hid (RecsAt wx wx.heap.size 2 (some ⟨gq, 0, none⟩) 4 (btwA zs k)) ∧ Hid (Below wk.heap.size wk wx))
  case first =>
   go_region_held3 (fun w' => w'.cell? ⟨w.heap.size, 0, none⟩ = some (.slice (some ⟨b, off, none⟩) n c) ∧ (w'.cell? ⟨b, off + k * 4, none⟩ = some (.int .i64 (nth zs (k * 4))) ∧ w'.cell? ⟨b, off + k * 4 + 1, none⟩ = some (.int .i64 (nth zs (k * 4 + 1))) ∧ w'.cell? ⟨b, off + k * 4 + 2, none⟩ = some (.int .i64 (nth zs (k * 4 + 2))) ∧ w'.cell? ⟨b, off + k * 4 + 3, none⟩ = some (.int .i64 (nth zs (k * 4 + 3)))) ∧ (w'.cell? ⟨b, off + (k + 1) * 4, none⟩ = some (.int .i64 (nth zs ((k + 1) * 4))) ∧ w'.cell? ⟨b, off + (k + 1) * 4 + 1, none⟩ = some (.int .i64 (nth zs ((k + 1) * 4 + 1))) ∧ w'.cell? ⟨b, off + (k + 1) * 4 + 2, none⟩ = some (.int .i64 (nth zs ((k + 1) * 4 + 2))) ∧ w'.cell? ⟨b, off + (k + 1) * 4 + 3, none⟩ = some (.int .i64 (nth zs ((k + 1) * 4 + 3))))) (first | exact ⟨hbox, ⟨x0, x1, x2, x3⟩, ⟨y0, y1, y2, y3⟩⟩ | (refine keepA (by assumption) (fun i => ?_) ?_ <;> first | exact cell_alloc_lt (by first | (simp; done) | (simp; omega) | omega) | exact (cell_alloc_lt (by first | (simp; done) | (simp; omega) | omega)).trans (cell_alloc_lt (by first | (simp; done) | (simp; omega) | omega)).symm | exact hcc _ _ (by first | (simp; done) | (simp; omega) | omega) | exact World.cell?_setCell_far _ _ _ _ (by first | (simp; done) | (simp; omega) | omega))) ((go_at_call 134; refine (sBetween_any _ _ _ _ _ _ _ _ _).mono ?_; rintro e w1 ⟨A1, n1, c1, rfl, ht, _, hb1⟩; obtain ⟨rfl, rfl, gq, rfl, hrq, hgq⟩ := ht hS; rw [hS]; obtain ⟨hcc, hff⟩ := bcell hb1; have k1 := hb1.size; simp at k1; have k2 : w1.heap.size ≠ w.heap.size := (by omega); have k3 : w1.heap.size ≠ b := (by omega)))
   ·go_wp2_with fail
    go_meet
    have hzk := hb1.size
    simp at hzk
    have hgl2 := hrq.lt
    simp at hgq
    exact ⟨w1.heap.size, gq, rfl, by omega, by omega, Lib.hid (Box.new _ _ _), Lib.hid ((show RowF (w1.alloc _) gq 43 (4 * 2) (ints (btwA zs k)) from hrq.alloc _).recs rfl), Lib.hid (((below_drewN (Below.refl wk.heap.size wk) 1).trans (hb1.mono (by simp))).alloc (by omega) _)⟩
   ·go_wp2_with fail
    go_meet
    have hzk := hb1.size
    simp at hzk
    have hgl2 := hrq.lt
    have hrw := (rowF_new1S wk.drew (.slice none 0 0) 150).after hb1
    simp at hgq
    exact ⟨wk.heap.size, gq, rfl, by omega, by omega, Lib.hid (box_setS _ hrw), Lib.hid ((show RowF (w1.setCell _ _) gq 43 (4 * 2) (ints (btwA zs k)) from hrq.set_other (by simp; omega) _).recs rfl), Lib.hid ((((below_drewN (Below.refl wk.heap.size wk) 1).alloc (Nat.le_refl _) _).trans (hb1.mono (by simp))).setCell (by simp) _)⟩
  case rest =>
   clear x0 x1 x2 x3 y0 y1 y2 y3 hbox
   obtain ⟨gs, gq, rfl, hgs, hgq, HBXS, HRQ, HBW⟩ := hcut
   have HRSc := Lib.hid (HRS.out.after HBW.out)
   have c0 := HRSc.out.cell (i := 0) (by omega)
   have f0 := HRSc.out.frozen 0
   have bxc := HBXS.out.1
   have HB3 : Hid (Below w.heap.size w (wc.setCell ⟨w.heap.size + 1, 0, none⟩ (.slice (some ⟨gq, 0, none⟩) 4 4))) := Lib.hid ((HB1.out.trans (HBW.out.mono hz)).setCell (by simp) _)
   have hr0 : (wc.setCell ⟨w.heap.size + 1, 0, none⟩ (.slice (some ⟨gq, 0, none⟩) 4 4)).cell? ⟨w.heap.size + 1, 0, none⟩ = some (.slice (some ⟨gq, 0, none⟩) 4 4) := (box_setS _ HRSc.out).1
   have HRQ3 : Hid (RecsAt (wc.setCell ⟨w.heap.size + 1, 0, none⟩ (.slice (some ⟨gq, 0, none⟩) 4 4)) (wc.setCell ⟨w.heap.size + 1, 0, none⟩ (.slice (some ⟨gq, 0, none⟩) 4 4)).heap.size 2 (some ⟨gq, 0, none⟩) 4 (btwA zs k)) := by
    refine ⟨HRQ.out.1, fun h0 => ?_⟩
    obtain ⟨b', off', e, hb', hc⟩ := HRQ.out.2 h0
    have e' : gq = b' := by simp at e; exact e.1
    exact ⟨b', off', e, by simpa using hb', fun i hi => (World.cell?_setCell_far _ _ _ _ (by simp; omega)).trans (hc i hi)⟩
   go_wp2
   refine bodyPost_ret (v := .agg #[.slice (some ⟨gq, 0, none⟩) 4 4]) (by simp [results, Tryz.results130, go_sem, *]) rfl ?_
   exact ⟨some ⟨gq, 0, none⟩, 4, 4, btwA zs k, rfl, HRQ3.out, by omega, by rw [if_pos hlt]; rfl, by rw [if_pos hlt]; rfl, HB3.out⟩
 ·have hin : inB (k : Int) 0 ((n : Int) - 2) = false := by
   cases h : inB (k : Int) 0 ((n : Int) - 2)
   ·rfl
   ·have := inB_iff.1 h; omega
  go_enter Tryzx.func130, Tryz.ntmps130
  go_wp2_with fail
  refine (sArchOk_any _ _ _ zs _ h1 (by omega)).mono ?_
  rw [hA]
  rintro e wr ⟨rfl, hb1⟩
  have HB1 := Lib.hid (below_then b0 hb1)
  have HBX := Lib.hid (bx0.after hb1)
  have HRS := Lib.hid (rs0.after hb1)
  have hbox := HBX.out.cell (i := 0) (by omega)
  have hz := HB1.out.size
  have hgl := HBX.out.lt
  have c0 := HRS.out.cell (i := 0) (by omega)
  have f0 := HRS.out.frozen 0
  have HB3 : Hid (Below w.heap.size w (wr.setCell ⟨w.heap.size + 1, 0, none⟩ (.slice none 0 0))) := Lib.hid (HB1.out.setCell (by simp) _)
  have hr0 : (wr.setCell ⟨w.heap.size + 1, 0, none⟩ (.slice none 0 0)).cell? ⟨w.heap.size + 1, 0, none⟩ = some (.slice none 0 0) := (box_setS _ HRS.out).1
  clear hb1 h1 h hcell b0 bx0 rs0 hpt hA
  go_wp2_with (go_at_call 126; refine (l01In_any _ _ _ _).mono ?_; rw [hin]; rintro e w' ⟨rfl, rfl⟩)
  refine bodyPost_ret (v := .agg #[.slice none 0 0]) (by simp [results, Tryz.results130, go_sem, *]) rfl ?_
  exact ⟨none, 0, 0, [], rfl, RecsAt.nil, by omega, by rw [if_neg hlt]; exact sto_none.1, by rw [if_neg hlt]; exact sto_none.2, HB3.out⟩
section
open Go.RowKit
structure SSp (w wr : World) (va : Value) (zs xs : List Int) (k : Nat) (v5 : Value) : Prop where
 arch : RowF wr w.heap.size 26 1 (fun _ => va)
 own : OwnR wr (w.heap.size + 1) 65 4 v5 (k * 2) (rowTo zs (sumW xs) (sumM xs) k)
 below : Below w.heap.size w wr
theorem SSp.after {w wr w' : World} {va : Value} {zs xs : List Int} {k : Nat} {v5 : Value} (h : SSp w wr va zs xs k v5) (hb : Below wr.heap.size wr w') : SSp w w' va zs xs k v5 := ⟨h.arch.after hb, h.own.below hb, h.below.trans (hb.mono h.below.size)⟩
set_option maxRecDepth 100000 in
set_option maxHeartbeats 6400000 in
theorem sStageRows_any (A : Option Addr) (n c : Nat) (zs : List Int) (B : Option Addr) (q d : Nat) (cs : List Int) (w : World) (h : RecsAt w w.heap.size 4 A n zs) (hn : n ≤ 1048576) (hi : IntsAt w w.heap.size B q cs) (hq : q ≤ 1048576) :
  Calls Tryzx.prog 83 #[.agg #[.slice A n c], .slice B q d] w (RowsPost w (stgN zs n cs q) (stgR zs n cs q)) := by
 have hs0 : (w.alloc (.cells #[.slice A n c] 26)).heap.size = w.heap.size + 1 := World.size_alloc _ _
 have b0 : Below w.heap.size w ((w.alloc (.cells #[.slice A n c] 26)).alloc (.cells #[] 65)) := ((Below.refl _ _).alloc (Nat.le_refl _) _).alloc (by simp) _
 have h1 := h.after b0
 have l1 := hi.after b0
 have r0 := (rowF1 w (.slice A n c) 26).alloc (.cells #[] 65)
 have o0 : OwnR ((w.alloc (.cells #[.slice A n c] 26)).alloc (.cells #[] 65)) (w.heap.size + 1) 65 4 (.slice (some ⟨w.heap.size + 1, 0, none⟩) 0 0) 0 [] := by
  have h := OwnR.new (w.alloc (.cells #[.slice A n c] 26)) 65 4
  rw [hs0] at h
  exact h
 have HB0 := Lib.hid b0
 have HO0 := Lib.hid o0
 have HR0 := Lib.hid r0
 cases hL : carriedB zs n cs q
 ·have HF := Lib.hid (stg_f hL)
  clear b0 o0 r0 hs0 h hi
  go_enter Tryzx.func83, Tryz.ntmps83
  go_wp2_with fail
  refine (sCarriedOk_any _ _ _ zs _ _ _ cs _ h1 hn l1 hq).mono ?_
  rw [hL]
  rintro e w1 ⟨rfl, hb1⟩
  have HO1 := Lib.hid (HO0.out.below hb1)
  have HB1 := Lib.hid (HB0.out.trans (hb1.mono HB0.out.size))
  clear hb1
  go_wp2
  go_ret
  exact ⟨_, rfl, by rw [HF.out.1, HF.out.2]; exact HO1.out.weaken (by omega), HB1.out⟩
 ·have HT := Lib.hid (stg_t hL)
  obtain ⟨hA, hasc⟩ := carriedB_out hL
  have hn8 := (archB_out hA).1
  have hwm := wmok_stg cs q (n - 1) hA
  have HJB := Lib.hid (fun k (hk : k < n) => jBd_of hA hwm hk)
  have HWB := Lib.hid (fun k => sumStg_bd zs cs q (n - 1) k)
  have HSTP := Lib.hid (fun k (hk : k < n) => stg_step (zs := zs) (cs := cs) (q := q) (show 0 < n by omega) hk)
  have HASC := Lib.hid hasc
  have HA := Lib.hid hA
  have HH := Lib.hid h
  have HI := Lib.hid hi
  obtain ⟨b, off, rfl, hbB, hcell⟩ := h.2 (by omega)
  have HC := Lib.hid (fun j (hj : j < n) => jtCells hcell hj)
  clear b0 o0 r0 hs0 h hi hcell hA hwm hasc
  go_enter Tryzx.func83, Tryz.ntmps83
  go_wp2_with fail
  refine (sCarriedOk_any _ _ _ zs _ _ _ cs _ h1 hn l1 hq).mono ?_
  rw [hL]
  rintro e w1 ⟨rfl, hb1⟩
  have HST : Hid (SSp w w1 (.slice (some ⟨b, off, none⟩) n c) zs (stgL zs cs q (n - 1)) 0 (.slice (some ⟨w.heap.size + 1, 0, none⟩) 0 0)) := ⟨HR0.out.after hb1, HO0.out.below hb1, HB0.out.trans (hb1.mono HB0.out.size)⟩
  have HAT0 := Lib.hid (atOk_0 HASC.out)
  clear hb1 h1 l1 HO0 HB0 HR0 hL
  generalize hxs : stgL zs cs q (n - 1) = xs at *
  have HXS := Lib.hid hxs
  clear hxs
  go_wp2
  go_loopw [5, 6, 7, 8, 9] (fun v5 v6 v7 v8 v9 wr => ∃ (k t : Nat), k ≤ n ∧ v9 = .int .i64 k ∧ v8 = .int .i64 t ∧ v6 = .int .i64 (sumW xs k) ∧ v7 = .int .i64 (sumM xs k) ∧ Hid (AtOk cs q k t) ∧ Hid (SSp w wr (.slice (some ⟨b, off, none⟩) n c) zs xs k v5)) (fun _ _ _ _ v9 _ => n - (intOf v9).toNat)
  case atStart => exact ⟨0, 0, Nat.zero_le _, rfl, rfl, rfl, rfl, HAT0, HST⟩
  case round =>
   clear HST HAT0
   obtain ⟨k, t, hk, rfl, rfl, rfl, rfl, HAO, HR⟩ := hrel
   have hz := HR.out.below.size
   have a0 : wr.cell? ⟨w.heap.size, 0, none⟩ = some (.slice (some ⟨b, off, none⟩) n c) := HR.out.arch.cell (by omega)
   have hal := HR.out.arch.lt
   by_cases hlt : k < n
   ·have ki : (k : Int) < (n : Int) := by omega
    have k0 : (0 : Int) ≤ (k : Int) := by omega
    have hq' := HC.out k hlt
    have x0 : wr.cell? ⟨b, off + k * 4, none⟩ = some (.int .i64 (nth zs (k * 4))) := (HR.out.below.cell (by exact hbB)).trans hq'.1
    have x1 : wr.cell? ⟨b, off + k * 4 + 1, none⟩ = some (.int .i64 (nth zs (k * 4 + 1))) := (HR.out.below.cell (by exact hbB)).trans hq'.2.1
    have x2 : wr.cell? ⟨b, off + k * 4 + 2, none⟩ = some (.int .i64 (nth zs (k * 4 + 2))) := (HR.out.below.cell (by exact hbB)).trans hq'.2.2.1
    have x3 : wr.cell? ⟨b, off + k * 4 + 3, none⟩ = some (.int .i64 (nth zs (k * 4 + 3))) := (HR.out.below.cell (by exact hbB)).trans hq'.2.2.2
    have HX : Hid (rowTo zs (sumW xs) (sumM xs) k ++ [nth zs (k * 4 + 1), -nth zs (k * 4), 1, sumM xs k - nth zs (k * 4) * sumW xs k, -nth zs (k * 4 + 3), nth zs (k * 4 + 2), -1, nth zs (k * 4 + 2) * sumW xs k - sumM xs k] = rowTo zs (sumW xs) (sumM xs) (k + 1)) := rfl
    obtain ⟨e1, e2, e3, e4, e5, e6⟩ := jWraps (HJB.out k hlt)
    have HS1 := Lib.hid (HSTP.out k hlt)
    have hwk := HWB.out k
    have hwk1 := HWB.out (k + 1)
    have HO := Lib.hid HR.out.own
    have HAr := Lib.hid HR.out.arch
    have HBl := Lib.hid HR.out.below
    have hbl : b < wr.heap.size := by omega
    clear hq' HR
    generalize hWk : sumW xs k = lw at *
    generalize hMk : sumM xs k = lm at *
    clear hWk hMk
    generalize nth zs (k * 4) = ix at *
    generalize nth zs (k * 4 + 1) = iy at *
    generalize nth zs (k * 4 + 2) = ox at *
    generalize nth zs (k * 4 + 3) = oy at *
    have p0 := (rowC_new2 wr ix iy 43).alloc (.cells #[.int .i64 ox, .int .i64 oy] 43)
    have p1 : RowF ((wr.alloc (.cells #[.int .i64 ix, .int .i64 iy] 43)).alloc (.cells #[.int .i64 ox, .int .i64 oy] 43)) (wr.heap.size + 1) 43 2 (ints [ox, oy]) := by
     have h := rowC_new2 (wr.alloc (.cells #[.int .i64 ix, .int .i64 iy] 43)) ox oy 43
     rw [World.size_alloc] at h
     exact h
    have c0 : ((wr.alloc (.cells #[.int .i64 ix, .int .i64 iy] 43)).alloc (.cells #[.int .i64 ox, .int .i64 oy] 43)).cell? ⟨wr.heap.size, 0, none⟩ = some (.int .i64 ix) := p0.cell (i := 0) (by omega)
    have c1 : ((wr.alloc (.cells #[.int .i64 ix, .int .i64 iy] 43)).alloc (.cells #[.int .i64 ox, .int .i64 oy] 43)).cell? ⟨wr.heap.size, 1, none⟩ = some (.int .i64 iy) := p0.cell (i := 1) (by omega)
    have d0 : ((wr.alloc (.cells #[.int .i64 ix, .int .i64 iy] 43)).alloc (.cells #[.int .i64 ox, .int .i64 oy] 43)).cell? ⟨wr.heap.size + 1, 0, none⟩ = some (.int .i64 ox) := p1.cell (i := 0) (by omega)
    have d1 : ((wr.alloc (.cells #[.int .i64 ix, .int .i64 iy] 43)).alloc (.cells #[.int .i64 ox, .int .i64 oy] 43)).cell? ⟨wr.heap.size + 1, 1, none⟩ = some (.int .i64 oy) := p1.cell (i := 1) (by omega)
    have HU := Lib.hid (show Below (w.heap.size + 1) wr ((wr.alloc (.cells #[.int .i64 ix, .int .i64 iy] 43)).alloc (.cells #[.int .i64 ox, .int .i64 oy] 43)) from ((Below.refl (w.heap.size + 1) wr).alloc (by omega) _).alloc (by simp; omega) _)
    have HOA := Lib.hid ((HO.out.alloc (.cells #[.int .i64 ix, .int .i64 iy] 43)).alloc (.cells #[.int .i64 ox, .int .i64 oy] 43))
    have hww : ((wr.alloc (.cells #[.int .i64 ix, .int .i64 iy] 43)).alloc (.cells #[.int .i64 ox, .int .i64 oy] 43)).heap.size = wr.heap.size + 2 := by simp
    have HWW := Lib.hid hww
    clear p0 p1 hww
    have HAN : Hid (∀ w3, Below (w.heap.size + 1) wr w3 → RowF w3 w.heap.size 26 1 (fun _ => .slice (some ⟨b, off, none⟩) n c) ∧ Below w.heap.size w w3) := fun w3 hb3 => ⟨HAr.out.below hb3 (by omega), HBl.out.trans (hb3.mono (by omega))⟩
    go_upto_region 12 with fail
    generalize hwx : ((wr.alloc (.cells #[.int .i64 ix, .int .i64 iy] 43)).alloc (.cells #[.int .i64 ox, .int .i64 oy] 43)) = wx at *
    have hwz : wr.heap.size + 2 ≤ wx.heap.size := Nat.le_of_eq HWW.out.symm
    clear hwx x0 x1 x2 x3 a0
    have HOB := Lib.hid (HOA.out.alloc (.cells #[.int .i64 iy, .int .i64 (-ix), .int .i64 1, .int .i64 (lm - ix * lw), .int .i64 (-oy), .int .i64 ox, .int .i64 (-1), .int .i64 (ox * lw - lm)] 65))
    have HUB := Lib.hid (HU.out.alloc (by omega) (.cells #[.int .i64 iy, .int .i64 (-ix), .int .i64 1, .int .i64 (lm - ix * lw), .int .i64 (-oy), .int .i64 ox, .int .i64 (-1), .int .i64 (ox * lw - lm)] 65))
    have HCN : Hid (∀ i, i < 2 * 4 → (wx.alloc (.cells #[.int .i64 iy, .int .i64 (-ix), .int .i64 1, .int .i64 (lm - ix * lw), .int .i64 (-oy), .int .i64 ox, .int .i64 (-1), .int .i64 (ox * lw - lm)] 65)).cell? ⟨wx.heap.size, i, none⟩ = some (.int .i64 (nth [iy, -ix, 1, lm - ix * lw, -oy, ox, -1, ox * lw - lm] i))) := fun i hi => (rowC_new8 wx iy (-ix) 1 (lm - ix * lw) (-oy) ox (-1) (ox * lw - lm) 65).cell hi
    have hW0 : w.heap.size + 1 ≤ (wx.alloc (.cells #[.int .i64 iy, .int .i64 (-ix), .int .i64 1, .int .i64 (lm - ix * lw), .int .i64 (-oy), .int .i64 ox, .int .i64 (-1), .int .i64 (ox * lw - lm)] 65)).heap.size := by simp; omega
    by_cases hc : t < q ∧ nth cs t = (k : Int)
    ·obtain ⟨htq, hck⟩ := hc
     have hAT := atOk_t HASC.out HAO.out htq hck
     have HAT1 := Lib.hid hAT.2
     have HS2 : Hid (sumW xs (k + 1) = lw ∧ sumM xs (k + 1) = lm) := by
      show _ ∧ _
      have h := HS1.out
      rw [hAT.1] at h
      simpa using h
     obtain ⟨bi, oi, rfl, hbi, hci⟩ := HI.out.2 (show 0 < q by omega)
     have HCI := Lib.hid (fun (w3 : World) (hb3 : Below w.heap.size w w3) => (hb3.cell (p := ⟨bi, oi + t, none⟩) hbi).trans (hci t htq))
     have ti : (t : Int) < (q : Int) := by omega
     have t0 : (0 : Int) ≤ (t : Int) := by omega
     have hck' : (nth cs t == (k : Int)) = true := by simpa using hck
     have y3 : ∀ w3, Below (w.heap.size + 1) wr w3 → w3.cell? ⟨bi, oi + t, none⟩ = some (.int .i64 (k : Int)) := fun w3 hb3 => by rw [← hck]; exact HCI.out w3 (HAN.out w3 hb3).2
     have Y3 := Lib.hid y3
     clear hAT hci hck y3
     go_wp2_with (at_builtin; refine wpList_appR _ rfl (.tmp 38) (.tmp 63) 61 rfl (w.heap.size + 1) 65 4 32 #[.int .i64 0, .int .i64 0, .int .i64 0, .int .i64 0] Tryzx.underlying61 infoRow rfl (by decide) (by decide) _ (k * 2) _ rfl (by exact HOB.out) wx.heap.size 2 2 [iy, -ix, 1, lm - ix * lw, -oy, ox, -1, ox * lw - lm] rfl rfl (by exact HCN.out) (by omega) (w.heap.size + 1) wr (by exact HUB.out) (Nat.le_refl _) hW0 _ HX.out ?_ (by omega); intro g' cap' w3 hown3 hb3; have y3 := Y3.out w3 hb3; have a3 : w3.cell? ⟨w.heap.size, 0, none⟩ = some (.slice (some ⟨b, off, none⟩) n c) := (HAN.out w3 hb3).1.cell (by omega))
     have HR3 : Hid (SSp w w3 (.slice (some ⟨b, off, none⟩) n c) zs xs (k + 1) (.slice (some ⟨g', 0, none⟩) (k * 2 + 2) cap')) := ⟨(HAN.out w3 hb3).1, by rw [show (k + 1) * 2 = k * 2 + 2 by omega]; exact hown3, (HAN.out w3 hb3).2⟩
     clear hown3 hb3 c0 c1 d0 d1
     go_wp2
     go_roundw
     case rel => exact ⟨k + 1, t + 1, by omega, by go_num, by go_num, by rw [HS2.out.1], by rw [HS2.out.2], HAT1, HR3⟩
     case measure => simp [intOf]; omega
    ·have hAT := atOk_f HASC.out HAO.out hc
     have HAT1 := Lib.hid hAT.2
     have HFAL := Lib.hid hAT.1
     clear hAT
     by_cases htq : t < q
     ·have hck : ¬ nth cs t = (k : Int) := fun e => hc ⟨htq, e⟩
      obtain ⟨bi, oi, rfl, hbi, hci⟩ := HI.out.2 (show 0 < q by omega)
      have HCI := Lib.hid (fun (w3 : World) (hb3 : Below w.heap.size w w3) => (hb3.cell (p := ⟨bi, oi + t, none⟩) hbi).trans (hci t htq))
      have ti : (t : Int) < (q : Int) := by omega
      have t0 : (0 : Int) ≤ (t : Int) := by omega
      have hck' : (nth cs t == (k : Int)) = false := by simpa using hck
      have Y3 := Lib.hid (fun w3 (hb3 : Below (w.heap.size + 1) wr w3) => HCI.out w3 (HAN.out w3 hb3).2)
      clear hci hck hc
      go_wp2_with (at_builtin; refine wpList_appR _ rfl (.tmp 38) (.tmp 63) 61 rfl (w.heap.size + 1) 65 4 32 #[.int .i64 0, .int .i64 0, .int .i64 0, .int .i64 0] Tryzx.underlying61 infoRow rfl (by decide) (by decide) _ (k * 2) _ rfl (by exact HOB.out) wx.heap.size 2 2 [iy, -ix, 1, lm - ix * lw, -oy, ox, -1, ox * lw - lm] rfl rfl (by exact HCN.out) (by omega) (w.heap.size + 1) wr (by exact HUB.out) (Nat.le_refl _) hW0 _ HX.out ?_ (by omega); intro g' cap' w3 hown3 hb3; have y3 := Y3.out w3 hb3; have a3 : w3.cell? ⟨w.heap.size, 0, none⟩ = some (.slice (some ⟨b, off, none⟩) n c) := (HAN.out w3 hb3).1.cell (by omega))
      have HR3 : Hid (SSp w w3 (.slice (some ⟨b, off, none⟩) n c) zs xs (k + 1) (.slice (some ⟨g', 0, none⟩) (k * 2 + 2) cap')) := ⟨(HAN.out w3 hb3).1, by rw [show (k + 1) * 2 = k * 2 + 2 by omega]; exact hown3, (HAN.out w3 hb3).2⟩
      clear hown3 hb3 c0 c1 d0 d1
      have r3 : RecsAt w3 w3.heap.size 4 (some ⟨b, off, none⟩) n zs := (HH.out.below HR3.out.below).mono HR3.out.below.size
      refine (sStoneOf_any _ _ _ zs k _ r3 HA.out hlt).mono ?_
      rintro e w4 ⟨A4, m4, c4, L4, rfl, hr4, hm4, ew4, em4, hb4⟩
      have HR4 := Lib.hid (HR3.out.after hb4)
      have hwd := weightI_bd L4 m4
      have hmd := overI_bd facX_ok L4 m4
      have HS2 : Hid (sumW xs (k + 1) = lw + weightI L4 m4 ∧ sumM xs (k + 1) = lm + overI facX L4 m4) := by
       show _ ∧ _
       have h := HS1.out
       rw [HFAL.out] at h
       rw [ew4, em4]
       simpa using h
      clear hb4 a3 r3 ew4 em4
      have hba : Below w4.heap.size w4 (w4.alloc (.cells #[.slice A4 m4 c4] 150)) := (Below.refl _ _).alloc (Nat.le_refl _) _
      have BX4 : Box (w4.alloc (.cells #[.slice A4 m4 c4] 150)) w4.heap.size (.slice A4 m4 c4) := Box.new _ _ _
      have s4 := hr4.after hba
      have HR5 := Lib.hid (HR4.out.after hba)
      have b4 := BX4.1
      clear hr4 hba
      rw [HS2.out.1, HS2.out.2] at hwk1
      have es1 : IntKind.i64.wrap (lw + weightI L4 m4) = lw + weightI L4 m4 := IntWalk.i64_in _ (by omega)
      have es2 : IntKind.i64.wrap (lm + overI facX L4 m4) = lm + overI facX L4 m4 := IntWalk.i64_in _ (by omega)
      go_wp2_with (first
       | (go_at_call 131; refine (sWeightOf_any _ _ _ L4 _ (by exact s4) (by omega)).mono ?_; rintro e w5 ⟨rfl, hb5⟩; have b5 := (BX4.after hb5).1; have s5 := s4.after hb5; have HR6 := Lib.hid (HR5.out.after hb5); clear hb5)
       | (go_at_call 132; refine (sMomentOf_any _ _ _ L4 _ (by exact s5) (by omega)).mono ?_; rintro e w6 ⟨rfl, hb6⟩; have HR7 := Lib.hid (HR6.out.after hb6); clear hb6))
      go_roundw
      case rel => exact ⟨k + 1, t, by omega, by go_num, rfl, by rw [HS2.out.1], by rw [HS2.out.2], HAT1, HR7⟩
      case measure => simp [intOf]; omega
     ·have ti : ¬ (t : Int) < (q : Int) := by omega
      clear hc
      go_wp2_with (at_builtin; refine wpList_appR _ rfl (.tmp 38) (.tmp 63) 61 rfl (w.heap.size + 1) 65 4 32 #[.int .i64 0, .int .i64 0, .int .i64 0, .int .i64 0] Tryzx.underlying61 infoRow rfl (by decide) (by decide) _ (k * 2) _ rfl (by exact HOB.out) wx.heap.size 2 2 [iy, -ix, 1, lm - ix * lw, -oy, ox, -1, ox * lw - lm] rfl rfl (by exact HCN.out) (by omega) (w.heap.size + 1) wr (by exact HUB.out) (Nat.le_refl _) hW0 _ HX.out ?_ (by omega); intro g' cap' w3 hown3 hb3; have a3 : w3.cell? ⟨w.heap.size, 0, none⟩ = some (.slice (some ⟨b, off, none⟩) n c) := (HAN.out w3 hb3).1.cell (by omega))
      have HR3 : Hid (SSp w w3 (.slice (some ⟨b, off, none⟩) n c) zs xs (k + 1) (.slice (some ⟨g', 0, none⟩) (k * 2 + 2) cap')) := ⟨(HAN.out w3 hb3).1, by rw [show (k + 1) * 2 = k * 2 + 2 by omega]; exact hown3, (HAN.out w3 hb3).2⟩
      clear hown3 hb3 c0 c1 d0 d1
      have r3 : RecsAt w3 w3.heap.size 4 (some ⟨b, off, none⟩) n zs := (HH.out.below HR3.out.below).mono HR3.out.below.size
      refine (sStoneOf_any _ _ _ zs k _ r3 HA.out hlt).mono ?_
      rintro e w4 ⟨A4, m4, c4, L4, rfl, hr4, hm4, ew4, em4, hb4⟩
      have HR4 := Lib.hid (HR3.out.after hb4)
      have hwd := weightI_bd L4 m4
      have hmd := overI_bd facX_ok L4 m4
      have HS2 : Hid (sumW xs (k + 1) = lw + weightI L4 m4 ∧ sumM xs (k + 1) = lm + overI facX L4 m4) := by
       show _ ∧ _
       have h := HS1.out
       rw [HFAL.out] at h
       rw [ew4, em4]
       simpa using h
      clear hb4 a3 r3 ew4 em4
      have hba : Below w4.heap.size w4 (w4.alloc (.cells #[.slice A4 m4 c4] 150)) := (Below.refl _ _).alloc (Nat.le_refl _) _
      have BX4 : Box (w4.alloc (.cells #[.slice A4 m4 c4] 150)) w4.heap.size (.slice A4 m4 c4) := Box.new _ _ _
      have s4 := hr4.after hba
      have HR5 := Lib.hid (HR4.out.after hba)
      have b4 := BX4.1
      clear hr4 hba
      rw [HS2.out.1, HS2.out.2] at hwk1
      have es1 : IntKind.i64.wrap (lw + weightI L4 m4) = lw + weightI L4 m4 := IntWalk.i64_in _ (by omega)
      have es2 : IntKind.i64.wrap (lm + overI facX L4 m4) = lm + overI facX L4 m4 := IntWalk.i64_in _ (by omega)
      go_wp2_with (first
       | (go_at_call 131; refine (sWeightOf_any _ _ _ L4 _ (by exact s4) (by omega)).mono ?_; rintro e w5 ⟨rfl, hb5⟩; have b5 := (BX4.after hb5).1; have s5 := s4.after hb5; have HR6 := Lib.hid (HR5.out.after hb5); clear hb5)
       | (go_at_call 132; refine (sMomentOf_any _ _ _ L4 _ (by exact s5) (by omega)).mono ?_; rintro e w6 ⟨rfl, hb6⟩; have HR7 := Lib.hid (HR6.out.after hb6); clear hb6))
      go_roundw
      case rel => exact ⟨k + 1, t, by omega, by go_num, rfl, by rw [HS2.out.1], by rw [HS2.out.2], HAT1, HR7⟩
      case measure => simp [intOf]; omega
   ·obtain rfl : n = k := by omega
    have HU : Hid (rowTo zs (sumW xs) (sumM xs) n ++ [-1, 0, 0, 0] = rowsL zs (sumW xs) (sumM xs) n) := rfl
    have HO := Lib.hid (HR.out.own.alloc (.cells #[.int .i64 (-1), .int .i64 0, .int .i64 0, .int .i64 0] 65))
    have HBA := Lib.hid (HR.out.below.alloc hz (.cells #[.int .i64 (-1), .int .i64 0, .int .i64 0, .int .i64 0] 65))
    have HCN : Hid (∀ i, i < 1 * 4 → (wr.alloc (.cells #[.int .i64 (-1), .int .i64 0, .int .i64 0, .int .i64 0] 65)).cell? ⟨wr.heap.size, i, none⟩ = some (.int .i64 (nth [-1, 0, 0, 0] i))) := fun i hi => (rowC_new4 wr (-1) 0 0 0 65).cell hi
    go_wp2_with (at_builtin; refine wpList_appR _ rfl (.tmp 90) (.tmp 92) 61 rfl (w.heap.size + 1) 65 4 32 #[.int .i64 0, .int .i64 0, .int .i64 0, .int .i64 0] Tryzx.underlying61 infoRow rfl (by decide) (by decide) _ (n * 2) _ rfl (by exact HO.out) wr.heap.size 1 1 [-1, 0, 0, 0] rfl rfl (by exact HCN.out) (by omega) w.heap.size w (by exact HBA.out) (by omega) (by simp; omega) _ HU.out ?_ (by omega); intro g' cap' w3 hown3 hb3)
    have HO3 := Lib.hid hown3
    have HB3 := Lib.hid hb3
    clear hown3 hb3
    go_wp2
    go_ret
    exact ⟨_, rfl, by rw [HT.out.1, HT.out.2]; exact HO3.out.weaken (by omega), HB3.out⟩
end
end X
namespace X
open Go.RowKit Go.Maps
theorem lawIntM : Keyed Tryzx.prog 3 := int_keyed Tryzx.underlying3
theorem zeroWt (w : World) : (zeroValue 105).run Tryzx.prog w = .ok (.agg #[.int .i64 0, .int .i64 0]) w := by kernel_rfl
structure SMk (W1 wr : World) (g m k : Nat) (D : DataW Unit) (zs : List Int) : Prop where
 own : wr.ownsMap Tryzx.prog 3 prR W1.heap.size k D
 mp : MapIs D (f1W zs k) (f1M zs k)
 row : RowF wr g 105 (m * 2) (ints (wmL zs [] 0 m))
 below : Below W1.heap.size W1 wr
theorem rowC_new2M (w : World) (a b : Int) (T : TypeId) : RowF (w.alloc (.cells #[.int .i64 a, .int .i64 b] T)) w.heap.size T 2 (ints [a, b]) :=
 RowF.of_row (World.rowIs_alloc w #[.int .i64 a, .int .i64 b] T _ (fun j hj => by simp at hj; match j, hj with | 0, _ => rfl | 1, _ => rfl))
theorem pr_look {w : World} {D : DataW Unit} {b n : Nat} {F G : Nat → Int} (h : w.ownsMap Tryzx.prog 3 prR b n D) (hm : MapIs D F G) (j : Nat) (hj : j ≤ 1048576) :
  (Instr.lookup 101 (.map (some b)) (.int .i64 (j : Int)) false).run Tryzx.prog w = .ok (.agg #[.int .i64 (F j), .int .i64 (G j)]) w := by
 obtain ⟨v, ps, hrun, hv⟩ := h.lookup lawIntM Tryzx.underlying101 (zeroWt _) (prR_mk 0 0) (keyOf_int_mk Tryzx.underlying3 (wf_inM (x := (j : Int)) (by omega)))
 rw [show (Lit.int .i64 (j : Int)) = keyL (j : Int) from rfl, hm j] at hv
 rw [hrun, prR_inj hv]
set_option maxRecDepth 100000 in
set_option maxHeartbeats 6400000 in
theorem iStageRowsN_any (A : Option Addr) (n c : Nat) (zs : List Int) (B : Option Addr) (q d : Nat) (cs : List Int) (w : World) (h : RecsAt w w.heap.size 4 A n zs) (hn : n ≤ 1048576) (hi : IntsAt w w.heap.size B q cs) (hq : q ≤ 1048576) :
  Calls Tryzx.prog 41 #[.agg #[.slice A n c], .slice B q d] w (RowsPostN w (stgN zs n cs q) (stgR zs n cs q)) := by
 have b0 : Below w.heap.size w (w.alloc (.cells #[.slice A n c] 26)) := (Below.refl _ _).alloc (Nat.le_refl _) _
 have h1 := h.after b0
 have l1 := hi.after b0
 have bx0 : Box (w.alloc (.cells #[.slice A n c] 26)) w.heap.size (.slice A n c) := Box.new _ _ _
 cases hL : carriedB zs n cs q
 ·have HF := Lib.hid (stg_f hL)
  go_enter Tryzx.func41, Tryz.ntmps41
  go_wp2_with fail
  refine (iCarriedOk_any _ _ _ zs _ _ _ cs _ h1 hn l1 hq).mono ?_
  rw [hL]
  rintro e w1 ⟨rfl, hb1⟩
  have HB1 := Lib.hid (below_then b0 hb1)
  clear hb1
  go_wp2
  go_ret
  exact ⟨⟨_, rfl, by rw [HF.out.1, HF.out.2]; exact OwnR.nil _ _ _ _, HB1.out⟩, fun _ => rfl⟩
 have HT := Lib.hid (stg_t hL)
 obtain ⟨hA, hasc⟩ := carriedB_out hL
 have hn8 := (archB_out hA).1
 obtain ⟨m, rfl⟩ : ∃ m, n = m + 1 := ⟨n - 1, by omega⟩
 rw [Nat.add_sub_cancel] at HT
 have HA := Lib.hid hA
 have HWM := Lib.hid (wmok_stg (n := m + 1) cs q m hA)
 have HASC := Lib.hid hasc
 have HI := Lib.hid hi
 have HH := Lib.hid h
 have hmk := fun W => run_make_recs (P := Tryzx.prog) 102 105 2 16 #[.int .i64 0, .int .i64 0] Tryzx.underlying102 infoWt m (by omega) (by omega) W
 have e1 : ((m + 1 : Nat) : Int) - 1 = (m : Int) := by omega
 have e2 : IntKind.i64.wrap (((m + 1 : Nat) : Int) - 1) = (m : Int) := by rw [e1]; exact IntWalk.i64_in _ (by omega)
 have HMK := Lib.hid hmk
 have hmm := @run_makeMap Tryzx.prog
 clear h hi hA hasc hmk
 go_enter Tryzx.func41, Tryz.ntmps41
 go_wp2_with fail
 refine (iCarriedOk_any _ _ _ zs _ _ _ cs _ h1 hn l1 hq).mono ?_
 rw [hL]
 rintro e W1 ⟨rfl, hb1⟩
 have HB1 := Lib.hid (below_then b0 hb1)
 have BX1 := Lib.hid (bx0.after hb1)
 have h2 := h1.after hb1
 have hbm : Below W1.heap.size W1 (W1.alloc (.map #[] 0)) := (Below.refl _ _).alloc (Nat.le_refl _) _
 have h3 := h2.after hbm
 have BX2 := Lib.hid (BX1.out.after hbm)
 have HBM := Lib.hid hbm
 have cx2 := BX2.out.1
 have cx1 := BX1.out.1
 have hLB : loadsB zs (m + 1) [] 0 = true := loadsB_t HA.out (by omega) (allTo_0 _)
 clear hb1 b0 h1 l1 bx0 hL hbm h2
 go_wp2_with fail
 refine (weightsOf_any _ _ _ zs none 0 0 [] _ h3 RecsAt.nil hLB).mono ?_
 rw [Nat.add_sub_cancel]
 rintro e W2 ⟨g, rfl, hg, hr2, hb2⟩
 have HM0 : Hid (SMk W1 W2 g m 0 (.map []) zs) := by
  refine ⟨?_, mapIs_0 zs, hr2, HBM.out.trans (hb2.mono HBM.out.size)⟩
  exact (World.ownsMap_made W1 Tryzx.prog 3 prR).kept (row := none) ⟨hb2.os, hb2.tape, hb2.output, hb2.size, fun i hi _ => hb2.block i hi⟩ (by simp)
 have hgl : W1.heap.size < g := by simp at hg; omega
 clear hr2 hb2 h3 hLB cx1 cx2 hg hmm
 go_wp2
 go_loopw [20] (fun v20 wr => ∃ (k : Nat) (D : DataW Unit), k ≤ m ∧ v20 = .int .i64 k ∧ Hid (SMk W1 wr g m k D zs)) (fun v20 _ => m - (intOf v20).toNat)
 case atStart => exact ⟨0, _, Nat.zero_le _, rfl, HM0⟩
 case round =>
  clear HM0
  obtain ⟨k, D, hk, rfl, HM⟩ := hrel
  by_cases hlt : k < m
  ·have ki : (k : Int) < (m : Int) := by omega
   have k0 : (0 : Int) ≤ (k : Int) := by omega
   have hz := HM.out.below.size
   have hnth := wmL_nth zs [] 0 hlt
   rw [kwTo_0, kmTo_0] at hnth
   have x0 : wr.cell? ⟨g, k * 2, none⟩ = some (.int .i64 (swt zs k)) := by
    have h := HM.out.row.cell (i := k * 2) (by omega)
    rw [ints_def, hnth.1] at h
    exact h
   have x1 : wr.cell? ⟨g, k * 2 + 1, none⟩ = some (.int .i64 (smt zs k)) := by
    have h := HM.out.row.cell (i := k * 2 + 1) (by omega)
    rw [ints_def, hnth.2] at h
    exact h
   have hrl := HM.out.row.lt
   have bn := rowC_new2M wr (swt zs k) (smt zs k) 105
   have y0 : (wr.alloc (.cells #[.int .i64 (swt zs k), .int .i64 (smt zs k)] 105)).cell? ⟨wr.heap.size, 0, none⟩ = some (.int .i64 (swt zs k)) := bn.cell (by omega)
   have y1 : (wr.alloc (.cells #[.int .i64 (swt zs k), .int .i64 (smt zs k)] 105)).cell? ⟨wr.heap.size, 1, none⟩ = some (.int .i64 (smt zs k)) := bn.cell (by omega)
   have HOW := Lib.hid (HM.out.own.alloc (.cells #[.int .i64 (swt zs k), .int .i64 (smt zs k)] 105))
   have HROW := Lib.hid (HM.out.row.alloc (.cells #[.int .i64 (swt zs k), .int .i64 (smt zs k)] 105))
   have HBE := Lib.hid (HM.out.below.alloc hz (.cells #[.int .i64 (swt zs k), .int .i64 (smt zs k)] 105))
   have HMP := Lib.hid (mapIs_put HM.out.own.isMap HM.out.mp)
   have hkey : keyOf Tryzx.prog 3 (.int .i64 (k : Int)) = some (keyL (k : Int)) := keyOf_int_mk Tryzx.underlying3 (wf_inM (x := (k : Int)) (by omega))
   clear hnth bn HM
   go_wp2_with (at_mapUpdate; refine wpList_mapUpdate_own _ rfl (.tmp 25) (.tmp 26) (.tmp 27) 101 rfl 3 105 lawIntM Tryzx.underlying101 prR W1.heap.size k D rfl (by exact HOW.out) (by unfold maxLen; omega) (.int .i64 (k : Int)) (.agg #[.int .i64 (swt zs k), .int .i64 (smt zs k)]) (keyL (k : Int)) rfl rfl hkey (prD (swt zs k) (smt zs k)) [] rfl ?_; intro w3 hown3 hgr3)
   have HM3 : Hid (SMk W1 w3 g m (k + 1) (D.put (keyL (k : Int)) (prD (swt zs k) (smt zs k))) zs) :=
    ⟨hown3, HMP.out, HROW.out.of_block (grown_block hgr3 g (by simp; omega) (by intro e; injection e with e; omega)), HBE.out.grown hgr3 (by simp; omega) (fun j hj => by cases hj; exact Nat.le_refl _)⟩
   clear hown3 hgr3 hkey
   go_wp2
   go_roundw
   case rel => exact ⟨k + 1, _, by omega, by go_num, HM3⟩
   case measure => simp [intOf]; omega
  ·obtain rfl : m = k := by omega
   have HD : Hid (wr.ownsMap Tryzx.prog 3 prR W1.heap.size m D ∧ MapIs D (f2W zs cs m 0) (f2M zs cs m 0) ∧ Below W1.heap.size W1 wr) := ⟨HM.out.own, mapIs_12 cs HM.out.mp, HM.out.below⟩
   clear HM
   go_wp2
   go_loopw [31] (fun v31 wr => ∃ (i : Nat) (D : DataW Unit), i ≤ q ∧ v31 = .int .i64 i ∧ Hid (wr.ownsMap Tryzx.prog 3 prR W1.heap.size m D ∧ MapIs D (f2W zs cs m i) (f2M zs cs m i) ∧ Below W1.heap.size W1 wr)) (fun v31 _ => q - (intOf v31).toNat)
   case atStart => exact ⟨0, _, Nat.zero_le _, rfl, HD⟩
   case round =>
    clear HD
    obtain ⟨i, D, hi', rfl, HD⟩ := hrel
    by_cases hlt : i < q
    ·obtain ⟨bi, oi, rfl, hbi, hci⟩ := HI.out.2 (by omega)
     have x0 : wr.cell? ⟨bi, oi + i, none⟩ = some (.int .i64 (nth cs i)) := ((HB1.out.trans (HD.out.2.2.mono HB1.out.size)).cell (p := ⟨bi, oi + i, none⟩) hbi).trans (hci i hlt)
     have hin := asc_in HASC.out hlt
     have ki : (i : Int) < (q : Int) := by omega
     have k0 : (0 : Int) ≤ (i : Int) := by omega
     have hkey : keyOf Tryzx.prog 3 (.int .i64 (nth cs i)) = some (keyL (nth cs i)) := keyOf_int_mk Tryzx.underlying3 (wf_inM (x := nth cs i) (by omega))
     clear hci
     go_wp2_with (at_delete; refine wpList_delete_own _ rfl (.tmp 35) (.tmp 36) 101 3 rfl 105 lawIntM Tryzx.underlying101 prR W1.heap.size m D rfl (by exact HD.out.1) (.int .i64 (nth cs i)) (keyL (nth cs i)) rfl hkey ?_; intro w3 hown3 htu3)
     have HD3 : Hid (w3.ownsMap Tryzx.prog 3 prR W1.heap.size m (D.del (keyL (nth cs i))) ∧ MapIs (D.del (keyL (nth cs i))) (f2W zs cs m (i + 1)) (f2M zs cs m (i + 1)) ∧ Below W1.heap.size W1 w3) :=
      ⟨hown3, mapIs_del HD.out.2.1, HD.out.2.2.grown htu3.grown HD.out.2.2.size (fun j hj => by cases hj; exact Nat.le_refl _)⟩
     clear hown3 htu3 hkey
     go_wp2
     go_roundw
     case rel => exact ⟨i + 1, _, by omega, by go_num, HD3⟩
     case measure => simp [intOf]; omega
    ·obtain rfl : i = q := by omega
     have cx : wr.cell? ⟨w.heap.size, 0, none⟩ = some (.slice A (m + 1) c) := (HD.out.2.2.cell (p := ⟨w.heap.size, 0, none⟩) BX1.out.2).trans BX1.out.1
     have hz := HD.out.2.2.size
     have hmk := HMK.out
     have HS0 : Hid ((wr.alloc (.cells (madeCells #[.int .i64 0, .int .i64 0] (m * 2)) 105)).ownsMap Tryzx.prog 3 prR W1.heap.size m D ∧ RowF (wr.alloc (.cells (madeCells #[.int .i64 0, .int .i64 0] (m * 2)) 105)) wr.heap.size 105 (m * 2) (fill (stgL zs cs i m) (0 * 2)) ∧ Below W1.heap.size W1 (wr.alloc (.cells (madeCells #[.int .i64 0, .int .i64 0] (m * 2)) 105))) :=
      ⟨HD.out.1.alloc _, RowF.of_row (rowIs_made0 wr #[.int .i64 0, .int .i64 0] 105 (m * 2) (fun j hj => by simp at hj; match j, hj with | 0, _ => rfl | 1, _ => rfl) (by simp) (stgL zs cs i m)), HD.out.2.2.alloc hz _⟩
     have HMI := Lib.hid HD.out.2.1
     obtain ⟨W3, rfl⟩ : ∃ W3 : World, W3 = wr := ⟨_, rfl⟩
     have hml := HD.out.1.lt
     clear HD
     go_wp2
     clear hmk cx
     go_loopw [45] (fun v45 wr => ∃ (k : Nat), k ≤ m ∧ v45 = .int .i64 k ∧ Hid (wr.ownsMap Tryzx.prog 3 prR W1.heap.size m D ∧ RowF wr W3.heap.size 105 (m * 2) (fill (stgL zs cs i m) (k * 2)) ∧ Below W1.heap.size W1 wr)) (fun v45 _ => m - (intOf v45).toNat)
     case atStart => exact ⟨0, Nat.zero_le _, rfl, HS0⟩
     case round =>
      clear HS0
      obtain ⟨k, hk, rfl, HS⟩ := hrel
      by_cases hlt : k < m
      ·have ki : (k : Int) < (m : Int) := by omega
       have k0 : (0 : Int) ≤ (k : Int) := by omega
       have hl1 := pr_look HS.out.1 HMI.out k (by omega)
       rw [(f2_stg hlt).1, (f2_stg hlt).2] at hl1
       have z0 : wr.cell? ⟨W3.heap.size, k * 2, none⟩ = some (.int .i64 0) := by
        have h := HS.out.2.1.cell (i := k * 2) (by omega)
        rw [fill_at _ (by omega)] at h
        exact h
       have z1 : wr.cell? ⟨W3.heap.size, k * 2 + 1, none⟩ = some (.int .i64 0) := by
        have h := HS.out.2.1.cell (i := k * 2 + 1) (by omega)
        rw [fill_at _ (by omega)] at h
        exact h
       have f0 := HS.out.2.1.frozen (k * 2)
       have f1 := HS.out.2.1.frozen (k * 2 + 1)
       have HS3 : Hid (((wr.setCell ⟨W3.heap.size, k * 2, none⟩ (.int .i64 (stgW zs cs i k))).setCell ⟨W3.heap.size, k * 2 + 1, none⟩ (.int .i64 (stgM zs cs i k))).ownsMap Tryzx.prog 3 prR W1.heap.size m D ∧ RowF ((wr.setCell ⟨W3.heap.size, k * 2, none⟩ (.int .i64 (stgW zs cs i k))).setCell ⟨W3.heap.size, k * 2 + 1, none⟩ (.int .i64 (stgM zs cs i k))) W3.heap.size 105 (m * 2) (fill (stgL zs cs i m) ((k + 1) * 2)) ∧ Below W1.heap.size W1 ((wr.setCell ⟨W3.heap.size, k * 2, none⟩ (.int .i64 (stgW zs cs i k))).setCell ⟨W3.heap.size, k * 2 + 1, none⟩ (.int .i64 (stgM zs cs i k)))) := by
        refine ⟨(HS.out.1.setCell (by simp; omega) _).setCell (by simp; omega) _, ?_, (HS.out.2.2.setCell (by simp; omega) _).setCell (by simp; omega) _⟩
        rw [← stgL_fill hlt]
        exact (HS.out.2.1.set (k * 2) _).set (k * 2 + 1) _
       generalize stgW zs cs i k = sw at *
       generalize stgM zs cs i k = sm at *
       clear HS
       go_wp2
       go_roundw
       case rel => exact ⟨k + 1, by omega, by go_num, HS3⟩
       case measure => simp [intOf]; omega
      ·obtain rfl : m = k := by omega
       have cx : wr.cell? ⟨w.heap.size, 0, none⟩ = some (.slice A (m + 1) c) := (HS.out.2.2.cell (p := ⟨w.heap.size, 0, none⟩) BX1.out.2).trans BX1.out.1
       have r1 := HH.out.below (HB1.out.trans (HS.out.2.2.mono HB1.out.size)) |>.mono (Nat.le_trans HB1.out.size HS.out.2.2.size)
       have r2 : RecsAt wr wr.heap.size 2 (some ⟨W3.heap.size, 0, none⟩) m (stgL zs cs i m) := (HS.out.2.1.congr (fun j hj => fill_end _ hj)).recs (stgL_len _ _ _ _)
       have HBF := Lib.hid (HB1.out.trans (HS.out.2.2.mono HB1.out.size))
       clear HS
       go_wp2_with fail
       refine (rowsFor_any _ _ _ zs _ _ (stgL zs cs i m) _ r1 (by exact r2) HA.out HWM.out).mono ?_
       rintro e w5 ⟨v5, rfl, ho5, hb5⟩
       obtain ⟨A5, c5, rfl, _⟩ := ho5.slice
       have HO5 := Lib.hid (ho5.weaken HBF.out.size)
       have HB5 := Lib.hid (below_then HBF.out hb5)
       clear ho5 hb5
       go_wp2
       go_ret
       exact ⟨⟨_, rfl, by rw [HT.out.1, HT.out.2]; exact HO5.out, HB5.out⟩, fun h0 => by have := HT.out.1; omega⟩
end X
namespace X
open Go.RowKit
theorem stgN_few (zs : List Int) (n : Nat) (cs : List Int) (q : Nat) : stgN zs n cs q ≤ 17 := by
 unfold stgN
 split
 ·rename_i h
  have := (archB_out (carriedB_out h).1).1
  omega
 ·omega
def stgB (zs : List Int) (n : Nat) (cs : List Int) (q : Nat) : Bool := decide (0 < cornN (stgR zs n cs q) (stgN zs n cs q))
section
variable (A : Option Addr) (n c : Nat) (zs : List Int) (B : Option Addr) (q d : Nat) (cs : List Int) (w : World) (h : RecsAt w w.heap.size 4 A n zs) (hn : n ≤ 1048576) (hi : IntsAt w w.heap.size B q cs) (hq : q ≤ 1048576)
include h hn hi hq
set_option maxRecDepth 100000 in
set_option maxHeartbeats 3200000 in
theorem sStageStands_any : Calls Tryzx.prog 31 #[.agg #[.slice A n c], .slice B q d] w fun e w' => e = .returned (.bool (stgB zs n cs q)) ∧ Below w.heap.size w w' := by
 have b0 : Below w.heap.size w (w.alloc (.cells #[.slice A n c] 26)) := (Below.refl _ _).alloc (Nat.le_refl _) _
 have h1 := h.after b0
 have l1 := hi.after b0
 have bx0 : Box (w.alloc (.cells #[.slice A n c] 26)) w.heap.size (.slice A n c) := Box.new _ _ _
 have cx0 := bx0.1
 go_enter Tryzx.func31, Tryz.ntmps31
 go_wp2_with fail
 refine (sStageRows_any _ _ _ zs _ _ _ cs _ (by exact h1) hn (by exact l1) hq).mono ?_
 rintro e w1 ⟨v1, rfl, ho1, hb1⟩
 have bx1 := bx0.after hb1
 have cx1 := bx1.1
 have HB1 := Lib.hid (below_then b0 hb1)
 obtain ⟨A1, c1, rfl, _⟩ := ho1.slice
 have r1 := ho1.recs
 go_wp2_with fail
 refine (sCorners_any _ _ _ (stgR zs n cs q) _ (by exact r1) (by have := stgN_few zs n cs q; omega)).mono ?_
 rintro e w2 ⟨v2, rfl, ho2, hb2⟩
 have cx2 := (bx1.after hb2).1
 have HB2 := Lib.hid (below_then HB1.out hb2)
 obtain ⟨A2, c2, rfl, _⟩ := ho2.slice
 clear ho2 hb2 ho1 hb1 r1 bx1 cx0 cx1 cx2
 go_wp2
 go_ret
 exact ⟨rfl, HB2.out⟩
set_option maxRecDepth 100000 in
set_option maxHeartbeats 3200000 in
theorem iStageStands_any : Calls Tryzx.prog 33 #[.agg #[.slice A n c], .slice B q d] w fun e w' => e = .returned (.bool (stgB zs n cs q)) ∧ Below w.heap.size w w' := by
 have b0 : Below w.heap.size w (w.alloc (.cells #[.slice A n c] 26)) := (Below.refl _ _).alloc (Nat.le_refl _) _
 have h1 := h.after b0
 have l1 := hi.after b0
 have bx0 : Box (w.alloc (.cells #[.slice A n c] 26)) w.heap.size (.slice A n c) := Box.new _ _ _
 have cx0 := bx0.1
 go_enter Tryzx.func33, Tryz.ntmps33
 go_wp2_with fail
 refine (iStageRowsN_any _ _ _ zs _ _ _ cs _ (by exact h1) hn (by exact l1) hq).mono ?_
 rintro e w1 ⟨⟨v1, rfl, ho1, hb1⟩, hz1⟩
 have bx1 := bx0.after hb1
 have cx1 := bx1.1
 have HB1 := Lib.hid (below_then b0 hb1)
 obtain ⟨A1, c1, rfl, _⟩ := ho1.slice
 have r1 := ho1.recs
 have n1 : stgN zs n cs q = 0 → A1 = none := fun h0 => by have := hz1 h0; simp at this; exact this.1
 go_wp2_with fail
 refine (xCorners_any _ _ _ (stgR zs n cs q) _ (by exact r1) (by have := stgN_few zs n cs q; omega) n1).mono ?_
 rintro e w2 ⟨v2, rfl, he2, hb2⟩
 have ho2 := he2.own
 have cx2 := (bx1.after hb2).1
 have HB2 := Lib.hid (below_then HB1.out hb2)
 obtain ⟨A2, c2, rfl, _⟩ := ho2.slice
 clear he2 n1 hz1 ho2 hb2 ho1 hb1 r1 bx1 cx0 cx1 cx2
 go_wp2
 go_ret
 exact ⟨rfl, HB2.out⟩
end
end X
section
open Go.RowKit
def p2 (k : Nat) : Nat := 2 ^ k
theorem p2_pos (k : Nat) : 0 < p2 k := Nat.two_pow_pos k
theorem p2_le (n : Nat) (h : n ≤ 10) : p2 n ≤ 1024 := Nat.pow_le_pow_right (by omega) h
theorem wrap_p2 (n : Nat) (h : n ≤ 10) : wrap64 (2 ^ n) = ((p2 n : Nat) : Int) := by
 have h1 := p2_le n h
 have e : (2 : Int) ^ n = ((p2 n : Nat) : Int) := by simp [p2]
 rw [e]
 unfold wrap64
 omega
theorem ofInt_64 (a : Nat) (ha : a < 9223372036854775808) : (BitVec.ofInt 64 (a : Int)).toNat = a := by
 rw [BitVec.ofInt_natCast, BitVec.toNat_ofNat]; exact Nat.mod_eq_of_lt (by omega)
theorem bit_at (s k : Nat) (h : s < 9223372036854775808) : bits .and .i64 ((s : Int) / 2 ^ k) 1 = ((s / p2 k % 2 : Nat) : Int) := by
 have e : (s : Int) / 2 ^ k = ((s / p2 k : Nat) : Int) := by simp [p2]
 have hle : s / p2 k ≤ s := Nat.div_le_self _ _
 rw [e]
 show IntKind.i64.wrap ((BitVec.ofInt 64 ((s / p2 k : Nat) : Int) &&& BitVec.ofInt 64 ((1 : Nat) : Int)).toNat : Int) = _
 rw [BitVec.toNat_and, ofInt_64 _ (by omega), ofInt_64 1 (by omega), Nat.and_one_is_mod, IntKind.wrap_i64]
 omega
end
section
open Go.RowKit
def setL (s : Nat) : Nat → List Int
 | 0 => []
 | k + 1 => if s / p2 k % 2 = 1 then setL s k ++ [(k : Int)] else setL s k
theorem setL_yes {s k : Nat} (h : s / p2 k % 2 = 1) : setL s (k + 1) = setL s k ++ [(k : Int)] := by simp [setL, h]
theorem setL_no {s k : Nat} (h : ¬ s / p2 k % 2 = 1) : setL s (k + 1) = setL s k := by simp [setL, h]
theorem setL_len (s : Nat) : ∀ k, (setL s k).length ≤ k
 | 0 => Nat.le_refl _
 | k + 1 => by
  have ih := setL_len s k
  by_cases h : s / p2 k % 2 = 1
  ·rw [setL_yes h, List.length_append]; simp; omega
  ·rw [setL_no h]; omega
theorem p2_add (k j : Nat) : p2 k ≤ p2 (k + j) := Nat.pow_le_pow_right (by omega) (by omega)
theorem setL_far {s k : Nat} (h : s < p2 k) : ∀ j, setL s (k + j) = setL s k
 | 0 => rfl
 | j + 1 => by
  have h1 := p2_add k j
  have h2 : s / p2 (k + j) = 0 := Nat.div_eq_of_lt (by omega)
  rw [← Nat.add_assoc, setL_no (by rw [h2]; decide), setL_far h j]
theorem setL_top {s k m : Nat} (h : s < p2 m) (hk : s / p2 k = 0) : setL s k = setL s m := by
 have hk' : s < p2 k := by
  rcases Nat.lt_or_ge s (p2 k) with h' | h'
  ·exact h'
  ·have := Nat.div_pos h' (p2_pos k); omega
 rcases Nat.le_total k m with e | e
 ·obtain ⟨j, rfl⟩ := Nat.exists_eq_add_of_le e
  exact (setL_far hk' j).symm
 ·obtain ⟨j, rfl⟩ := Nat.exists_eq_add_of_le e
  exact setL_far h j
theorem p2_7 {n : Nat} (h : n ≤ 7) : p2 n ≤ 128 := Nat.pow_le_pow_right (by omega) h
theorem set_more {s k : Nat} (hs : s < 128) (h : s / p2 k ≠ 0) : k < 7 := by
 rcases Nat.lt_or_ge k 7 with e | e
 ·exact e
 ·obtain ⟨j, rfl⟩ := Nat.exists_eq_add_of_le e
  have h1 := p2_add 7 j
  have h2 : p2 7 = 128 := by decide
  exact absurd (Nat.div_eq_of_lt (by omega)) h
theorem ubit_fin : ∀ S : Fin 128, bits .and .u64 (S.val : Int) 1 = ((S.val % 2 : Nat) : Int) := by decide +kernel
theorem ubit_at {s k : Nat} (h : s < 128) : bits .and .u64 ((s / p2 k : Nat) : Int) 1 = ((s / p2 k % 2 : Nat) : Int) :=
 ubit_fin ⟨s / p2 k, Nat.lt_of_le_of_lt (Nat.div_le_self _ _) h⟩
theorem div_p2 (s k : Nat) : (s : Int) / 2 ^ k = ((s / p2 k : Nat) : Int) := by simp [p2]
theorem u64_in (x : Int) (h : 0 ≤ x ∧ x ≤ 18446744073709551615) : IntKind.u64.wrap x = x := by
 rw [IntKind.wrap_u64]; omega
theorem uwrap_p2 (n : Nat) (h : n ≤ 7) : IntKind.u64.wrap (2 ^ n) = ((p2 n : Nat) : Int) := by
 have h1 := p2_7 h
 have e : (2 : Int) ^ n = ((p2 n : Nat) : Int) := by simp [p2]
 rw [e]
 exact u64_in _ (by omega)
end
section
open Go.RowKit
theorem ownB_below {B base : Nat} {E : TypeId} {a w w' : World} {v : Value} {xs : List Int} {o : Obj} (hb : Below B a w) (hB : B ≤ w.heap.size) (hown : OwnV w base E v xs) (h : B ≤ base) (hg : (w.alloc o).grownBy w' v.ownBlock) : Below B a w' :=
 (hb.alloc hB o).grown hg (by simp; omega) (fun k hk => Nat.le_trans h (hown.ownLt k hk))
end
section
open Go.RowKit
theorem OwnV.sliceN {w : World} {base : Nat} {E : TypeId} {v : Value} {xs : List Int} (h : OwnV w base E v xs) : ∃ A l c, v = .slice A l c := by
 rcases h.form with ⟨rfl, _⟩ | ⟨g, cap, rfl, _⟩ <;> exact ⟨_, _, _, rfl⟩
theorem OwnV.weakenN {w : World} {base base' : Nat} {E : TypeId} {v : Value} {xs : List Int} (h : OwnV w base E v xs) (hb : base' ≤ base) : OwnV w base' E v xs := by
 refine ⟨h.1, ?_⟩
 rcases h.2 with h2 | ⟨g, cap, cur, h1, h2, h3⟩
 ·exact .inl h2
 ·exact .inr ⟨g, cap, cur, h1, Nat.le_trans hb h2, h3⟩
theorem OwnV.afterN {w w' : World} {base : Nat} {E : TypeId} {v : Value} {xs : List Int} (h : OwnV w base E v xs) (hb : Below w.heap.size w w') : OwnV w' base E v xs := h.below hb
end
namespace X
open Go.RowKit
def SetPost (w : World) (L : List Int) (e : Ending) (w' : World) : Prop :=
 ∃ v, e = .returned v ∧ OwnV w' w.heap.size 3 v L ∧ Below w.heap.size w w'
set_option maxRecDepth 100000 in
set_option maxHeartbeats 1600000 in
theorem sSet_any (s m : Nat) (hs : s < 128) (hm : m ≤ 7) (w : World) : Calls Tryzx.prog 84 #[.int .i64 s, .int .i64 m] w (SetPost w (setL s m)) := by
 go_enter Tryzx.func84, Tryz.ntmps84
 go_wp2
 go_loopw [5, 6] (fun v i wr => ∃ k : Nat, k ≤ m ∧ i = .int .i64 k ∧ OwnV wr w.heap.size 3 v (setL s k) ∧ Below w.heap.size w wr) (fun _ i _ => m - (intOf i).toNat)
 case atStart => exact ⟨0, Nat.zero_le _, rfl, OwnI.new _ _, (Below.refl _ _).alloc (Nat.le_refl _) _⟩
 case round =>
  obtain ⟨k, hk, rfl, hown, hb⟩ := hrel
  have HB := Lib.hid hb
  have HO := Lib.hid hown
  have hlen := setL_len s k
  have HBIT := Lib.hid (bit_at s k (by omega))
  clear hb hown
  by_cases hlt : k < m
  ·have i1 : IntKind.i64.wrap ((k : Int) + 1) = (k : Int) + 1 := IntWalk.i64_in _ (by omega)
   by_cases hbit : s / p2 k % 2 = 1
   ·have ht : (bits BinOp.and IntKind.i64 ((s : Int) / 2 ^ k) 1 == 1) = true := by rw [HBIT.out, hbit]; rfl
    have HU := Lib.hid (setL_yes hbit)
    clear hbit
    go_wp2_with (at_builtin; refine wpList_append_int _ rfl (.tmp 18) (.tmp 20) 54 rfl w.heap.size 3 Tryzx.underlying54 infoInt _ (setL s k) rfl (HO.out.alloc _) _ _ (k : Int) rfl (cell_new1 _ _ _) (by omega) (by have := HB.out.size; simp; omega) ?_; intro g' cap' w1 hown1 hgr1)
    have hb1 := ownB_below HB.out HB.out.size HO.out (Nat.le_refl _) hgr1
    have hv1 := hown1.toV
    rw [List.length_append, ← HU.out] at hv1
    go_wp2
    go_roundw
    case rel => exact ⟨k + 1, by omega, by go_num, hv1, hb1⟩
    case measure => simp [intOf]; omega
   ·have ho : s / p2 k % 2 = 0 := by omega
    have ht : (bits BinOp.and IntKind.i64 ((s : Int) / 2 ^ k) 1 == 1) = false := by rw [HBIT.out, ho]; rfl
    have HU := Lib.hid (setL_no hbit)
    clear hbit ho
    go_wp2
    go_roundw
    case rel => exact ⟨k + 1, by omega, by go_num, by rw [HU.out]; exact HO.out, HB.out⟩
    case measure => simp [intOf]; omega
  ·obtain rfl : k = m := by omega
   go_wp2
   go_ret
   exact ⟨_, rfl, HO.out, HB.out⟩
set_option maxRecDepth 100000 in
set_option maxHeartbeats 1600000 in
theorem iSet_any (s m : Nat) (hs : s < p2 m) (hm : m ≤ 7) (w : World) : Calls Tryzx.prog 86 #[.int .u64 s] w (SetPost w (setL s m)) := by
 have hs7 : s < 128 := Nat.lt_of_lt_of_le hs (p2_7 hm)
 go_enter Tryzx.func86, Tryz.ntmps86
 go_wp2
 go_loopw [3, 4] (fun v i wr => ∃ k : Nat, k ≤ 7 ∧ i = .int .i64 k ∧ OwnV wr w.heap.size 3 v (setL s k) ∧ Below w.heap.size w wr) (fun _ i _ => 7 - (intOf i).toNat)
 case atStart => exact ⟨0, Nat.zero_le _, rfl, OwnV.nil _ _ _, Below.refl _ _⟩
 case round =>
  obtain ⟨k, hk, rfl, hown, hb⟩ := hrel
  have HB := Lib.hid hb
  have HO := Lib.hid hown
  have hlen := setL_len s k
  have hdiv := div_p2 s k
  clear hb hown
  by_cases hz : s / p2 k = 0
  ·have HT := Lib.hid (setL_top hs hz)
   have ht : ((s : Int) / 2 ^ k != 0) = false := by rw [hdiv, hz]; rfl
   clear hz hdiv
   go_wp2
   go_ret
   exact ⟨_, rfl, by rw [← HT.out]; exact HO.out, HB.out⟩
  ·have hlt : k < 7 := set_more hs7 hz
   have i1 : IntKind.i64.wrap ((k : Int) + 1) = (k : Int) + 1 := IntWalk.i64_in _ (by omega)
   have hn : ((s : Int) / 2 ^ k != 0) = true := by rw [hdiv]; simp; omega
   have HBIT : Hid (bits .and .u64 ((s : Int) / 2 ^ k) 1 = ((s / p2 k % 2 : Nat) : Int)) := Lib.hid (by rw [hdiv]; exact ubit_at hs7)
   clear hz hdiv
   by_cases hbit : s / p2 k % 2 = 1
   ·have ht : (bits BinOp.and IntKind.u64 ((s : Int) / 2 ^ k) 1 == 1) = true := by rw [HBIT.out, hbit]; rfl
    have HU := Lib.hid (setL_yes hbit)
    clear hbit
    go_wp2_with (at_builtin; refine wpList_append_int _ rfl (.tmp 16) (.tmp 18) 54 rfl w.heap.size 3 Tryzx.underlying54 infoInt _ (setL s k) rfl (HO.out.alloc _) _ _ (k : Int) rfl (cell_new1 _ _ _) (by omega) (by have := HB.out.size; simp; omega) ?_; intro g' cap' w1 hown1 hgr1)
    have hb1 := ownB_below HB.out HB.out.size HO.out (Nat.le_refl _) hgr1
    have hv1 := hown1.toV
    rw [List.length_append, ← HU.out] at hv1
    go_wp2
    go_roundw
    case rel => exact ⟨k + 1, by omega, by go_num, hv1, hb1⟩
    case measure => simp [intOf]; omega
   ·have ho : s / p2 k % 2 = 0 := by omega
    have ht : (bits BinOp.and IntKind.u64 ((s : Int) / 2 ^ k) 1 == 1) = false := by rw [HBIT.out, ho]; rfl
    have HU := Lib.hid (setL_no hbit)
    clear hbit ho
    go_wp2
    go_roundw
    case rel => exact ⟨k + 1, by omega, by go_num, by rw [HU.out]; exact HO.out, HB.out⟩
    case measure => simp [intOf]; omega
end X
namespace X
open Go.RowKit
def cstN (zs : List Int) (n : Nat) : Nat := if archB zs n = true then n - 1 else 0
theorem cstN_t {zs : List Int} {n : Nat} (h : archB zs n = true) : cstN zs n = n - 1 := by simp only [cstN, h, if_pos]
theorem cstN_f {zs : List Int} {n : Nat} (h : archB zs n = false) : cstN zs n = 0 := by simp [cstN, h]
theorem cstN_le (zs : List Int) (n : Nat) : cstN zs n ≤ 7 := by
 cases h : archB zs n
 ·rw [cstN_f h]; omega
 ·have := (archB_out h).1; rw [cstN_t h]; omega
def setB (zs : List Int) (n s : Nat) : Bool := stgB zs n (setL s (cstN zs n)) (setL s (cstN zs n)).length
section
variable (A : Option Addr) (n c : Nat) (zs : List Int) (w : World) (h : RecsAt w w.heap.size 4 A n zs) (hn : n ≤ 1048576)
include h hn
set_option maxRecDepth 100000 in
set_option maxHeartbeats 1600000 in
theorem sCst_any : Calls Tryzx.prog 40 #[.agg #[.slice A n c]] w fun e w' => e = .returned (.int .i64 (cstN zs n : Nat)) ∧ Below w.heap.size w w' := by
 have b0 : Below w.heap.size w (w.alloc (.cells #[.slice A n c] 26)) := (Below.refl _ _).alloc (Nat.le_refl _) _
 have HX : Hid (Box (w.alloc (.cells #[.slice A n c] 26)) w.heap.size (.slice A n c)) := Lib.hid (Box.new _ _ _)
 have h1 := h.after b0
 cases hA : archB zs n
 ·have HN : Hid ((0 : Int) = ((cstN zs n : Nat) : Int)) := Lib.hid (by rw [cstN_f hA]; rfl)
  have cx0 := HX.out.1
  go_enter Tryzx.func40, Tryz.ntmps40
  go_wp2_with fail
  refine (sArchOk_any _ _ _ zs _ (by exact h1) hn).mono ?_
  rw [hA]
  rintro e w1 ⟨rfl, hb1⟩
  have HB1 := Lib.hid (below_then b0 hb1)
  clear hb1 b0 h h1
  go_wp2
  go_ret
  exact ⟨by rw [← HN.out]; rfl, HB1.out⟩
 ·have hn8 := (archB_out hA).1
  have HN : Hid ((n : Int) - 1 = ((cstN zs n : Nat) : Int)) := Lib.hid (by rw [cstN_t hA]; omega)
  have e1 : IntKind.i64.wrap ((n : Int) - 1) = (n : Int) - 1 := IntWalk.i64_in _ (by omega)
  have cx0 := HX.out.1
  go_enter Tryzx.func40, Tryz.ntmps40
  go_wp2_with fail
  refine (sArchOk_any _ _ _ zs _ (by exact h1) hn).mono ?_
  rw [hA]
  rintro e w1 ⟨rfl, hb1⟩
  have HB1 := Lib.hid (below_then b0 hb1)
  have cx1 := (HX.out.after hb1).1
  clear hb1 b0 h h1 cx0
  go_wp2
  go_ret
  exact ⟨by rw [← HN.out]; rfl, HB1.out⟩
set_option maxRecDepth 100000 in
set_option maxHeartbeats 1600000 in
theorem iCst_any : Calls Tryzx.prog 85 #[.agg #[.slice A n c]] w fun e w' => e = .returned (.int .i64 (cstN zs n : Nat)) ∧ Below w.heap.size w w' := by
 have b0 : Below w.heap.size w (w.alloc (.cells #[.slice A n c] 26)) := (Below.refl _ _).alloc (Nat.le_refl _) _
 have HX : Hid (Box (w.alloc (.cells #[.slice A n c] 26)) w.heap.size (.slice A n c)) := Lib.hid (Box.new _ _ _)
 have h1 := h.after b0
 cases hA : archB zs n
 ·have HN : Hid ((0 : Int) = ((cstN zs n : Nat) : Int)) := Lib.hid (by rw [cstN_f hA]; rfl)
  have cx0 := HX.out.1
  go_enter Tryzx.func85, Tryz.ntmps85
  go_wp2_with fail
  refine (iArchOk_any _ _ _ zs _ (by exact h1) hn).mono ?_
  rw [hA]
  rintro e w1 ⟨rfl, hb1⟩
  have HB1 := Lib.hid (below_then b0 hb1)
  clear hb1 b0 h h1
  go_wp2
  go_ret
  exact ⟨by rw [← HN.out]; rfl, HB1.out⟩
 ·have hn8 := (archB_out hA).1
  have HN : Hid ((n : Int) - 1 = ((cstN zs n : Nat) : Int)) := Lib.hid (by rw [cstN_t hA]; omega)
  have e1 : IntKind.i64.wrap ((n : Int) - 1) = (n : Int) - 1 := IntWalk.i64_in _ (by omega)
  have cx0 := HX.out.1
  go_enter Tryzx.func85, Tryz.ntmps85
  go_wp2_with fail
  refine (iArchOk_any _ _ _ zs _ (by exact h1) hn).mono ?_
  rw [hA]
  rintro e w1 ⟨rfl, hb1⟩
  have HB1 := Lib.hid (below_then b0 hb1)
  have cx1 := (HX.out.after hb1).1
  clear hb1 b0 h h1 cx0
  go_wp2
  go_ret
  exact ⟨by rw [← HN.out]; rfl, HB1.out⟩
end
end X
end Go.Proofs.YtbpnbhemdbgmjaaGreat
