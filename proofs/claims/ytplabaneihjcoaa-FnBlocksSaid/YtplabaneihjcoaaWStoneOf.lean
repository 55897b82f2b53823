/-
  Contracts: StoneOf at the joints of a valid arch, in the reference and in the program.
-/
import Derived.Test.YtplabaneihjcoaaWArch
import Derived.Test.YtplabaneihjcoaaBoxS
import Derived.IntWalk
import Derived.Deep.RegionHeld3
import Derived.Deep.DeepCutAuto
namespace Go.Proofs.Ytplabaneihjcoaa
open Go.RowKit
set_option linter.unusedSimpArgs false
set_option linter.unusedVariables false

/-- The k-th stone comes back. -/
def StoInPost (w : World) (zs : List Int) (k : Nat) (e : Ending) (w' : World) : Prop :=
  ∃ g : Nat, e = .returned (.agg #[.slice (some ⟨g, 0, none⟩) 4 4]) ∧ RecsAt w' w'.heap.size 2 (some ⟨g, 0, none⟩) 4 (btwA zs k) ∧ Below w.heap.size w w'
set_option maxRecDepth 100000 in
set_option maxHeartbeats 3200000 in
theorem sStoneOf_in (A : Option Addr) (n c : Nat) (zs : List Int) (k : Nat) (w : World) (h : RecsAt w w.heap.size 4 A n zs) (hA : archB zs n = true) (hlt : k + 1 < n) :
    Calls Try.prog 47 #[.agg #[.slice A n c], .int .i64 k] w (StoInPost w zs k) := by
  obtain ⟨hn8, hpt⟩ := archB_out hA
  obtain ⟨b, off, rfl, hbB, hcell⟩ := h.2 (by omega)
  have b0 : Below w.heap.size w ((w.alloc (.cells #[.slice (some ⟨b, off, none⟩) n c] 48)).alloc (.cells #[.slice none 0 0] 36)) := ((Below.refl _ _).alloc (Nat.le_refl _) _).alloc (by simp) _
  have h1 := h.after b0
  have bx0 := (rowF_new1S w (.slice (some ⟨b, off, none⟩) n c) 48).alloc (.cells #[.slice none 0 0] 36)
  have rs0 : RowF ((w.alloc (.cells #[.slice (some ⟨b, off, none⟩) n c] 48)).alloc (.cells #[.slice none 0 0] 36)) (w.heap.size + 1) 36 1 (fun _ => .slice none 0 0) := by
    have h := rowF_new1S (w.alloc (.cells #[.slice (some ⟨b, off, none⟩) n c] 48)) (.slice none 0 0) 36
    rw [World.size_alloc] at h
    exact h
  have e2 : IntKind.i64.wrap ((n : Int) - 2) = (n : Int) - 2 := IntWalk.i64_in _ (by omega)
  have hin : inB (k : Int) 0 ((n : Int) - 2) = true := inB_t (by omega)
  have HC := Lib.hid (fun j (hj : j < n) => jtCells hcell hj)
  go_enter Try.func47, Try.ntmps47
  go_wp2_with fail
  refine (sArchOk_any _ _ _ zs _ h1 (by omega)).mono ?_
  rw [hA]
  rintro e wr ⟨rfl, hb1⟩
  have HB1 := Lib.hid (below_then b0 hb1)
  have HBX := Lib.hid (bx0.after hb1)
  have HRS := Lib.hid (rs0.after hb1)
  have hbox := HBX.out.cell (i := 0) (by omega)
  have hz := HB1.out.size
  have hgl := HBX.out.lt
  have hgl2 := HRS.out.lt
  have hq := HC.out k (by omega)
  have hq2 := HC.out (k + 1) (by omega)
  have hbr : b < wr.heap.size := by omega
  have x0 := (HB1.out.cell (p := ⟨b, off + k * 4, none⟩) hbB).trans hq.1
  have x1 := (HB1.out.cell (p := ⟨b, off + k * 4 + 1, none⟩) hbB).trans hq.2.1
  have x2 := (HB1.out.cell (p := ⟨b, off + k * 4 + 2, none⟩) hbB).trans hq.2.2.1
  have x3 := (HB1.out.cell (p := ⟨b, off + k * 4 + 3, none⟩) hbB).trans hq.2.2.2
  have y0 := (HB1.out.cell (p := ⟨b, off + (k + 1) * 4, none⟩) hbB).trans hq2.1
  have y1 := (HB1.out.cell (p := ⟨b, off + (k + 1) * 4 + 1, none⟩) hbB).trans hq2.2.1
  have y2 := (HB1.out.cell (p := ⟨b, off + (k + 1) * 4 + 2, none⟩) hbB).trans hq2.2.2.1
  have y3 := (HB1.out.cell (p := ⟨b, off + (k + 1) * 4 + 3, none⟩) hbB).trans hq2.2.2.2
  have i1 : IntKind.i64.wrap ((k : Int) + 1) = (k : Int) + 1 := IntWalk.i64_in _ (by omega)
  have i2 : (k : Int) < (n : Int) := by omega
  have i3 : (k : Int) + 1 < (n : Int) := by omega
  have i4 : (0 : Int) ≤ (k : Int) + 1 := by omega
  have i5 : ((k : Int) + 1).toNat = k + 1 := by omega
  have i6 : (0 : Int) ≤ (k : Int) := by omega
  have ne1 : wr.heap.size ≠ w.heap.size := by omega
  have ne2 : wr.heap.size ≠ b := by omega
  have HST : Hid (btwA zs k = btw (nth zs (k * 4)) (nth zs (k * 4 + 1)) (nth zs (k * 4 + 2)) (nth zs (k * 4 + 3)) (nth zs ((k + 1) * 4)) (nth zs ((k + 1) * 4 + 1)) (nth zs ((k + 1) * 4 + 2)) (nth zs ((k + 1) * 4 + 3))) := rfl
  have hS : stoneB (btw (nth zs (k * 4)) (nth zs (k * 4 + 1)) (nth zs (k * 4 + 2)) (nth zs (k * 4 + 3)) (nth zs ((k + 1) * 4)) (nth zs ((k + 1) * 4 + 1)) (nth zs ((k + 1) * 4 + 2)) (nth zs ((k + 1) * 4 + 3))) 4 = true := by
    have := hpt k (by omega)
    simp only [pairB, Bool.and_eq_true] at this
    exact this.1
  clear hq hq2 hb1 h1 h hcell b0 bx0 rs0 hpt hA
  obtain ⟨wk, rfl⟩ : ∃ wk : World, wk = wr := ⟨_, rfl⟩
  go_upto_region 3 with (go_at_call 73; refine (l01In_any _ _ _ _).mono ?_; rw [hin]; rintro e w' ⟨rfl, rfl⟩)
  go_cut [5] (fun s5 wx => ∃ gs gq : Nat, s5 = .pointer (some ⟨gs, 0, none⟩) ∧ wk.heap.size ≤ gs ∧ wk.heap.size ≤ gq ∧ Hid (Box wx gs (.slice (some ⟨gq, 0, none⟩) 4 4)) ∧ Hid (RecsAt wx wx.heap.size 2 (some ⟨gq, 0, none⟩) 4 (btwA zs k)) ∧ Hid (Below wk.heap.size wk wx))
  case first =>
    go_region_held3 (fun w' => w'.cell? ⟨w.heap.size, 0, none⟩ = some (.slice (some ⟨b, off, none⟩) n c) ∧ (w'.cell? ⟨b, off + k * 4, none⟩ = some (.int .i64 (nth zs (k * 4))) ∧ w'.cell? ⟨b, off + k * 4 + 1, none⟩ = some (.int .i64 (nth zs (k * 4 + 1))) ∧ w'.cell? ⟨b, off + k * 4 + 2, none⟩ = some (.int .i64 (nth zs (k * 4 + 2))) ∧ w'.cell? ⟨b, off + k * 4 + 3, none⟩ = some (.int .i64 (nth zs (k * 4 + 3)))) ∧ (w'.cell? ⟨b, off + (k + 1) * 4, none⟩ = some (.int .i64 (nth zs ((k + 1) * 4))) ∧ w'.cell? ⟨b, off + (k + 1) * 4 + 1, none⟩ = some (.int .i64 (nth zs ((k + 1) * 4 + 1))) ∧ w'.cell? ⟨b, off + (k + 1) * 4 + 2, none⟩ = some (.int .i64 (nth zs ((k + 1) * 4 + 2))) ∧ w'.cell? ⟨b, off + (k + 1) * 4 + 3, none⟩ = some (.int .i64 (nth zs ((k + 1) * 4 + 3))))) (first | exact ⟨hbox, ⟨x0, x1, x2, x3⟩, ⟨y0, y1, y2, y3⟩⟩ | (refine keepA (by assumption) (fun i => ?_) ?_ <;> first | exact cell_alloc_lt (by first | (simp; done) | (simp; omega) | omega) | exact (cell_alloc_lt (by first | (simp; done) | (simp; omega) | omega)).trans (cell_alloc_lt (by first | (simp; done) | (simp; omega) | omega)).symm | exact hcc _ _ (by first | (simp; done) | (simp; omega) | omega) | exact World.cell?_setCell_far _ _ _ _ (by first | (simp; done) | (simp; omega) | omega))) ((go_at_call 72; refine (sBetween_any _ _ _ _ _ _ _ _ _).mono ?_; rintro e w1 ⟨A1, n1, c1, rfl, ht, _, hb1⟩; obtain ⟨rfl, rfl, gq, rfl, hrq, hgq⟩ := ht hS; rw [hS]; obtain ⟨hcc, hff⟩ := bcell hb1; have k1 := hb1.size; simp at k1; have k2 : w1.heap.size ≠ w.heap.size := (by omega); have k3 : w1.heap.size ≠ b := (by omega)))
    · go_wp2_with fail
      go_meet
      have hzk := hb1.size
      simp at hzk
      have hgl2 := hrq.lt
      simp at hgq
      exact ⟨w1.heap.size, gq, rfl, by omega, by omega, Lib.hid (Box.new _ _ _), Lib.hid ((show RowF (w1.alloc _) gq 76 (4 * 2) (ints (btwA zs k)) from hrq.alloc _).recs rfl), Lib.hid (((below_drewN (Below.refl wk.heap.size wk) 1).trans (hb1.mono (by simp))).alloc (by omega) _)⟩
    · go_wp2_with fail
      go_meet
      have hzk := hb1.size
      simp at hzk
      have hgl2 := hrq.lt
      have hrw := (rowF_new1S wk.drew (.slice none 0 0) 36).after hb1
      simp at hgq
      exact ⟨wk.heap.size, gq, rfl, by omega, by omega, Lib.hid (box_setS _ hrw), Lib.hid ((show RowF (w1.setCell _ _) gq 76 (4 * 2) (ints (btwA zs k)) from hrq.set_other (by simp; omega) _).recs rfl), Lib.hid ((((below_drewN (Below.refl wk.heap.size wk) 1).alloc (Nat.le_refl _) _).trans (hb1.mono (by simp))).setCell (by simp) _)⟩
  case rest =>
    clear x0 x1 x2 x3 y0 y1 y2 y3 hbox
    obtain ⟨gs, gq, rfl, hgs, hgq, HBXS, HRQ, HBW⟩ := hcut
    have HRSc := Lib.hid (HRS.out.after HBW.out)
    have c0 := HRSc.out.cell (i := 0) (by omega)
    have f0 := HRSc.out.frozen 0
    have bxc := HBXS.out.1
    have HB3 : Hid (Below w.heap.size w (wc.setCell ⟨w.heap.size + 1, 0, none⟩ (.slice (some ⟨gq, 0, none⟩) 4 4))) := Lib.hid ((HB1.out.trans (HBW.out.mono hz)).setCell (by simp) _)
    have hr0 : (wc.setCell ⟨w.heap.size + 1, 0, none⟩ (.slice (some ⟨gq, 0, none⟩) 4 4)).cell? ⟨w.heap.size + 1, 0, none⟩ = some (.slice (some ⟨gq, 0, none⟩) 4 4) := (box_setS _ HRSc.out).1
    have HRQ3 : Hid (RecsAt (wc.setCell ⟨w.heap.size + 1, 0, none⟩ (.slice (some ⟨gq, 0, none⟩) 4 4)) (wc.setCell ⟨w.heap.size + 1, 0, none⟩ (.slice (some ⟨gq, 0, none⟩) 4 4)).heap.size 2 (some ⟨gq, 0, none⟩) 4 (btwA zs k)) := by
      refine ⟨HRQ.out.1, fun h0 => ?_⟩
      obtain ⟨b', off', e, hb', hc⟩ := HRQ.out.2 h0
      have e' : gq = b' := by simp at e; exact e.1
      exact ⟨b', off', e, by simpa using hb', fun i hi => (World.cell?_setCell_far _ _ _ _ (by simp; omega)).trans (hc i hi)⟩
    go_wp2
    refine bodyPost_ret (v := .agg #[.slice (some ⟨gq, 0, none⟩) 4 4]) (by simp [results, Try.results47, go_sem, *]) rfl ?_
    exact ⟨gq, rfl, HRQ3.out, HB3.out⟩
set_option maxRecDepth 100000 in
set_option maxHeartbeats 3200000 in
theorem iStoneOf_in (A : Option Addr) (n c : Nat) (zs : List Int) (k : Nat) (w : World) (h : RecsAt w w.heap.size 4 A n zs) (hA : archB zs n = true) (hlt : k + 1 < n) :
    Calls Try.prog 51 #[.agg #[.slice A n c], .int .i64 k] w (StoInPost w zs k) := by
  obtain ⟨hn8, hpt⟩ := archB_out hA
  obtain ⟨b, off, rfl, hbB, hcell⟩ := h.2 (by omega)
  have b0 : Below w.heap.size w ((w.alloc (.cells #[.slice (some ⟨b, off, none⟩) n c] 48)).alloc (.cells #[.slice none 0 0] 36)) := ((Below.refl _ _).alloc (Nat.le_refl _) _).alloc (by simp) _
  have h1 := h.after b0
  have bx0 := (rowF_new1S w (.slice (some ⟨b, off, none⟩) n c) 48).alloc (.cells #[.slice none 0 0] 36)
  have rs0 : RowF ((w.alloc (.cells #[.slice (some ⟨b, off, none⟩) n c] 48)).alloc (.cells #[.slice none 0 0] 36)) (w.heap.size + 1) 36 1 (fun _ => .slice none 0 0) := by
    have h := rowF_new1S (w.alloc (.cells #[.slice (some ⟨b, off, none⟩) n c] 48)) (.slice none 0 0) 36
    rw [World.size_alloc] at h
    exact h
  have e2 : IntKind.i64.wrap ((n : Int) - 2) = (n : Int) - 2 := IntWalk.i64_in _ (by omega)
  have hin : inB (k : Int) 0 ((n : Int) - 2) = true := inB_t (by omega)
  have HC := Lib.hid (fun j (hj : j < n) => jtCells hcell hj)
  go_enter Try.func51, Try.ntmps51
  go_wp2_with fail
  refine (iArchOk_any _ _ _ zs _ h1 (by omega)).mono ?_
  rw [hA]
  rintro e wr ⟨rfl, hb1⟩
  have HB1 := Lib.hid (below_then b0 hb1)
  have HBX := Lib.hid (bx0.after hb1)
  have HRS := Lib.hid (rs0.after hb1)
  have hbox := HBX.out.cell (i := 0) (by omega)
  have hz := HB1.out.size
  have hgl := HBX.out.lt
  have hgl2 := HRS.out.lt
  have hq := HC.out k (by omega)
  have hq2 := HC.out (k + 1) (by omega)
  have hbr : b < wr.heap.size := by omega
  have x0 := (HB1.out.cell (p := ⟨b, off + k * 4, none⟩) hbB).trans hq.1
  have x1 := (HB1.out.cell (p := ⟨b, off + k * 4 + 1, none⟩) hbB).trans hq.2.1
  have x2 := (HB1.out.cell (p := ⟨b, off + k * 4 + 2, none⟩) hbB).trans hq.2.2.1
  have x3 := (HB1.out.cell (p := ⟨b, off + k * 4 + 3, none⟩) hbB).trans hq.2.2.2
  have y0 := (HB1.out.cell (p := ⟨b, off + (k + 1) * 4, none⟩) hbB).trans hq2.1
  have y1 := (HB1.out.cell (p := ⟨b, off + (k + 1) * 4 + 1, none⟩) hbB).trans hq2.2.1
  have y2 := (HB1.out.cell (p := ⟨b, off + (k + 1) * 4 + 2, none⟩) hbB).trans hq2.2.2.1
  have y3 := (HB1.out.cell (p := ⟨b, off + (k + 1) * 4 + 3, none⟩) hbB).trans hq2.2.2.2
  have i1 : IntKind.i64.wrap ((k : Int) + 1) = (k : Int) + 1 := IntWalk.i64_in _ (by omega)
  have i2 : (k : Int) < (n : Int) := by omega
  have i3 : (k : Int) + 1 < (n : Int) := by omega
  have i4 : (0 : Int) ≤ (k : Int) + 1 := by omega
  have i5 : ((k : Int) + 1).toNat = k + 1 := by omega
  have i6 : (0 : Int) ≤ (k : Int) := by omega
  have ne1 : wr.heap.size ≠ w.heap.size := by omega
  have ne2 : wr.heap.size ≠ b := by omega
  have HST : Hid (btwA zs k = btw (nth zs (k * 4)) (nth zs (k * 4 + 1)) (nth zs (k * 4 + 2)) (nth zs (k * 4 + 3)) (nth zs ((k + 1) * 4)) (nth zs ((k + 1) * 4 + 1)) (nth zs ((k + 1) * 4 + 2)) (nth zs ((k + 1) * 4 + 3))) := rfl
  have hS : stoneB (btw (nth zs (k * 4)) (nth zs (k * 4 + 1)) (nth zs (k * 4 + 2)) (nth zs (k * 4 + 3)) (nth zs ((k + 1) * 4)) (nth zs ((k + 1) * 4 + 1)) (nth zs ((k + 1) * 4 + 2)) (nth zs ((k + 1) * 4 + 3))) 4 = true := by
    have := hpt k (by omega)
    simp only [pairB, Bool.and_eq_true] at this
    exact this.1
  clear hq hq2 hb1 h1 h hcell b0 bx0 rs0 hpt hA
  obtain ⟨wk, rfl⟩ : ∃ wk : World, wk = wr := ⟨_, rfl⟩
  go_upto_region 3 with (go_at_call 36; refine (within_any _ _ _ _).mono ?_; rw [hin]; rintro e w' ⟨rfl, rfl⟩)
  go_cut [5] (fun s5 wx => ∃ gs gq : Nat, s5 = .pointer (some ⟨gs, 0, none⟩) ∧ wk.heap.size ≤ gs ∧ wk.heap.size ≤ gq ∧ Hid (Box wx gs (.slice (some ⟨gq, 0, none⟩) 4 4)) ∧ Hid (RecsAt wx wx.heap.size 2 (some ⟨gq, 0, none⟩) 4 (btwA zs k)) ∧ Hid (Below wk.heap.size wk wx))
  case first =>
    go_region_held3 (fun w' => w'.cell? ⟨w.heap.size, 0, none⟩ = some (.slice (some ⟨b, off, none⟩) n c) ∧ (w'.cell? ⟨b, off + k * 4, none⟩ = some (.int .i64 (nth zs (k * 4))) ∧ w'.cell? ⟨b, off + k * 4 + 1, none⟩ = some (.int .i64 (nth zs (k * 4 + 1))) ∧ w'.cell? ⟨b, off + k * 4 + 2, none⟩ = some (.int .i64 (nth zs (k * 4 + 2))) ∧ w'.cell? ⟨b, off + k * 4 + 3, none⟩ = some (.int .i64 (nth zs (k * 4 + 3)))) ∧ (w'.cell? ⟨b, off + (k + 1) * 4, none⟩ = some (.int .i64 (nth zs ((k + 1) * 4))) ∧ w'.cell? ⟨b, off + (k + 1) * 4 + 1, none⟩ = some (.int .i64 (nth zs ((k + 1) * 4 + 1))) ∧ w'.cell? ⟨b, off + (k + 1) * 4 + 2, none⟩ = some (.int .i64 (nth zs ((k + 1) * 4 + 2))) ∧ w'.cell? ⟨b, off + (k + 1) * 4 + 3, none⟩ = some (.int .i64 (nth zs ((k + 1) * 4 + 3))))) (first | exact ⟨hbox, ⟨x0, x1, x2, x3⟩, ⟨y0, y1, y2, y3⟩⟩ | (refine keepA (by assumption) (fun i => ?_) ?_ <;> first | exact cell_alloc_lt (by first | (simp; done) | (simp; omega) | omega) | exact (cell_alloc_lt (by first | (simp; done) | (simp; omega) | omega)).trans (cell_alloc_lt (by first | (simp; done) | (simp; omega) | omega)).symm | exact hcc _ _ (by first | (simp; done) | (simp; omega) | omega) | exact World.cell?_setCell_far _ _ _ _ (by first | (simp; done) | (simp; omega) | omega))) ((go_at_call 77; refine (iBetween_any _ _ _ _ _ _ _ _ _).mono ?_; rintro e w1 ⟨A1, n1, c1, rfl, ht, _, hb1⟩; obtain ⟨rfl, rfl, gq, rfl, hrq, hgq⟩ := ht hS; rw [hS]; obtain ⟨hcc, hff⟩ := bcell hb1; have k1 := hb1.size; simp at k1; have k2 : w1.heap.size ≠ w.heap.size := (by omega); have k3 : w1.heap.size ≠ b := (by omega)))
    · go_wp2_with fail
      go_meet
      have hzk := hb1.size
      simp at hzk
      have hgl2 := hrq.lt
      simp at hgq
      exact ⟨w1.heap.size, gq, rfl, by omega, by omega, Lib.hid (Box.new _ _ _), Lib.hid ((show RowF (w1.alloc _) gq 76 (4 * 2) (ints (btwA zs k)) from hrq.alloc _).recs rfl), Lib.hid (((below_drewN (Below.refl wk.heap.size wk) 1).trans (hb1.mono (by simp))).alloc (by omega) _)⟩
    · go_wp2_with fail
      go_meet
      have hzk := hb1.size
      simp at hzk
      have hgl2 := hrq.lt
      have hrw := (rowF_new1S wk.drew (.slice none 0 0) 36).after hb1
      simp at hgq
      exact ⟨wk.heap.size, gq, rfl, by omega, by omega, Lib.hid (box_setS _ hrw), Lib.hid ((show RowF (w1.setCell _ _) gq 76 (4 * 2) (ints (btwA zs k)) from hrq.set_other (by simp; omega) _).recs rfl), Lib.hid ((((below_drewN (Below.refl wk.heap.size wk) 1).alloc (Nat.le_refl _) _).trans (hb1.mono (by simp))).setCell (by simp) _)⟩
  case rest =>
    clear x0 x1 x2 x3 y0 y1 y2 y3 hbox
    obtain ⟨gs, gq, rfl, hgs, hgq, HBXS, HRQ, HBW⟩ := hcut
    have HRSc := Lib.hid (HRS.out.after HBW.out)
    have c0 := HRSc.out.cell (i := 0) (by omega)
    have f0 := HRSc.out.frozen 0
    have bxc := HBXS.out.1
    have HB3 : Hid (Below w.heap.size w (wc.setCell ⟨w.heap.size + 1, 0, none⟩ (.slice (some ⟨gq, 0, none⟩) 4 4))) := Lib.hid ((HB1.out.trans (HBW.out.mono hz)).setCell (by simp) _)
    have hr0 : (wc.setCell ⟨w.heap.size + 1, 0, none⟩ (.slice (some ⟨gq, 0, none⟩) 4 4)).cell? ⟨w.heap.size + 1, 0, none⟩ = some (.slice (some ⟨gq, 0, none⟩) 4 4) := (box_setS _ HRSc.out).1
    have HRQ3 : Hid (RecsAt (wc.setCell ⟨w.heap.size + 1, 0, none⟩ (.slice (some ⟨gq, 0, none⟩) 4 4)) (wc.setCell ⟨w.heap.size + 1, 0, none⟩ (.slice (some ⟨gq, 0, none⟩) 4 4)).heap.size 2 (some ⟨gq, 0, none⟩) 4 (btwA zs k)) := by
      refine ⟨HRQ.out.1, fun h0 => ?_⟩
      obtain ⟨b', off', e, hb', hc⟩ := HRQ.out.2 h0
      have e' : gq = b' := by simp at e; exact e.1
      exact ⟨b', off', e, by simpa using hb', fun i hi => (World.cell?_setCell_far _ _ _ _ (by simp; omega)).trans (hc i hi)⟩
    go_wp2
    refine bodyPost_ret (v := .agg #[.slice (some ⟨gq, 0, none⟩) 4 4]) (by simp [results, Try.results51, go_sem, *]) rfl ?_
    exact ⟨gq, rfl, HRQ3.out, HB3.out⟩
end Go.Proofs.Ytplabaneihjcoaa
