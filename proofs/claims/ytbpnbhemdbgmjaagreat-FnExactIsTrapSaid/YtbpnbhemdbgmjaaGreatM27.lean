/-
  Texts that the law stands on, part 27.
-/
import Derived.Test.YtbpnbhemdbgmjaaGreatM11
import Derived.Test.YtbpnbhemdbgmjaaGreatM18
import Derived.Test.YtbpnbhemdbgmjaaGreatM20
import Derived.Test.YtbpnbhemdbgmjaaGreatM21
import Derived.Test.YtbpnbhemdbgmjaaGreatM24
import Derived.Test.YtbpnbhemdbgmjaaGreatM25
import Derived.Test.YtbpnbhemdbgmjaaGreatM26
import Derived.BigRegion
import Derived.Deep.RegionLaw
import Derived.Deep.DeepCutAuto
import Derived.Maps.RangeWalk
import Derived.Deep.RegionHeld3
import Derived.Outline
section
namespace Go.Proofs.YtbpnbhemdbgmjaaGreat.X
open Go.RowKit
set_option linter.unusedSimpArgs false
def FacCalls (f : FuncId) (F : Fac) : Prop := ∀ (ax ay bx b_y : Int) (w : World), ptB ax ay = true → ptB bx b_y = true →
  Calls Tryzx.prog f #[.agg #[.int .i64 ax, .int .i64 ay], .agg #[.int .i64 bx, .int .i64 b_y]] w fun e w' => e = .returned (.int .i64 (F ax ay bx b_y)) ∧ Below w.heap.size w w'
theorem facOne_calls : FacCalls 195 facOne := by
  intro ax ay bx b_y w ha hb
  rw [ptB_iff] at ha hb
  go_enter Tryzx.func195, Tryz.ntmps195
  go_wp2
  go_ret
  exact ⟨rfl, ((Below.refl _ _).alloc (Nat.le_refl _) _).alloc (by simp) _⟩
set_option maxRecDepth 100000 in
set_option maxHeartbeats 1600000 in
theorem overAreaTwice_any (A : Option Addr) (n c : Nat) (zs : List Int) (w : World) (h : RecsAt w w.heap.size 2 A n zs) :
    Calls Tryzx.prog 177 #[.agg #[.slice A n c], .func (.func 195) #[] #[]] w fun e w' => e = .returned (.int .i64 (overI facOne zs n)) ∧ Below w.heap.size w w' := by
  have hF : FacOk facOne := facOne_ok
  have hC : FacCalls 195 facOne := facOne_calls
  have HA := Lib.hid ((Below.refl w.heap.size w).alloc (Nat.le_refl _) (.cells #[.slice A n c] 150))
  have H0 : RecsAt (w.alloc (.cells #[.slice A n c] 150)) (w.alloc (.cells #[.slice A n c] 150)).heap.size 2 A n zs := (h.alloc (Nat.le_refl _) _).mono (by simp)
  cases hs : stoneB zs n
  · have HF := Lib.hid (overI_f (F := facOne) hs)
    go_enter Tryzx.func177, Tryz.ntmps177
    go_wp2_with fail
    refine (iStoneOk_any _ _ _ zs _ H0).mono ?_
    rw [hs]
    rintro e w1 ⟨rfl, hb1⟩
    have HB1 := Lib.hid (HA.out.trans (hb1.mono (by simp)))
    clear hb1 H0
    go_wp2
    go_ret
    exact ⟨ret_int HF.out.symm, HB1.out⟩
  · have ho := stoneB_out hs
    have HT := Lib.hid (overI_t (F := facOne) hs)
    have hn3 := ho.1.1
    have hn6 := ho.1.2
    have HPT := Lib.hid ho.2.1
    have HBD := Lib.hid (overTo_bd hF ho.2.1)
    obtain ⟨b, off, rfl, hbB, hc⟩ := h.2 (by omega)
    have HC := Lib.hid hc
    have HFC := Lib.hid hC
    have HFO := Lib.hid hF
    clear hc h ho hC hF
    go_enter Tryzx.func177, Tryz.ntmps177
    go_wp2_with fail
    refine (iStoneOk_any _ _ _ zs _ H0).mono ?_
    rw [hs]
    rintro e w1 ⟨rfl, hb1⟩
    have HB1 := Lib.hid (HA.out.trans (hb1.mono (by simp)))
    have hbox1 := (hb1.cell (p := ⟨w.heap.size, 0, none⟩) (by simp)).trans (cell_new0 _ _ _)
    clear hb1 H0 hs
    go_wp2
    go_loopw [5, 15] (fun s i wr => ∃ j : Nat, j ≤ n ∧ i = .int .i64 j ∧ s = .int .i64 (overTo facOne zs n j) ∧ wr.cell? ⟨w.heap.size, 0, none⟩ = some (.slice (some ⟨b, off, none⟩) n c) ∧ Below w.heap.size w wr) (fun _ i _ => n - (intOf i).toNat)
    case atStart => exact ⟨0, Nat.zero_le _, rfl, rfl, hbox1, HB1.out⟩
    case round =>
      clear HB1 HA hbox1
      obtain ⟨j, hj, rfl, rfl, hbox, hb⟩ := hrel
      have HB := Lib.hid hb
      have hgl := World.block_lt_of_cell? _ _ hbox
      simp only at hgl
      have hz0 := hb.size
      by_cases hlt : j < n
      · have hm1 : (j + 1) % n < n := Nat.mod_lt _ (by omega)
        obtain ⟨x0, x1⟩ := ptCells (fun i hi => (hb.cell (by exact hbB)).trans (HC.out i hi)) hlt
        obtain ⟨y0, y1⟩ := ptCells (fun i hi => (hb.cell (by exact hbB)).trans (HC.out i hi)) hm1
        have r1 : Int.tmod ((j : Int) + 1) (n : Int) = (((j + 1) % n : Nat) : Int) := rem_nat (j + 1) n
        have hpk := HPT.out j hlt
        have hp1 := HPT.out _ hm1
        have HST := Lib.hid (show overTo facOne zs n (j + 1) = overTo facOne zs n j + part facOne zs j ((j + 1) % n) from rfl)
        have hb0 := HBD.out j (by omega)
        have hpb := part_bd HFO.out hpk hp1
        clear hb
        unfold ptA at hpk hp1
        have HPX := hpk
        have HPY := hp1
        generalize (j + 1) % n = j1 at *
        have i1 : IntKind.i64.wrap ((j : Int) + 1) = (j : Int) + 1 := IntWalk.i64_in _ (by omega)
        have i3 : IntKind.i64.wrap (j1 : Int) = (j1 : Int) := IntWalk.i64_in _ (by omega)
        have i5 : (j : Int) < (n : Int) := by omega
        have i6 : (j1 : Int) < (n : Int) := by omega
        have i8 : ¬ n = 0 := by omega
        have i9 : ¬ (n : Int) = 0 := by omega
        have i10 : ((n : Int) == 0) = false := by simp; omega
        have i11 : (0 : Int) ≤ (j : Int) := by omega
        have i12 : (0 : Int) ≤ (j1 : Int) := by omega
        have l1 : b < wr.heap.size := by omega
        have l2 : b < wr.heap.size + 1 := by omega
        have l3 : w.heap.size < wr.heap.size + 1 := by omega
        have l4 : ¬ b = wr.heap.size := by omega
        have l5 : ¬ b = wr.heap.size + 1 := by omega
        have l6 : ¬ w.heap.size = wr.heap.size := by omega
        have l7 : ¬ w.heap.size = wr.heap.size + 1 := by omega
        have hcr := crossI_bd hpk hp1
        have hfb := HFO.out _ _ _ _ hpk hp1
        unfold part at HST hpb
        unfold crossI at HST hpb hcr
        rw [ptB_iff] at HPX HPY
        have hmA := mul_bd (m := 60) (n := 60) (a := nth zs (j * 2)) (b := nth zs (j1 * 2 + 1)) (by omega) (by omega)
        have hmB := mul_bd (m := 60) (n := 60) (a := nth zs (j * 2 + 1)) (b := nth zs (j1 * 2)) (by omega) (by omega)
        clear HPX HPY
        generalize nth zs (j * 2) = ax at *
        generalize nth zs (j * 2 + 1) = ay at *
        generalize nth zs (j1 * 2) = bx at *
        generalize nth zs (j1 * 2 + 1) = b_y at *
        generalize overTo facOne zs n j = S at *
        have e1 : IntKind.i64.wrap (ax * b_y) = ax * b_y := IntWalk.i64_in _ (by omega)
        have e2 : IntKind.i64.wrap (ay * bx) = ay * bx := IntWalk.i64_in _ (by omega)
        have e3 : IntKind.i64.wrap (ax * b_y - ay * bx) = ax * b_y - ay * bx := IntWalk.i64_in _ (by omega)
        have e4 : IntKind.i64.wrap (facOne ax ay bx b_y * (ax * b_y - ay * bx)) = facOne ax ay bx b_y * (ax * b_y - ay * bx) := IntWalk.i64_in _ (by omega)
        have e5 : IntKind.i64.wrap (S + facOne ax ay bx b_y * (ax * b_y - ay * bx)) = S + facOne ax ay bx b_y * (ax * b_y - ay * bx) := IntWalk.i64_in _ (by omega)
        go_wp2
        go_region
        · go_wp2
          go_region_held3 (fun w' => w'.cell? ⟨wr.heap.size, 0, none⟩ = some (.int .i64 ax) ∧ w'.cell? ⟨wr.heap.size, 1, none⟩ = some (.int .i64 ay) ∧ w'.cell? ⟨wr.heap.size + 1, 0, none⟩ = some (.int .i64 bx) ∧ w'.cell? ⟨wr.heap.size + 1, 1, none⟩ = some (.int .i64 b_y)) (first | (go_keep; done) | (refine ⟨?_, ?_, ?_, ?_⟩ <;> (rw [hcc _ _ (by simp <;> omega)]; go_keep))) ((refine (HFC.out _ _ _ _ _ hpk hp1).mono ?_; rintro e w2 ⟨rfl, hb2⟩; obtain ⟨hcc, hff⟩ := bcell hb2))
          have HB2 := Lib.hid ((((HB.out.alloc hz0 _).alloc (by simp; omega) _).drew.drew).trans (hb2.mono (by simp; omega)))
          have hbox2 := (hb2.cell (p := ⟨w.heap.size, 0, none⟩) (by simp; omega)).trans ((World.cell?_alloc_lt _ _ _ (by simp; omega)).trans ((World.cell?_alloc_lt _ _ _ (by simp; omega)).trans hbox))
          clear hcc hff hb2
          go_wp2
          go_roundw
          case rel => exact ⟨j + 1, by omega, by go_num, by rw [HST.out], hbox2, HB2.out⟩
          case measure => first | (simp [intOf]; done) | (simp [intOf]; omega)
        · go_wp2
          go_region_held3 (fun w' => w'.cell? ⟨wr.heap.size + 1, 0, none⟩ = some (.int .i64 ax) ∧ w'.cell? ⟨wr.heap.size + 1, 1, none⟩ = some (.int .i64 ay) ∧ w'.cell? ⟨wr.heap.size, 0, none⟩ = some (.int .i64 bx) ∧ w'.cell? ⟨wr.heap.size, 1, none⟩ = some (.int .i64 b_y)) (first | (go_keep; done) | (refine ⟨?_, ?_, ?_, ?_⟩ <;> (rw [hcc _ _ (by simp <;> omega)]; go_keep))) ((refine (HFC.out _ _ _ _ _ hpk hp1).mono ?_; rintro e w2 ⟨rfl, hb2⟩; obtain ⟨hcc, hff⟩ := bcell hb2))
          have HB2 := Lib.hid ((((HB.out.alloc hz0 _).alloc (by simp; omega) _).drew.drew).trans (hb2.mono (by simp; omega)))
          have hbox2 := (hb2.cell (p := ⟨w.heap.size, 0, none⟩) (by simp; omega)).trans ((World.cell?_alloc_lt _ _ _ (by simp; omega)).trans ((World.cell?_alloc_lt _ _ _ (by simp; omega)).trans hbox))
          clear hcc hff hb2
          go_wp2
          go_roundw
          case rel => exact ⟨j + 1, by omega, by go_num, by rw [HST.out], hbox2, HB2.out⟩
          case measure => first | (simp [intOf]; done) | (simp [intOf]; omega)
      · obtain rfl : j = n := by omega
        clear hb
        go_wp2
        go_ret
        exact ⟨ret_int HT.out.symm, HB.out⟩
theorem iAreaTwice_any (A : Option Addr) (n c : Nat) (zs : List Int) (w : World) (h : RecsAt w w.heap.size 2 A n zs) :
    Calls Tryzx.prog 176 #[.agg #[.slice A n c]] w fun e w' => e = .returned (.int .i64 (overI facOne zs n)) ∧ Below w.heap.size w w' := by
  have HA := Lib.hid ((Below.refl w.heap.size w).alloc (Nat.le_refl _) (.cells #[.slice A n c] 150))
  have H0 : RecsAt (w.alloc (.cells #[.slice A n c] 150)) (w.alloc (.cells #[.slice A n c] 150)).heap.size 2 A n zs := (h.alloc (Nat.le_refl _) _).mono (by simp)
  go_enter Tryzx.func176, Tryz.ntmps176
  go_wp2_with fail
  refine (overAreaTwice_any _ _ _ zs _ H0).mono ?_
  rintro e w1 ⟨rfl, hb1⟩
  have HB1 := Lib.hid (HA.out.trans (hb1.mono (by simp)))
  clear hb1
  go_wp2
  go_ret
  exact ⟨rfl, HB1.out⟩
theorem iWeightOf_any (A : Option Addr) (n c : Nat) (zs : List Int) (w : World) (h : RecsAt w w.heap.size 2 A n zs) :
    Calls Tryzx.prog 135 #[.agg #[.slice A n c]] w fun e w' => e = .returned (.int .i64 (weightI zs n)) ∧ Below w.heap.size w w' := by
  have HA := Lib.hid ((Below.refl w.heap.size w).alloc (Nat.le_refl _) (.cells #[.slice A n c] 150))
  have H0 : RecsAt (w.alloc (.cells #[.slice A n c] 150)) (w.alloc (.cells #[.slice A n c] 150)).heap.size 2 A n zs := (h.alloc (Nat.le_refl _) _).mono (by simp)
  have hbd := overI_bd facOne_ok zs n
  go_enter Tryzx.func135, Tryz.ntmps135
  go_wp2_with fail
  refine (iAreaTwice_any _ _ _ zs _ H0).mono ?_
  rintro e w1 ⟨rfl, hb1⟩
  have HB1 := Lib.hid (HA.out.trans (hb1.mono (by simp)))
  clear hb1
  go_wp2
  go_ret
  exact ⟨ret_int (by unfold weightI; rfl), HB1.out⟩
theorem facX_calls : FacCalls 178 facX := by
  intro ax ay bx b_y w ha hb
  rw [ptB_iff] at ha hb
  go_enter Tryzx.func178, Tryz.ntmps178
  go_wp2
  go_ret
  exact ⟨rfl, ((Below.refl _ _).alloc (Nat.le_refl _) _).alloc (by simp) _⟩
set_option maxRecDepth 100000 in
set_option maxHeartbeats 1600000 in
theorem overMomentOf_any (A : Option Addr) (n c : Nat) (zs : List Int) (w : World) (h : RecsAt w w.heap.size 2 A n zs) :
    Calls Tryzx.prog 177 #[.agg #[.slice A n c], .func (.func 178) #[] #[]] w fun e w' => e = .returned (.int .i64 (overI facX zs n)) ∧ Below w.heap.size w w' := by
  have hF : FacOk facX := facX_ok
  have hC : FacCalls 178 facX := facX_calls
  have HA := Lib.hid ((Below.refl w.heap.size w).alloc (Nat.le_refl _) (.cells #[.slice A n c] 150))
  have H0 : RecsAt (w.alloc (.cells #[.slice A n c] 150)) (w.alloc (.cells #[.slice A n c] 150)).heap.size 2 A n zs := (h.alloc (Nat.le_refl _) _).mono (by simp)
  cases hs : stoneB zs n
  · have HF := Lib.hid (overI_f (F := facX) hs)
    go_enter Tryzx.func177, Tryz.ntmps177
    go_wp2_with fail
    refine (iStoneOk_any _ _ _ zs _ H0).mono ?_
    rw [hs]
    rintro e w1 ⟨rfl, hb1⟩
    have HB1 := Lib.hid (HA.out.trans (hb1.mono (by simp)))
    clear hb1 H0
    go_wp2
    go_ret
    exact ⟨ret_int HF.out.symm, HB1.out⟩
  · have ho := stoneB_out hs
    have HT := Lib.hid (overI_t (F := facX) hs)
    have hn3 := ho.1.1
    have hn6 := ho.1.2
    have HPT := Lib.hid ho.2.1
    have HBD := Lib.hid (overTo_bd hF ho.2.1)
    obtain ⟨b, off, rfl, hbB, hc⟩ := h.2 (by omega)
    have HC := Lib.hid hc
    have HFC := Lib.hid hC
    have HFO := Lib.hid hF
    clear hc h ho hC hF
    go_enter Tryzx.func177, Tryz.ntmps177
    go_wp2_with fail
    refine (iStoneOk_any _ _ _ zs _ H0).mono ?_
    rw [hs]
    rintro e w1 ⟨rfl, hb1⟩
    have HB1 := Lib.hid (HA.out.trans (hb1.mono (by simp)))
    have hbox1 := (hb1.cell (p := ⟨w.heap.size, 0, none⟩) (by simp)).trans (cell_new0 _ _ _)
    clear hb1 H0 hs
    go_wp2
    go_loopw [5, 15] (fun s i wr => ∃ j : Nat, j ≤ n ∧ i = .int .i64 j ∧ s = .int .i64 (overTo facX zs n j) ∧ wr.cell? ⟨w.heap.size, 0, none⟩ = some (.slice (some ⟨b, off, none⟩) n c) ∧ Below w.heap.size w wr) (fun _ i _ => n - (intOf i).toNat)
    case atStart => exact ⟨0, Nat.zero_le _, rfl, rfl, hbox1, HB1.out⟩
    case round =>
      clear HB1 HA hbox1
      obtain ⟨j, hj, rfl, rfl, hbox, hb⟩ := hrel
      have HB := Lib.hid hb
      have hgl := World.block_lt_of_cell? _ _ hbox
      simp only at hgl
      have hz0 := hb.size
      by_cases hlt : j < n
      · have hm1 : (j + 1) % n < n := Nat.mod_lt _ (by omega)
        obtain ⟨x0, x1⟩ := ptCells (fun i hi => (hb.cell (by exact hbB)).trans (HC.out i hi)) hlt
        obtain ⟨y0, y1⟩ := ptCells (fun i hi => (hb.cell (by exact hbB)).trans (HC.out i hi)) hm1
        have r1 : Int.tmod ((j : Int) + 1) (n : Int) = (((j + 1) % n : Nat) : Int) := rem_nat (j + 1) n
        have hpk := HPT.out j hlt
        have hp1 := HPT.out _ hm1
        have HST := Lib.hid (show overTo facX zs n (j + 1) = overTo facX zs n j + part facX zs j ((j + 1) % n) from rfl)
        have hb0 := HBD.out j (by omega)
        have hpb := part_bd HFO.out hpk hp1
        clear hb
        unfold ptA at hpk hp1
        have HPX := hpk
        have HPY := hp1
        generalize (j + 1) % n = j1 at *
        have i1 : IntKind.i64.wrap ((j : Int) + 1) = (j : Int) + 1 := IntWalk.i64_in _ (by omega)
        have i3 : IntKind.i64.wrap (j1 : Int) = (j1 : Int) := IntWalk.i64_in _ (by omega)
        have i5 : (j : Int) < (n : Int) := by omega
        have i6 : (j1 : Int) < (n : Int) := by omega
        have i8 : ¬ n = 0 := by omega
        have i9 : ¬ (n : Int) = 0 := by omega
        have i10 : ((n : Int) == 0) = false := by simp; omega
        have i11 : (0 : Int) ≤ (j : Int) := by omega
        have i12 : (0 : Int) ≤ (j1 : Int) := by omega
        have l1 : b < wr.heap.size := by omega
        have l2 : b < wr.heap.size + 1 := by omega
        have l3 : w.heap.size < wr.heap.size + 1 := by omega
        have l4 : ¬ b = wr.heap.size := by omega
        have l5 : ¬ b = wr.heap.size + 1 := by omega
        have l6 : ¬ w.heap.size = wr.heap.size := by omega
        have l7 : ¬ w.heap.size = wr.heap.size + 1 := by omega
        have hcr := crossI_bd hpk hp1
        have hfb := HFO.out _ _ _ _ hpk hp1
        unfold part at HST hpb
        unfold crossI at HST hpb hcr
        rw [ptB_iff] at HPX HPY
        have hmA := mul_bd (m := 60) (n := 60) (a := nth zs (j * 2)) (b := nth zs (j1 * 2 + 1)) (by omega) (by omega)
        have hmB := mul_bd (m := 60) (n := 60) (a := nth zs (j * 2 + 1)) (b := nth zs (j1 * 2)) (by omega) (by omega)
        clear HPX HPY
        generalize nth zs (j * 2) = ax at *
        generalize nth zs (j * 2 + 1) = ay at *
        generalize nth zs (j1 * 2) = bx at *
        generalize nth zs (j1 * 2 + 1) = b_y at *
        generalize overTo facX zs n j = S at *
        have e1 : IntKind.i64.wrap (ax * b_y) = ax * b_y := IntWalk.i64_in _ (by omega)
        have e2 : IntKind.i64.wrap (ay * bx) = ay * bx := IntWalk.i64_in _ (by omega)
        have e3 : IntKind.i64.wrap (ax * b_y - ay * bx) = ax * b_y - ay * bx := IntWalk.i64_in _ (by omega)
        have e4 : IntKind.i64.wrap (facX ax ay bx b_y * (ax * b_y - ay * bx)) = facX ax ay bx b_y * (ax * b_y - ay * bx) := IntWalk.i64_in _ (by omega)
        have e5 : IntKind.i64.wrap (S + facX ax ay bx b_y * (ax * b_y - ay * bx)) = S + facX ax ay bx b_y * (ax * b_y - ay * bx) := IntWalk.i64_in _ (by omega)
        go_wp2
        go_region
        · go_wp2
          go_region_held3 (fun w' => w'.cell? ⟨wr.heap.size, 0, none⟩ = some (.int .i64 ax) ∧ w'.cell? ⟨wr.heap.size, 1, none⟩ = some (.int .i64 ay) ∧ w'.cell? ⟨wr.heap.size + 1, 0, none⟩ = some (.int .i64 bx) ∧ w'.cell? ⟨wr.heap.size + 1, 1, none⟩ = some (.int .i64 b_y)) (first | (go_keep; done) | (refine ⟨?_, ?_, ?_, ?_⟩ <;> (rw [hcc _ _ (by simp <;> omega)]; go_keep))) ((refine (HFC.out _ _ _ _ _ hpk hp1).mono ?_; rintro e w2 ⟨rfl, hb2⟩; obtain ⟨hcc, hff⟩ := bcell hb2))
          have HB2 := Lib.hid ((((HB.out.alloc hz0 _).alloc (by simp; omega) _).drew.drew).trans (hb2.mono (by simp; omega)))
          have hbox2 := (hb2.cell (p := ⟨w.heap.size, 0, none⟩) (by simp; omega)).trans ((World.cell?_alloc_lt _ _ _ (by simp; omega)).trans ((World.cell?_alloc_lt _ _ _ (by simp; omega)).trans hbox))
          clear hcc hff hb2
          go_wp2
          go_roundw
          case rel => exact ⟨j + 1, by omega, by go_num, by rw [HST.out], hbox2, HB2.out⟩
          case measure => first | (simp [intOf]; done) | (simp [intOf]; omega)
        · go_wp2
          go_region_held3 (fun w' => w'.cell? ⟨wr.heap.size + 1, 0, none⟩ = some (.int .i64 ax) ∧ w'.cell? ⟨wr.heap.size + 1, 1, none⟩ = some (.int .i64 ay) ∧ w'.cell? ⟨wr.heap.size, 0, none⟩ = some (.int .i64 bx) ∧ w'.cell? ⟨wr.heap.size, 1, none⟩ = some (.int .i64 b_y)) (first | (go_keep; done) | (refine ⟨?_, ?_, ?_, ?_⟩ <;> (rw [hcc _ _ (by simp <;> omega)]; go_keep))) ((refine (HFC.out _ _ _ _ _ hpk hp1).mono ?_; rintro e w2 ⟨rfl, hb2⟩; obtain ⟨hcc, hff⟩ := bcell hb2))
          have HB2 := Lib.hid ((((HB.out.alloc hz0 _).alloc (by simp; omega) _).drew.drew).trans (hb2.mono (by simp; omega)))
          have hbox2 := (hb2.cell (p := ⟨w.heap.size, 0, none⟩) (by simp; omega)).trans ((World.cell?_alloc_lt _ _ _ (by simp; omega)).trans ((World.cell?_alloc_lt _ _ _ (by simp; omega)).trans hbox))
          clear hcc hff hb2
          go_wp2
          go_roundw
          case rel => exact ⟨j + 1, by omega, by go_num, by rw [HST.out], hbox2, HB2.out⟩
          case measure => first | (simp [intOf]; done) | (simp [intOf]; omega)
      · obtain rfl : j = n := by omega
        clear hb
        go_wp2
        go_ret
        exact ⟨ret_int HT.out.symm, HB.out⟩
theorem iMomentOf_any (A : Option Addr) (n c : Nat) (zs : List Int) (w : World) (h : RecsAt w w.heap.size 2 A n zs) :
    Calls Tryzx.prog 136 #[.agg #[.slice A n c]] w fun e w' => e = .returned (.int .i64 (overI facX zs n)) ∧ Below w.heap.size w w' := by
  have HA := Lib.hid ((Below.refl w.heap.size w).alloc (Nat.le_refl _) (.cells #[.slice A n c] 150))
  have H0 : RecsAt (w.alloc (.cells #[.slice A n c] 150)) (w.alloc (.cells #[.slice A n c] 150)).heap.size 2 A n zs := (h.alloc (Nat.le_refl _) _).mono (by simp)
  go_enter Tryzx.func136, Tryz.ntmps136
  go_wp2_with fail
  refine (overMomentOf_any _ _ _ zs _ H0).mono ?_
  rintro e w1 ⟨rfl, hb1⟩
  have HB1 := Lib.hid (HA.out.trans (hb1.mono (by simp)))
  clear hb1
  go_wp2
  go_ret
  exact ⟨rfl, HB1.out⟩
end Go.Proofs.YtbpnbhemdbgmjaaGreat.X
end
section
namespace Go.Proofs.YtbpnbhemdbgmjaaGreat.X
open Go.RowKit
set_option linter.unusedSimpArgs false
theorem infoWt : (Tryzx.prog.info? 105).map (fun i => (i.zero, i.size, i.bytes)) = some (some (.agg #[.int .i64 0, .int .i64 0]), 2, 16) := by kernel_rfl
theorem box_set {w : World} {g : Nat} {t : TypeId} {f : Nat → Value} (v : Value) (h : RowF w g t 1 f) : Box (w.setCell ⟨g, 0, none⟩ v) g v :=
  ⟨by have := (h.set 0 v).cell (i := 0) (by omega); simpa using this, by simpa using h.lt⟩
theorem rowF_new1 (w : World) (u : Value) (t : TypeId) : RowF (w.alloc (.cells #[u] t)) w.heap.size t 1 (fun _ => u) := RowF.of_row (World.rowIs_alloc w #[u] t (fun _ => u) (fun i hi => by simp at hi; subst hi; rfl))
theorem rowF_new3 (w : World) (a b c : Int) (T : TypeId) : RowF (w.alloc (.cells #[.int .i64 a, .int .i64 b, .int .i64 c] T)) w.heap.size T 3 (ints [a, b, c]) :=
  RowF.of_row (World.rowIs_alloc w #[.int .i64 a, .int .i64 b, .int .i64 c] T _ (fun j hj => by simp at hj; match j, hj with | 0, _ => rfl | 1, _ => rfl | 2, _ => rfl))
def WtsPost (w : World) (L : List Int) (m : Nat) (e : Ending) (w' : World) : Prop :=
  ∃ g, e = .returned (.slice (some ⟨g, 0, none⟩) m m) ∧ w.heap.size ≤ g ∧ RowF w' g 105 (m * 2) (ints L) ∧ Below w.heap.size w w'
theorem wmL_fill {zs ls : List Int} {i m k : Nat} (hk : k < m) : (fun j => if j = k * 2 + 1 then Value.int .i64 (kmTo zs ls k i) else if j = k * 2 then Value.int .i64 (kwTo zs ls k i) else fill (wmL zs ls i m) (k * 2) j) = fill (wmL zs ls i m) ((k + 1) * 2) := by
  funext j
  have h := wmL_nth zs ls i hk
  have h2 := fill_step2 (wmL zs ls i m) (k * 2) j
  rw [h.1, h.2] at h2
  rw [h2, show (k + 1) * 2 = k * 2 + 2 by omega]
theorem wmL_load {zs ls : List Int} {i m k : Nat} (hk : k < m) (h : nth ls (i * 3) = (k : Int)) : ∀ j, j < m * 2 → (if j = k * 2 + 1 then Value.int .i64 (kmTo zs ls k (i + 1)) else if j = k * 2 then Value.int .i64 (kwTo zs ls k (i + 1)) else ints (wmL zs ls i m) j) = ints (wmL zs ls (i + 1) m) j := by
  intro j hj
  have h1 := wmL_nth zs ls (i + 1) hk
  by_cases e1 : j = k * 2 + 1
  · subst e1; rw [if_pos rfl, ints_def, h1.2]
  · by_cases e2 : j = k * 2
    · subst e2; rw [if_neg e1, if_pos rfl, ints_def, h1.1]
    · rw [if_neg e1, if_neg e2, ints_def, ints_def]
      have hne : ¬ nth ls (i * 3) = ((j / 2 : Nat) : Int) := by omega
      have ha := wmL_nth zs ls i (m := m) (k := j / 2) (by omega)
      have hb := wmL_nth zs ls (i + 1) (m := m) (k := j / 2) (by omega)
      rw [kwTo_f zs hne, kmTo_f zs hne] at hb
      rcases Nat.mod_two_eq_zero_or_one j with e | e
      · rw [show j = j / 2 * 2 by omega, ha.1, hb.1]
      · rw [show j = j / 2 * 2 + 1 by omega, ha.2, hb.2]
set_option maxRecDepth 100000 in
set_option maxHeartbeats 3200000 in
theorem weightsOf_any (A : Option Addr) (n c : Nat) (zs : List Int) (B : Option Addr) (q d : Nat) (ls : List Int) (w : World) (h : RecsAt w w.heap.size 4 A n zs) (hl : RecsAt w w.heap.size 3 B q ls) (hL : loadsB zs n ls q = true) :
    Calls Tryzx.prog 90 #[.agg #[.slice A n c], .slice B q d] w (WtsPost w (wmL zs ls q (n - 1)) (n - 1)) := by
  obtain ⟨hA, hq6, hLA⟩ := loadsB_out hL
  obtain ⟨hn8, hpt⟩ := archB_out hA
  obtain ⟨m, rfl⟩ : ∃ m, n = m + 1 := ⟨n - 1, by omega⟩
  rw [Nat.add_sub_cancel] at hpt ⊢
  have hmk := fun W => run_make_recs (P := Tryzx.prog) 102 105 2 16 #[.int .i64 0, .int .i64 0] Tryzx.underlying102 infoWt m (by omega) (by omega) W
  have HPT := Lib.hid hpt
  have HLA := Lib.hid hLA
  have HKB := Lib.hid (fun k i hi => kwTo_bd zs hLA hq6 k (i := i) hi)
  have HMB := Lib.hid (fun k i hi => kmTo_bd zs hLA hq6 k (i := i) hi)
  obtain ⟨b, off, rfl, hbB, hcell⟩ := h.2 (by omega)
  have HC := Lib.hid (fun j (hj : j < m + 1) => jtCells hcell hj)
  have HLD := Lib.hid hl
  have e1 : ((m + 1 : Nat) : Int) - 1 = (m : Int) := by omega
  have e2 : IntKind.i64.wrap (((m + 1 : Nat) : Int) - 1) = (m : Int) := by rw [e1]; exact IntWalk.i64_in _ (by omega)
  have HB0 := Lib.hid (((Below.refl w.heap.size w).alloc (Nat.le_refl _) (.cells #[.slice (some ⟨b, off, none⟩) (m + 1) c] 26)).alloc (by simp) (.cells (madeCells #[.int .i64 0, .int .i64 0] (m * 2)) 105))
  have HX0 := Lib.hid ((Box.new w (.slice (some ⟨b, off, none⟩) (m + 1) c) 26).alloc (.cells (madeCells #[.int .i64 0, .int .i64 0] (m * 2)) 105))
  have HR0 : Hid (RowF ((w.alloc (.cells #[.slice (some ⟨b, off, none⟩) (m + 1) c] 26)).alloc (.cells (madeCells #[.int .i64 0, .int .i64 0] (m * 2)) 105)) (w.heap.size + 1) 105 (m * 2) (fill (wmL zs ls 0 m) (0 * 2))) := by
    have h := RowF.of_row (rowIs_made0 (w.alloc (.cells #[.slice (some ⟨b, off, none⟩) (m + 1) c] 26)) #[.int .i64 0, .int .i64 0] 105 (m * 2) (fun j hj => by simp at hj; match j, hj with | 0, _ => rfl | 1, _ => rfl) (by simp) (wmL zs ls 0 m))
    rw [World.size_alloc] at h
    exact h
  clear hcell h hl hL hA hLA hpt
  go_enter Tryzx.func90, Tryz.ntmps90
  go_wp2
  clear hmk
  go_loopw [18] (fun i wr => ∃ k : Nat, k ≤ m ∧ i = .int .i64 k ∧ Hid (RowF wr (w.heap.size + 1) 105 (m * 2) (fill (wmL zs ls 0 m) (k * 2))) ∧ Hid (Box wr w.heap.size (.slice (some ⟨b, off, none⟩) (m + 1) c)) ∧ Hid (Below w.heap.size w wr)) (fun i _ => m - (intOf i).toNat)
  case atStart => exact ⟨0, Nat.zero_le _, rfl, HR0, HX0, HB0⟩
  case round =>
    clear HR0 HX0 HB0
    obtain ⟨k, hk, rfl, HR, HX, HB⟩ := hrel
    by_cases hlt : k < m
    · have hq := HC.out k (by omega)
      have hq2 := HC.out (k + 1) (by omega)
      have hz := HB.out.size
      have hbr : b < wr.heap.size := by omega
      have hgl := HX.out.2
      have hrl := HR.out.lt
      have hbox := HX.out.1
      have x0 := (HB.out.cell (p := ⟨b, off + k * 4, none⟩) hbB).trans hq.1
      have x1 := (HB.out.cell (p := ⟨b, off + k * 4 + 1, none⟩) hbB).trans hq.2.1
      have x2 := (HB.out.cell (p := ⟨b, off + k * 4 + 2, none⟩) hbB).trans hq.2.2.1
      have x3 := (HB.out.cell (p := ⟨b, off + k * 4 + 3, none⟩) hbB).trans hq.2.2.2
      have y0 := (HB.out.cell (p := ⟨b, off + (k + 1) * 4, none⟩) hbB).trans hq2.1
      have y1 := (HB.out.cell (p := ⟨b, off + (k + 1) * 4 + 1, none⟩) hbB).trans hq2.2.1
      have y2 := (HB.out.cell (p := ⟨b, off + (k + 1) * 4 + 2, none⟩) hbB).trans hq2.2.2.1
      have y3 := (HB.out.cell (p := ⟨b, off + (k + 1) * 4 + 3, none⟩) hbB).trans hq2.2.2.2
      have i1 : IntKind.i64.wrap ((k : Int) + 1) = (k : Int) + 1 := IntWalk.i64_in _ (by omega)
      have i2 : (k : Int) < ((m + 1 : Nat) : Int) := by omega
      have i2' : (k : Int) < (m : Int) + 1 := by omega
      have i3 : (k : Int) + 1 < ((m + 1 : Nat) : Int) := by omega
      have i3' : (k : Int) + 1 < (m : Int) + 1 := by omega
      have i4 : (0 : Int) ≤ (k : Int) + 1 := by omega
      have i5 : ((k : Int) + 1).toNat = k + 1 := by omega
      have i6 : (0 : Int) ≤ (k : Int) := by omega
      have i7 : (k : Int) < (m : Int) := by omega
      have ne1 : wr.heap.size ≠ w.heap.size := by omega
      have ne2 : wr.heap.size ≠ b := by omega
      have HST : Hid (btwA zs k = btw (nth zs (k * 4)) (nth zs (k * 4 + 1)) (nth zs (k * 4 + 2)) (nth zs (k * 4 + 3)) (nth zs ((k + 1) * 4)) (nth zs ((k + 1) * 4 + 1)) (nth zs ((k + 1) * 4 + 2)) (nth zs ((k + 1) * 4 + 3))) := rfl
      have hS : stoneB (btw (nth zs (k * 4)) (nth zs (k * 4 + 1)) (nth zs (k * 4 + 2)) (nth zs (k * 4 + 3)) (nth zs ((k + 1) * 4)) (nth zs ((k + 1) * 4 + 1)) (nth zs ((k + 1) * 4 + 2)) (nth zs ((k + 1) * 4 + 3))) 4 = true := by
        have := HPT.out k hlt
        simp only [pairB, Bool.and_eq_true] at this
        exact this.1
      clear hq hq2
      obtain ⟨wk, rfl⟩ : ∃ wk : World, wk = wr := ⟨_, rfl⟩
      go_upto_region 5 with fail
      go_cut [7] (fun s7 wx => ∃ gs gq : Nat, s7 = .pointer (some ⟨gs, 0, none⟩) ∧ wk.heap.size ≤ gs ∧ Hid (Box wx gs (.slice (some ⟨gq, 0, none⟩) 4 4)) ∧ Hid (RecsAt wx wx.heap.size 2 (some ⟨gq, 0, none⟩) 4 (btwA zs k)) ∧ Hid (Below wk.heap.size wk wx))
      case first =>
        go_region_held3 (fun w' => w'.cell? ⟨w.heap.size, 0, none⟩ = some (.slice (some ⟨b, off, none⟩) (m + 1) c) ∧ (w'.cell? ⟨b, off + k * 4, none⟩ = some (.int .i64 (nth zs (k * 4))) ∧ w'.cell? ⟨b, off + k * 4 + 1, none⟩ = some (.int .i64 (nth zs (k * 4 + 1))) ∧ w'.cell? ⟨b, off + k * 4 + 2, none⟩ = some (.int .i64 (nth zs (k * 4 + 2))) ∧ w'.cell? ⟨b, off + k * 4 + 3, none⟩ = some (.int .i64 (nth zs (k * 4 + 3)))) ∧ (w'.cell? ⟨b, off + (k + 1) * 4, none⟩ = some (.int .i64 (nth zs ((k + 1) * 4))) ∧ w'.cell? ⟨b, off + (k + 1) * 4 + 1, none⟩ = some (.int .i64 (nth zs ((k + 1) * 4 + 1))) ∧ w'.cell? ⟨b, off + (k + 1) * 4 + 2, none⟩ = some (.int .i64 (nth zs ((k + 1) * 4 + 2))) ∧ w'.cell? ⟨b, off + (k + 1) * 4 + 3, none⟩ = some (.int .i64 (nth zs ((k + 1) * 4 + 3))))) (first | exact ⟨hbox, ⟨x0, x1, x2, x3⟩, ⟨y0, y1, y2, y3⟩⟩ | (refine keepA (by assumption) (fun i => ?_) ?_ <;> first | exact cell_alloc_lt (by first | (simp; done) | (simp; omega) | omega) | exact (cell_alloc_lt (by first | (simp; done) | (simp; omega) | omega)).trans (cell_alloc_lt (by first | (simp; done) | (simp; omega) | omega)).symm | exact hcc _ _ (by first | (simp; done) | (simp; omega) | omega) | exact World.cell?_setCell_far _ _ _ _ (by first | (simp; done) | (simp; omega) | omega))) ((go_at_call 121; refine (iBetween_any _ _ _ _ _ _ _ _ _).mono ?_; rintro e w1 ⟨A1, n1, c1, rfl, ht, _, hb1⟩; obtain ⟨rfl, rfl, gq, rfl, hrq, hgq⟩ := ht hS; rw [hS]; obtain ⟨hcc, hff⟩ := bcell hb1; have k1 := hb1.size; simp at k1; have k2 : w1.heap.size ≠ w.heap.size := (by omega); have k3 : w1.heap.size ≠ b := (by omega)))
        · go_wp2_with fail
          go_meet
          have hzk := hb1.size
          simp at hzk
          have hgl2 := hrq.lt
          exact ⟨w1.heap.size, gq, rfl, by omega, Lib.hid (Box.new _ _ _), Lib.hid ((show RowF (w1.alloc _) gq 43 (4 * 2) (ints (btwA zs k)) from hrq.alloc _).recs rfl), Lib.hid (((below_drewN (Below.refl wk.heap.size wk) 1).trans (hb1.mono (by simp))).alloc (by omega) _)⟩
        · go_wp2_with fail
          go_meet
          have hzk := hb1.size
          simp at hzk
          have hgl2 := hrq.lt
          have hrw := (rowF_new1 wk.drew (.slice none 0 0) 150).after hb1
          simp at hgq
          exact ⟨wk.heap.size, gq, rfl, by omega, Lib.hid (box_set _ hrw), Lib.hid ((show RowF (w1.setCell _ _) gq 43 (4 * 2) (ints (btwA zs k)) from hrq.set_other (by simp; omega) _).recs rfl), Lib.hid ((((below_drewN (Below.refl wk.heap.size wk) 1).alloc (Nat.le_refl _) _).trans (hb1.mono (by simp))).setCell (by simp) _)⟩
      case rest =>
        clear x0 x1 x2 x3 y0 y1 y2 y3 hbox
        obtain ⟨gs, gq, rfl, hgs, HBX, HRQ, HBW⟩ := hcut
        have HRc := Lib.hid (HR.out.after HBW.out)
        have HXc := Lib.hid (HX.out.after HBW.out)
        have HBc := Lib.hid (HB.out.trans (HBW.out.mono hz))
        have hgsl := HBX.out.2
        have bxc := HBX.out.1
        have hrlc := HRc.out.lt
        have hzc := HBW.out.size
        have hnes : w.heap.size + 1 ≠ gs := by omega
        have HSW : Hid (swt zs k = weightI (btwA zs k) 4 ∧ smt zs k = overI facX (btwA zs k) 4) := ⟨rfl, rfl⟩
        clear HR HX HB
        go_wp2
        go_region_held3 (fun w' => w'.cell? ⟨gs, 0, none⟩ = some (.slice (some ⟨gq, 0, none⟩) 4 4)) (first | exact bxc | assumption | (refine (World.cell?_setCell_far _ _ _ _ hnes).trans ((World.cell?_setCell_far _ _ _ _ hnes).trans ?_); assumption))
          ((first
            | (go_at_call 135; refine (iWeightOf_any _ _ _ (btwA zs k) _ (by exact HRQ.out)).mono ?_; rintro e w1 ⟨rfl, hb1⟩; have bx1 : w1.cell? ⟨gs, 0, none⟩ = some (.slice (some ⟨gq, 0, none⟩) 4 4) := (hb1.cell (p := ⟨gs, 0, none⟩) (by exact hgsl)).trans bxc; have HQ1 := Lib.hid ((show RecsAt wc.drew wc.drew.heap.size 2 _ 4 (btwA zs k) from HRQ.out).after hb1))
            | (go_at_call 136; refine (iMomentOf_any _ _ _ (btwA zs k) _ HQ1.out).mono ?_; rintro e w2 ⟨rfl, hb2⟩; have HR2 := Lib.hid ((show RowF wc.drew _ _ _ _ from HRc.out).after hb1 |>.after hb2); have bx2 : w2.cell? ⟨gs, 0, none⟩ = some (.slice (some ⟨gq, 0, none⟩) 4 4) := (hb2.cell (p := ⟨gs, 0, none⟩) (by have := hb1.size; simp at this; exact Nat.lt_of_lt_of_le hgsl this)).trans bx1; have d0 := HR2.out.cell (i := k * 2) (by omega); have d1 := HR2.out.cell (i := k * 2 + 1) (by omega); have f0 := HR2.out.frozen (k * 2); have f1 := HR2.out.frozen (k * 2 + 1))))
        have HB3 := Lib.hid ((((below_drewN HBc.out 1).trans (hb1.mono (by simp; omega))).trans (hb2.mono (by have := hb1.size; simp at this; omega))).setCell (p := ⟨w.heap.size + 1, k * 2, none⟩) (by simp) (.int .i64 (weightI (btwA zs k) 4)) |>.setCell (p := ⟨w.heap.size + 1, k * 2 + 1, none⟩) (by simp) (.int .i64 (overI facX (btwA zs k) 4)))
        have HX3 := Lib.hid (((show Box wc.drew _ _ from HXc.out).after hb1).after hb2)
        have HX4 : Hid (Box ((w2.setCell ⟨w.heap.size + 1, k * 2, none⟩ (.int .i64 (weightI (btwA zs k) 4))).setCell ⟨w.heap.size + 1, k * 2 + 1, none⟩ (.int .i64 (overI facX (btwA zs k) 4))) w.heap.size (.slice (some ⟨b, off, none⟩) (m + 1) c)) :=
          ⟨(World.cell?_setCell_far _ _ _ _ (by simp)).trans ((World.cell?_setCell_far _ _ _ _ (by simp)).trans HX3.out.1), by have := HX3.out.2; simpa using this⟩
        have HR3 : Hid (RowF ((w2.setCell ⟨w.heap.size + 1, k * 2, none⟩ (.int .i64 (weightI (btwA zs k) 4))).setCell ⟨w.heap.size + 1, k * 2 + 1, none⟩ (.int .i64 (overI facX (btwA zs k) 4))) (w.heap.size + 1) 105 (m * 2) (fill (wmL zs ls 0 m) ((k + 1) * 2))) := by
          have h := (HR2.out.set (k * 2) (.int .i64 (weightI (btwA zs k) 4))).set (k * 2 + 1) (.int .i64 (overI facX (btwA zs k) 4))
          have hf := wmL_fill (zs := zs) (ls := ls) (i := 0) hlt
          rw [kwTo_0, kmTo_0, HSW.out.1, HSW.out.2] at hf
          rw [← hf]
          exact h
        clear d0 d1 f0 f1 hb1 hb2 bx1 bx2 bxc
        go_wp2
        go_roundw
        case rel => exact ⟨k + 1, by omega, by go_num, HR3, HX4, HB3⟩
        case measure => simp [intOf]; omega
    · obtain rfl : m = k := by omega
      have HR0 : Hid (RowF wr (w.heap.size + 1) 105 (m * 2) (ints (wmL zs ls 0 m))) := HR.out.congr (fun j hj => fill_end _ hj)
      clear HR HC
      go_wp2
      go_loopw [47] (fun v wr => ∃ i : Nat, i ≤ q ∧ v = .int .i64 i ∧ Hid (RowF wr (w.heap.size + 1) 105 (m * 2) (ints (wmL zs ls i m))) ∧ Hid (Below w.heap.size w wr)) (fun v _ => q - (intOf v).toNat)
      case atStart => exact ⟨0, Nat.zero_le _, rfl, HR0, HB⟩
      case round =>
        clear HR0 HB HX
        obtain ⟨i, hi, rfl, HR, HB⟩ := hrel
        by_cases hli : i < q
        · obtain ⟨b2, off2, rfl, hb2B, hc2⟩ := HLD.out.2 (by omega)
          have hlc := ldCells hc2 hli
          have x0 := (HB.out.cell (p := ⟨b2, off2 + i * 3, none⟩) hb2B).trans hlc.1
          have x1 := (HB.out.cell (p := ⟨b2, off2 + i * 3 + 1, none⟩) hb2B).trans hlc.2.1
          have x2 := (HB.out.cell (p := ⟨b2, off2 + i * 3 + 2, none⟩) hb2B).trans hlc.2.2
          have hlo := loadAt_out (HLA.out i hli)
          obtain ⟨s, hs⟩ : ∃ s : Nat, nth ls (i * 3) = (s : Int) := ⟨(nth ls (i * 3)).toNat, by omega⟩
          have hsm : s < m := by omega
          have hz := HB.out.size
          have hrl := HR.out.lt
          have c0 := HR.out.cell (i := s * 2) (by omega)
          have c1 := HR.out.cell (i := s * 2 + 1) (by omega)
          have hwn := wmL_nth zs ls i hsm
          rw [ints_def, hwn.1] at c0
          rw [ints_def, hwn.2] at c1
          have hkb := HKB.out s i (by omega)
          have hmb := HMB.out s i (by omega)
          have hkb2 := HKB.out s (i + 1) (by omega)
          have hmb2 := HMB.out s (i + 1) (by omega)
          have hwx := wx_bd hlo.2.1 hlo.2.2
          have e3 : IntKind.i64.wrap (kwTo zs ls s i + nth ls (i * 3 + 1)) = kwTo zs ls s (i + 1) := by rw [← kwTo_t zs hs]; exact IntWalk.i64_in _ (by omega)
          have e4 : IntKind.i64.wrap (nth ls (i * 3 + 1) * nth ls (i * 3 + 2)) = nth ls (i * 3 + 1) * nth ls (i * 3 + 2) := IntWalk.i64_in _ (by omega)
          have e5 : IntKind.i64.wrap (kmTo zs ls s i + nth ls (i * 3 + 1) * nth ls (i * 3 + 2)) = kmTo zs ls s (i + 1) := by rw [← kmTo_t zs hs]; exact IntWalk.i64_in _ (by omega)
          have HLW := Lib.hid (wmL_load (zs := zs) hsm hs)
          rw [hs] at x0
          have s0 : (0 : Int) ≤ (s : Int) := by omega
          have s1 : (s : Int) < (m : Int) := by omega
          clear hs hlc hc2 hlo hwn
          have HRA := Lib.hid (HR.out.alloc (.cells #[.int .i64 (s : Int), .int .i64 (nth ls (i * 3 + 1)), .int .i64 (nth ls (i * 3 + 2))] 123))
          have HBA := Lib.hid (HB.out.alloc hz (.cells #[.int .i64 (s : Int), .int .i64 (nth ls (i * 3 + 1)), .int .i64 (nth ls (i * 3 + 2))] 123))
          have g0 := HRA.out.frozen (s * 2)
          have g1 := HRA.out.frozen (s * 2 + 1)
          generalize nth ls (i * 3 + 1) = lw at *
          generalize nth ls (i * 3 + 2) = lx at *
          have HLB : Hid (RowF (wr.alloc (.cells #[.int .i64 (s : Int), .int .i64 lw, .int .i64 lx] 123)) wr.heap.size 123 3 (ints [(s : Int), lw, lx])) := RowF.of_row (World.rowIs_alloc wr #[.int .i64 (s : Int), .int .i64 lw, .int .i64 lx] 123 _ (fun j hj => by simp at hj; match j, hj with | 0, _ => rfl | 1, _ => rfl | 2, _ => rfl))
          clear hkb hmb hkb2 hmb2 hwx
          obtain ⟨wk, rfl⟩ : ∃ wk : World, wk = wr := ⟨_, rfl⟩
          go_upto_region 11 with fail
          go_cut [10] (fun s10 wx => s10 = .pointer (some ⟨wk.heap.size, 0, none⟩) ∧ Hid (RowF wx (w.heap.size + 1) 105 (m * 2) (fun j => if j = s * 2 then Value.int .i64 (kwTo zs ls s (i + 1)) else ints (wmL zs ls i m) j)) ∧ Hid (RowF wx wk.heap.size 123 3 (ints [(s : Int), lw, lx])) ∧ Hid (Below w.heap.size w wx))
          case first =>
            have HLN : Hid (RowF ((wk.setCell ⟨w.heap.size + 1, s * 2, none⟩ (.int .i64 (kwTo zs ls s (i + 1)))).alloc (.cells #[.int .i64 (s : Int), .int .i64 lw, .int .i64 lx] 123)) wk.heap.size 123 3 (ints [(s : Int), lw, lx])) := by
              have h := rowF_new3 (wk.setCell ⟨w.heap.size + 1, s * 2, none⟩ (.int .i64 (kwTo zs ls s (i + 1)))) (s : Int) lw lx 123
              have e : (wk.setCell ⟨w.heap.size + 1, s * 2, none⟩ (.int .i64 (kwTo zs ls s (i + 1)))).heap.size = wk.heap.size := by simp
              rw [e] at h
              exact h
            go_region_law (fail)
            all_goals (go_wp2_with fail; go_meet; exact ⟨rfl, Lib.hid ((HR.out.set (s * 2) _).alloc _).drew, Lib.hid HLN.out.drew, Lib.hid ((HB.out.setCell (by simp) _).alloc (by simp; omega) _).drew⟩)
          case rest =>
            clear c0 x0 x1 x2 e3 g0 g1 HRA HLB HBA
            obtain ⟨rfl, HRc, HLc, HBc⟩ := hcut
            have c1 : wc.cell? ⟨w.heap.size + 1, s * 2 + 1, none⟩ = some (.int .i64 (kmTo zs ls s i)) := by
              have h := HRc.out.cell (i := s * 2 + 1) (by omega)
              rw [if_neg (by omega), ints_def, (wmL_nth zs ls i hsm).2] at h
              exact h
            have y0 : wc.cell? ⟨wk.heap.size, 0, none⟩ = some (.int .i64 (s : Int)) := HLc.out.cell (by omega)
            have y1 : wc.cell? ⟨wk.heap.size, 1, none⟩ = some (.int .i64 lw) := HLc.out.cell (by omega)
            have y2 : wc.cell? ⟨wk.heap.size, 2, none⟩ = some (.int .i64 lx) := HLc.out.cell (by omega)
            have g1 := HRc.out.frozen (s * 2 + 1)
            have HR4 : Hid (RowF (wc.drew.setCell ⟨w.heap.size + 1, s * 2 + 1, none⟩ (.int .i64 (kmTo zs ls s (i + 1)))) (w.heap.size + 1) 105 (m * 2) (ints (wmL zs ls (i + 1) m))) := (HRc.out.drew.set (s * 2 + 1) _).congr HLW.out
            have HB4 : Hid (Below w.heap.size w (wc.drew.setCell ⟨w.heap.size + 1, s * 2 + 1, none⟩ (.int .i64 (kmTo zs ls s (i + 1))))) := Lib.hid (HBc.out.drew.setCell (by simp) _)
            go_wp2
            go_region_law (fail)
            all_goals
              go_wp2
              go_roundw
              case rel => exact ⟨i + 1, by omega, by go_num, HR4, HB4⟩
              case measure => simp [intOf]; omega
        · obtain rfl : q = i := by omega
          go_wp2
          go_ret
          exact ⟨_, rfl, by omega, HR.out, HB.out⟩
end Go.Proofs.YtbpnbhemdbgmjaaGreat.X
end
section
namespace Go.Proofs.YtbpnbhemdbgmjaaGreat.X
open Go.RowKit Go.Maps
set_option linter.unusedSimpArgs false
theorem lawIntM : Keyed Tryzx.prog 3 := int_keyed Tryzx.underlying3
theorem zeroWt (w : World) : (zeroValue 105).run Tryzx.prog w = .ok (.agg #[.int .i64 0, .int .i64 0]) w := by kernel_rfl
structure SMk (W1 wr : World) (g m k : Nat) (D : DataW Unit) (zs : List Int) : Prop where
  own : wr.ownsMap Tryzx.prog 3 prR W1.heap.size k D
  mp : MapIs D (f1W zs k) (f1M zs k)
  row : RowF wr g 105 (m * 2) (ints (wmL zs [] 0 m))
  below : Below W1.heap.size W1 wr
theorem rowC_new2M (w : World) (a b : Int) (T : TypeId) : RowF (w.alloc (.cells #[.int .i64 a, .int .i64 b] T)) w.heap.size T 2 (ints [a, b]) :=
  RowF.of_row (World.rowIs_alloc w #[.int .i64 a, .int .i64 b] T _ (fun j hj => by simp at hj; match j, hj with | 0, _ => rfl | 1, _ => rfl))
theorem pr_look {w : World} {D : DataW Unit} {b n : Nat} {F G : Nat → Int} (h : w.ownsMap Tryzx.prog 3 prR b n D) (hm : MapIs D F G) (j : Nat) (hj : j ≤ 1048576) :
    (Instr.lookup 101 (.map (some b)) (.int .i64 (j : Int)) false).run Tryzx.prog w = .ok (.agg #[.int .i64 (F j), .int .i64 (G j)]) w := by
  obtain ⟨v, ps, hrun, hv⟩ := h.lookup lawIntM Tryzx.underlying101 (zeroWt _) (prR_mk 0 0) (keyOf_int_mk Tryzx.underlying3 (wf_inM (x := (j : Int)) (by omega)))
  rw [show (Lit.int .i64 (j : Int)) = keyL (j : Int) from rfl, hm j] at hv
  rw [hrun, prR_inj hv]
set_option maxRecDepth 100000 in
set_option maxHeartbeats 6400000 in
theorem iStageRowsN_any (A : Option Addr) (n c : Nat) (zs : List Int) (B : Option Addr) (q d : Nat) (cs : List Int) (w : World) (h : RecsAt w w.heap.size 4 A n zs) (hn : n ≤ 1048576) (hi : IntsAt w w.heap.size B q cs) (hq : q ≤ 1048576) :
    Calls Tryzx.prog 41 #[.agg #[.slice A n c], .slice B q d] w (RowsPostN w (stgN zs n cs q) (stgR zs n cs q)) := by
  have b0 : Below w.heap.size w (w.alloc (.cells #[.slice A n c] 26)) := (Below.refl _ _).alloc (Nat.le_refl _) _
  have h1 := h.after b0
  have l1 := hi.after b0
  have bx0 : Box (w.alloc (.cells #[.slice A n c] 26)) w.heap.size (.slice A n c) := Box.new _ _ _
  cases hL : carriedB zs n cs q
  · have HF := Lib.hid (stg_f hL)
    go_enter Tryzx.func41, Tryz.ntmps41
    go_wp2_with fail
    refine (iCarriedOk_any _ _ _ zs _ _ _ cs _ h1 hn l1 hq).mono ?_
    rw [hL]
    rintro e w1 ⟨rfl, hb1⟩
    have HB1 := Lib.hid (below_then b0 hb1)
    clear hb1
    go_wp2
    go_ret
    exact ⟨⟨_, rfl, by rw [HF.out.1, HF.out.2]; exact OwnR.nil _ _ _ _, HB1.out⟩, fun _ => rfl⟩
  have HT := Lib.hid (stg_t hL)
  obtain ⟨hA, hasc⟩ := carriedB_out hL
  have hn8 := (archB_out hA).1
  obtain ⟨m, rfl⟩ : ∃ m, n = m + 1 := ⟨n - 1, by omega⟩
  rw [Nat.add_sub_cancel] at HT
  have HA := Lib.hid hA
  have HWM := Lib.hid (wmok_stg (n := m + 1) cs q m hA)
  have HASC := Lib.hid hasc
  have HI := Lib.hid hi
  have HH := Lib.hid h
  have hmk := fun W => run_make_recs (P := Tryzx.prog) 102 105 2 16 #[.int .i64 0, .int .i64 0] Tryzx.underlying102 infoWt m (by omega) (by omega) W
  have e1 : ((m + 1 : Nat) : Int) - 1 = (m : Int) := by omega
  have e2 : IntKind.i64.wrap (((m + 1 : Nat) : Int) - 1) = (m : Int) := by rw [e1]; exact IntWalk.i64_in _ (by omega)
  have HMK := Lib.hid hmk
  have hmm := @run_makeMap Tryzx.prog
  clear h hi hA hasc hmk
  go_enter Tryzx.func41, Tryz.ntmps41
  go_wp2_with fail
  refine (iCarriedOk_any _ _ _ zs _ _ _ cs _ h1 hn l1 hq).mono ?_
  rw [hL]
  rintro e W1 ⟨rfl, hb1⟩
  have HB1 := Lib.hid (below_then b0 hb1)
  have BX1 := Lib.hid (bx0.after hb1)
  have h2 := h1.after hb1
  have hbm : Below W1.heap.size W1 (W1.alloc (.map #[] 0)) := (Below.refl _ _).alloc (Nat.le_refl _) _
  have h3 := h2.after hbm
  have BX2 := Lib.hid (BX1.out.after hbm)
  have HBM := Lib.hid hbm
  have cx2 := BX2.out.1
  have cx1 := BX1.out.1
  have hLB : loadsB zs (m + 1) [] 0 = true := loadsB_t HA.out (by omega) (allTo_0 _)
  clear hb1 b0 h1 l1 bx0 hL hbm h2
  go_wp2_with fail
  refine (weightsOf_any _ _ _ zs none 0 0 [] _ h3 RecsAt.nil hLB).mono ?_
  rw [Nat.add_sub_cancel]
  rintro e W2 ⟨g, rfl, hg, hr2, hb2⟩
  have HM0 : Hid (SMk W1 W2 g m 0 (.map []) zs) := by
    refine ⟨?_, mapIs_0 zs, hr2, HBM.out.trans (hb2.mono HBM.out.size)⟩
    exact (World.ownsMap_made W1 Tryzx.prog 3 prR).kept (row := none) ⟨hb2.os, hb2.tape, hb2.output, hb2.size, fun i hi _ => hb2.block i hi⟩ (by simp)
  have hgl : W1.heap.size < g := by simp at hg; omega
  clear hr2 hb2 h3 hLB cx1 cx2 hg hmm
  go_wp2
  go_loopw [20] (fun v20 wr => ∃ (k : Nat) (D : DataW Unit), k ≤ m ∧ v20 = .int .i64 k ∧ Hid (SMk W1 wr g m k D zs)) (fun v20 _ => m - (intOf v20).toNat)
  case atStart => exact ⟨0, _, Nat.zero_le _, rfl, HM0⟩
  case round =>
    clear HM0
    obtain ⟨k, D, hk, rfl, HM⟩ := hrel
    by_cases hlt : k < m
    · have ki : (k : Int) < (m : Int) := by omega
      have k0 : (0 : Int) ≤ (k : Int) := by omega
      have hz := HM.out.below.size
      have hnth := wmL_nth zs [] 0 hlt
      rw [kwTo_0, kmTo_0] at hnth
      have x0 : wr.cell? ⟨g, k * 2, none⟩ = some (.int .i64 (swt zs k)) := by
        have h := HM.out.row.cell (i := k * 2) (by omega)
        rw [ints_def, hnth.1] at h
        exact h
      have x1 : wr.cell? ⟨g, k * 2 + 1, none⟩ = some (.int .i64 (smt zs k)) := by
        have h := HM.out.row.cell (i := k * 2 + 1) (by omega)
        rw [ints_def, hnth.2] at h
        exact h
      have hrl := HM.out.row.lt
      have bn := rowC_new2M wr (swt zs k) (smt zs k) 105
      have y0 : (wr.alloc (.cells #[.int .i64 (swt zs k), .int .i64 (smt zs k)] 105)).cell? ⟨wr.heap.size, 0, none⟩ = some (.int .i64 (swt zs k)) := bn.cell (by omega)
      have y1 : (wr.alloc (.cells #[.int .i64 (swt zs k), .int .i64 (smt zs k)] 105)).cell? ⟨wr.heap.size, 1, none⟩ = some (.int .i64 (smt zs k)) := bn.cell (by omega)
      have HOW := Lib.hid (HM.out.own.alloc (.cells #[.int .i64 (swt zs k), .int .i64 (smt zs k)] 105))
      have HROW := Lib.hid (HM.out.row.alloc (.cells #[.int .i64 (swt zs k), .int .i64 (smt zs k)] 105))
      have HBE := Lib.hid (HM.out.below.alloc hz (.cells #[.int .i64 (swt zs k), .int .i64 (smt zs k)] 105))
      have HMP := Lib.hid (mapIs_put HM.out.own.isMap HM.out.mp)
      have hkey : keyOf Tryzx.prog 3 (.int .i64 (k : Int)) = some (keyL (k : Int)) := keyOf_int_mk Tryzx.underlying3 (wf_inM (x := (k : Int)) (by omega))
      clear hnth bn HM
      go_wp2_with (at_mapUpdate; refine wpList_mapUpdate_own _ rfl (.tmp 25) (.tmp 26) (.tmp 27) 101 rfl 3 105 lawIntM Tryzx.underlying101 prR W1.heap.size k D rfl (by exact HOW.out) (by unfold maxLen; omega) (.int .i64 (k : Int)) (.agg #[.int .i64 (swt zs k), .int .i64 (smt zs k)]) (keyL (k : Int)) rfl rfl hkey (prD (swt zs k) (smt zs k)) [] rfl ?_; intro w3 hown3 hgr3)
      have HM3 : Hid (SMk W1 w3 g m (k + 1) (D.put (keyL (k : Int)) (prD (swt zs k) (smt zs k))) zs) :=
        ⟨hown3, HMP.out, HROW.out.of_block (grown_block hgr3 g (by simp; omega) (by intro e; injection e with e; omega)), HBE.out.grown hgr3 (by simp; omega) (fun j hj => by cases hj; exact Nat.le_refl _)⟩
      clear hown3 hgr3 hkey
      go_wp2
      go_roundw
      case rel => exact ⟨k + 1, _, by omega, by go_num, HM3⟩
      case measure => simp [intOf]; omega
    · obtain rfl : m = k := by omega
      have HD : Hid (wr.ownsMap Tryzx.prog 3 prR W1.heap.size m D ∧ MapIs D (f2W zs cs m 0) (f2M zs cs m 0) ∧ Below W1.heap.size W1 wr) := ⟨HM.out.own, mapIs_12 cs HM.out.mp, HM.out.below⟩
      clear HM
      go_wp2
      go_loopw [31] (fun v31 wr => ∃ (i : Nat) (D : DataW Unit), i ≤ q ∧ v31 = .int .i64 i ∧ Hid (wr.ownsMap Tryzx.prog 3 prR W1.heap.size m D ∧ MapIs D (f2W zs cs m i) (f2M zs cs m i) ∧ Below W1.heap.size W1 wr)) (fun v31 _ => q - (intOf v31).toNat)
      case atStart => exact ⟨0, _, Nat.zero_le _, rfl, HD⟩
      case round =>
        clear HD
        obtain ⟨i, D, hi', rfl, HD⟩ := hrel
        by_cases hlt : i < q
        · obtain ⟨bi, oi, rfl, hbi, hci⟩ := HI.out.2 (by omega)
          have x0 : wr.cell? ⟨bi, oi + i, none⟩ = some (.int .i64 (nth cs i)) := ((HB1.out.trans (HD.out.2.2.mono HB1.out.size)).cell (p := ⟨bi, oi + i, none⟩) hbi).trans (hci i hlt)
          have hin := asc_in HASC.out hlt
          have ki : (i : Int) < (q : Int) := by omega
          have k0 : (0 : Int) ≤ (i : Int) := by omega
          have hkey : keyOf Tryzx.prog 3 (.int .i64 (nth cs i)) = some (keyL (nth cs i)) := keyOf_int_mk Tryzx.underlying3 (wf_inM (x := nth cs i) (by omega))
          clear hci
          go_wp2_with (at_delete; refine wpList_delete_own _ rfl (.tmp 35) (.tmp 36) 101 3 rfl 105 lawIntM Tryzx.underlying101 prR W1.heap.size m D rfl (by exact HD.out.1) (.int .i64 (nth cs i)) (keyL (nth cs i)) rfl hkey ?_; intro w3 hown3 htu3)
          have HD3 : Hid (w3.ownsMap Tryzx.prog 3 prR W1.heap.size m (D.del (keyL (nth cs i))) ∧ MapIs (D.del (keyL (nth cs i))) (f2W zs cs m (i + 1)) (f2M zs cs m (i + 1)) ∧ Below W1.heap.size W1 w3) :=
            ⟨hown3, mapIs_del HD.out.2.1, HD.out.2.2.grown htu3.grown HD.out.2.2.size (fun j hj => by cases hj; exact Nat.le_refl _)⟩
          clear hown3 htu3 hkey
          go_wp2
          go_roundw
          case rel => exact ⟨i + 1, _, by omega, by go_num, HD3⟩
          case measure => simp [intOf]; omega
        · obtain rfl : i = q := by omega
          have cx : wr.cell? ⟨w.heap.size, 0, none⟩ = some (.slice A (m + 1) c) := (HD.out.2.2.cell (p := ⟨w.heap.size, 0, none⟩) BX1.out.2).trans BX1.out.1
          have hz := HD.out.2.2.size
          have hmk := HMK.out
          have HS0 : Hid ((wr.alloc (.cells (madeCells #[.int .i64 0, .int .i64 0] (m * 2)) 105)).ownsMap Tryzx.prog 3 prR W1.heap.size m D ∧ RowF (wr.alloc (.cells (madeCells #[.int .i64 0, .int .i64 0] (m * 2)) 105)) wr.heap.size 105 (m * 2) (fill (stgL zs cs i m) (0 * 2)) ∧ Below W1.heap.size W1 (wr.alloc (.cells (madeCells #[.int .i64 0, .int .i64 0] (m * 2)) 105))) :=
            ⟨HD.out.1.alloc _, RowF.of_row (rowIs_made0 wr #[.int .i64 0, .int .i64 0] 105 (m * 2) (fun j hj => by simp at hj; match j, hj with | 0, _ => rfl | 1, _ => rfl) (by simp) (stgL zs cs i m)), HD.out.2.2.alloc hz _⟩
          have HMI := Lib.hid HD.out.2.1
          obtain ⟨W3, rfl⟩ : ∃ W3 : World, W3 = wr := ⟨_, rfl⟩
          have hml := HD.out.1.lt
          clear HD
          go_wp2
          clear hmk cx
          go_loopw [45] (fun v45 wr => ∃ (k : Nat), k ≤ m ∧ v45 = .int .i64 k ∧ Hid (wr.ownsMap Tryzx.prog 3 prR W1.heap.size m D ∧ RowF wr W3.heap.size 105 (m * 2) (fill (stgL zs cs i m) (k * 2)) ∧ Below W1.heap.size W1 wr)) (fun v45 _ => m - (intOf v45).toNat)
          case atStart => exact ⟨0, Nat.zero_le _, rfl, HS0⟩
          case round =>
            clear HS0
            obtain ⟨k, hk, rfl, HS⟩ := hrel
            by_cases hlt : k < m
            · have ki : (k : Int) < (m : Int) := by omega
              have k0 : (0 : Int) ≤ (k : Int) := by omega
              have hl1 := pr_look HS.out.1 HMI.out k (by omega)
              rw [(f2_stg hlt).1, (f2_stg hlt).2] at hl1
              have z0 : wr.cell? ⟨W3.heap.size, k * 2, none⟩ = some (.int .i64 0) := by
                have h := HS.out.2.1.cell (i := k * 2) (by omega)
                rw [fill_at _ (by omega)] at h
                exact h
              have z1 : wr.cell? ⟨W3.heap.size, k * 2 + 1, none⟩ = some (.int .i64 0) := by
                have h := HS.out.2.1.cell (i := k * 2 + 1) (by omega)
                rw [fill_at _ (by omega)] at h
                exact h
              have f0 := HS.out.2.1.frozen (k * 2)
              have f1 := HS.out.2.1.frozen (k * 2 + 1)
              have HS3 : Hid (((wr.setCell ⟨W3.heap.size, k * 2, none⟩ (.int .i64 (stgW zs cs i k))).setCell ⟨W3.heap.size, k * 2 + 1, none⟩ (.int .i64 (stgM zs cs i k))).ownsMap Tryzx.prog 3 prR W1.heap.size m D ∧ RowF ((wr.setCell ⟨W3.heap.size, k * 2, none⟩ (.int .i64 (stgW zs cs i k))).setCell ⟨W3.heap.size, k * 2 + 1, none⟩ (.int .i64 (stgM zs cs i k))) W3.heap.size 105 (m * 2) (fill (stgL zs cs i m) ((k + 1) * 2)) ∧ Below W1.heap.size W1 ((wr.setCell ⟨W3.heap.size, k * 2, none⟩ (.int .i64 (stgW zs cs i k))).setCell ⟨W3.heap.size, k * 2 + 1, none⟩ (.int .i64 (stgM zs cs i k)))) := by
                refine ⟨(HS.out.1.setCell (by simp; omega) _).setCell (by simp; omega) _, ?_, (HS.out.2.2.setCell (by simp; omega) _).setCell (by simp; omega) _⟩
                rw [← stgL_fill hlt]
                exact (HS.out.2.1.set (k * 2) _).set (k * 2 + 1) _
              generalize stgW zs cs i k = sw at *
              generalize stgM zs cs i k = sm at *
              clear HS
              go_wp2
              go_roundw
              case rel => exact ⟨k + 1, by omega, by go_num, HS3⟩
              case measure => simp [intOf]; omega
            · obtain rfl : m = k := by omega
              have cx : wr.cell? ⟨w.heap.size, 0, none⟩ = some (.slice A (m + 1) c) := (HS.out.2.2.cell (p := ⟨w.heap.size, 0, none⟩) BX1.out.2).trans BX1.out.1
              have r1 := HH.out.below (HB1.out.trans (HS.out.2.2.mono HB1.out.size)) |>.mono (Nat.le_trans HB1.out.size HS.out.2.2.size)
              have r2 : RecsAt wr wr.heap.size 2 (some ⟨W3.heap.size, 0, none⟩) m (stgL zs cs i m) := (HS.out.2.1.congr (fun j hj => fill_end _ hj)).recs (stgL_len _ _ _ _)
              have HBF := Lib.hid (HB1.out.trans (HS.out.2.2.mono HB1.out.size))
              clear HS
              go_wp2_with fail
              refine (rowsFor_any _ _ _ zs _ _ (stgL zs cs i m) _ r1 (by exact r2) HA.out HWM.out).mono ?_
              rintro e w5 ⟨v5, rfl, ho5, hb5⟩
              obtain ⟨A5, c5, rfl, _⟩ := ho5.slice
              have HO5 := Lib.hid (ho5.weaken HBF.out.size)
              have HB5 := Lib.hid (below_then HBF.out hb5)
              clear ho5 hb5
              go_wp2
              go_ret
              exact ⟨⟨_, rfl, by rw [HT.out.1, HT.out.2]; exact HO5.out, HB5.out⟩, fun h0 => by have := HT.out.1; omega⟩
end Go.Proofs.YtbpnbhemdbgmjaaGreat.X
end
section
namespace Go.Proofs.YtbpnbhemdbgmjaaGreat.X
open Go.RowKit
set_option linter.unusedSimpArgs false
set_option linter.unusedVariables false
theorem stgN_few (zs : List Int) (n : Nat) (cs : List Int) (q : Nat) : stgN zs n cs q ≤ 17 := by
  unfold stgN
  split
  · rename_i h
    have := (archB_out (carriedB_out h).1).1
    omega
  · omega
def stgB (zs : List Int) (n : Nat) (cs : List Int) (q : Nat) : Bool := decide (0 < cornN (stgR zs n cs q) (stgN zs n cs q))
section
variable (A : Option Addr) (n c : Nat) (zs : List Int) (B : Option Addr) (q d : Nat) (cs : List Int) (w : World) (h : RecsAt w w.heap.size 4 A n zs) (hn : n ≤ 1048576) (hi : IntsAt w w.heap.size B q cs) (hq : q ≤ 1048576)
include h hn hi hq
set_option maxRecDepth 100000 in
set_option maxHeartbeats 3200000 in
theorem sStageStands_any : Calls Tryzx.prog 31 #[.agg #[.slice A n c], .slice B q d] w fun e w' => e = .returned (.bool (stgB zs n cs q)) ∧ Below w.heap.size w w' := by
  have b0 : Below w.heap.size w (w.alloc (.cells #[.slice A n c] 26)) := (Below.refl _ _).alloc (Nat.le_refl _) _
  have h1 := h.after b0
  have l1 := hi.after b0
  have bx0 : Box (w.alloc (.cells #[.slice A n c] 26)) w.heap.size (.slice A n c) := Box.new _ _ _
  have cx0 := bx0.1
  go_enter Tryzx.func31, Tryz.ntmps31
  go_wp2_with fail
  refine (sStageRows_any _ _ _ zs _ _ _ cs _ (by exact h1) hn (by exact l1) hq).mono ?_
  rintro e w1 ⟨v1, rfl, ho1, hb1⟩
  have bx1 := bx0.after hb1
  have cx1 := bx1.1
  have HB1 := Lib.hid (below_then b0 hb1)
  obtain ⟨A1, c1, rfl, _⟩ := ho1.slice
  have r1 := ho1.recs
  go_wp2_with fail
  refine (sCorners_any _ _ _ (stgR zs n cs q) _ (by exact r1) (by have := stgN_few zs n cs q; omega)).mono ?_
  rintro e w2 ⟨v2, rfl, ho2, hb2⟩
  have cx2 := (bx1.after hb2).1
  have HB2 := Lib.hid (below_then HB1.out hb2)
  obtain ⟨A2, c2, rfl, _⟩ := ho2.slice
  clear ho2 hb2 ho1 hb1 r1 bx1 cx0 cx1 cx2
  go_wp2
  go_ret
  exact ⟨rfl, HB2.out⟩
set_option maxRecDepth 100000 in
set_option maxHeartbeats 3200000 in
theorem iStageStands_any : Calls Tryzx.prog 33 #[.agg #[.slice A n c], .slice B q d] w fun e w' => e = .returned (.bool (stgB zs n cs q)) ∧ Below w.heap.size w w' := by
  have b0 : Below w.heap.size w (w.alloc (.cells #[.slice A n c] 26)) := (Below.refl _ _).alloc (Nat.le_refl _) _
  have h1 := h.after b0
  have l1 := hi.after b0
  have bx0 : Box (w.alloc (.cells #[.slice A n c] 26)) w.heap.size (.slice A n c) := Box.new _ _ _
  have cx0 := bx0.1
  go_enter Tryzx.func33, Tryz.ntmps33
  go_wp2_with fail
  refine (iStageRowsN_any _ _ _ zs _ _ _ cs _ (by exact h1) hn (by exact l1) hq).mono ?_
  rintro e w1 ⟨⟨v1, rfl, ho1, hb1⟩, hz1⟩
  have bx1 := bx0.after hb1
  have cx1 := bx1.1
  have HB1 := Lib.hid (below_then b0 hb1)
  obtain ⟨A1, c1, rfl, _⟩ := ho1.slice
  have r1 := ho1.recs
  have n1 : stgN zs n cs q = 0 → A1 = none := fun h0 => by have := hz1 h0; simp at this; exact this.1
  go_wp2_with fail
  refine (xCorners_any _ _ _ (stgR zs n cs q) _ (by exact r1) (by have := stgN_few zs n cs q; omega) n1).mono ?_
  rintro e w2 ⟨v2, rfl, he2, hb2⟩
  have ho2 := he2.own
  have cx2 := (bx1.after hb2).1
  have HB2 := Lib.hid (below_then HB1.out hb2)
  obtain ⟨A2, c2, rfl, _⟩ := ho2.slice
  clear he2 n1 hz1 ho2 hb2 ho1 hb1 r1 bx1 cx0 cx1 cx2
  go_wp2
  go_ret
  exact ⟨rfl, HB2.out⟩
omit hi hq in
set_option maxRecDepth 100000 in
set_option maxHeartbeats 3200000 in
theorem sFree_any : Calls Tryzx.prog 27 #[.agg #[.slice A n c]] w fun e w' => e = .returned (.bool (stgB zs n [] 0)) ∧ Below w.heap.size w w' := by
  have b0 : Below w.heap.size w (w.alloc (.cells #[.slice A n c] 26)) := (Below.refl _ _).alloc (Nat.le_refl _) _
  have h1 := h.after b0
  have bx0 : Box (w.alloc (.cells #[.slice A n c] 26)) w.heap.size (.slice A n c) := Box.new _ _ _
  have cx0 := bx0.1
  go_enter Tryzx.func27, Tryz.ntmps27
  have h2 := h1.after ((Below.refl _ _).alloc (Nat.le_refl _) (.cells #[] 3))
  have b2 := b0.alloc (by simp) (.cells #[] 3)
  go_wp2_with fail
  refine (sStageStands_any _ _ _ zs _ _ _ [] _ (by exact h2) hn ⟨by simp, fun h => absurd h (by omega)⟩ (by omega)).mono ?_
  rintro e w1 ⟨rfl, hb1⟩
  have HB1 := Lib.hid (below_then b2 hb1)
  clear hb1
  go_wp2
  go_ret
  exact ⟨rfl, HB1.out⟩
omit hi hq in
set_option maxRecDepth 100000 in
set_option maxHeartbeats 3200000 in
theorem iFree_any : Calls Tryzx.prog 29 #[.agg #[.slice A n c]] w fun e w' => e = .returned (.bool (stgB zs n [] 0)) ∧ Below w.heap.size w w' := by
  have b0 : Below w.heap.size w (w.alloc (.cells #[.slice A n c] 26)) := (Below.refl _ _).alloc (Nat.le_refl _) _
  have h1 := h.after b0
  have bx0 : Box (w.alloc (.cells #[.slice A n c] 26)) w.heap.size (.slice A n c) := Box.new _ _ _
  have cx0 := bx0.1
  go_enter Tryzx.func29, Tryz.ntmps29
  go_wp2_with fail
  refine (iStageStands_any _ _ _ zs _ _ _ [] _ (by exact h1) hn ⟨by simp, fun h => absurd h (by omega)⟩ (by omega)).mono ?_
  rintro e w1 ⟨rfl, hb1⟩
  have HB1 := Lib.hid (below_then b0 hb1)
  clear hb1
  go_wp2
  go_ret
  exact ⟨rfl, HB1.out⟩
end
end Go.Proofs.YtbpnbhemdbgmjaaGreat.X
end
section
namespace Go.Proofs.YtbpnbhemdbgmjaaGreat.X
open Go.RowKit
set_option maxHeartbeats 400000 in
theorem toPoint_any (x0 x1 : Int) (w : World) : Calls Tryzx.prog 167 #[.agg #[.int .i64 x0, .int .i64 x1]] w fun e w' => e = .returned (.agg #[.int .i64 x0, .int .i64 x1]) ∧ Below w.heap.size w w' := by
  go_enter Tryzx.func167, Tryz.ntmps167
  go_wp2
  exact bodyPost_ret (v := .agg #[.int .i64 x0, .int .i64 x1]) (by simp [results, Tryz.results167, go_sem]) rfl ⟨rfl, (((Below.refl _ _).alloc (Nat.le_refl _) _).alloc (by simp) _).alloc (by simp; omega) _⟩
end Go.Proofs.YtbpnbhemdbgmjaaGreat.X
end
