/-
  Contracts: sums over the corners of a stone, in the program.
-/
import Derived.Test.YtdjhiegolojoaaaWStoneI
import Derived.Test.YtdjhiegolojoaaaPWeight
import Derived.BigRegion
namespace Go.Proofs.Ytdjhiegolojoaaa
open Go.RowKit
set_option linter.unusedSimpArgs false

/-- What is asked of a factor's function. -/
def FacCalls (f : FuncId) (F : Fac) : Prop := ∀ (ax ay bx b_y : Int) (w : World), ptB ax ay = true → ptB bx b_y = true →
  Calls Try.prog f #[.agg #[.int .i64 ax, .int .i64 ay], .agg #[.int .i64 bx, .int .i64 b_y]] w fun e w' => e = .returned (.int .i64 (F ax ay bx b_y)) ∧ Below w.heap.size w w'

theorem facOne_calls : FacCalls 128 facOne := by
  intro ax ay bx b_y w ha hb
  rw [ptB_iff] at ha hb
  go_enter Try.func128, Try.ntmps128
  go_wp2
  go_ret
  exact ⟨rfl, ((Below.refl _ _).alloc (Nat.le_refl _) _).alloc (by simp) _⟩
set_option maxRecDepth 100000 in
set_option maxHeartbeats 1600000 in
theorem overAreaTwice_any (A : Option Addr) (n c : Nat) (zs : List Int) (w : World) (h : RecsAt w w.heap.size 2 A n zs) :
    Calls Try.prog 126 #[.agg #[.slice A n c], .func (.func 128) #[] #[]] w fun e w' => e = .returned (.int .i64 (overI facOne zs n)) ∧ Below w.heap.size w w' := by
  have hF : FacOk facOne := facOne_ok
  have hC : FacCalls 128 facOne := facOne_calls
  have HA := Lib.hid ((Below.refl w.heap.size w).alloc (Nat.le_refl _) (.cells #[.slice A n c] 142))
  have H0 : RecsAt (w.alloc (.cells #[.slice A n c] 142)) (w.alloc (.cells #[.slice A n c] 142)).heap.size 2 A n zs := (h.alloc (Nat.le_refl _) _).mono (by simp)
  cases hs : stoneB zs n
  · have HF := Lib.hid (overI_f (F := facOne) hs)
    go_enter Try.func126, Try.ntmps126
    go_wp2_with fail
    refine (iStoneOk_any _ _ _ zs _ H0).mono ?_
    rw [hs]
    rintro e w1 ⟨rfl, hb1⟩
    have HB1 := Lib.hid (HA.out.trans (hb1.mono (by simp)))
    clear hb1 H0
    go_wp2
    go_ret
    exact ⟨ret_int HF.out.symm, HB1.out⟩
  · have ho := stoneB_out hs
    have HT := Lib.hid (overI_t (F := facOne) hs)
    have hn3 := ho.1.1
    have hn6 := ho.1.2
    have HPT := Lib.hid ho.2.1
    have HBD := Lib.hid (overTo_bd hF ho.2.1)
    obtain ⟨b, off, rfl, hbB, hc⟩ := h.2 (by omega)
    have HC := Lib.hid hc
    have HFC := Lib.hid hC
    have HFO := Lib.hid hF
    clear hc h ho hC hF
    go_enter Try.func126, Try.ntmps126
    go_wp2_with fail
    refine (iStoneOk_any _ _ _ zs _ H0).mono ?_
    rw [hs]
    rintro e w1 ⟨rfl, hb1⟩
    have HB1 := Lib.hid (HA.out.trans (hb1.mono (by simp)))
    have hbox1 := (hb1.cell (p := ⟨w.heap.size, 0, none⟩) (by simp)).trans (cell_new0 _ _ _)
    clear hb1 H0 hs
    go_wp2
    go_loopw [5, 15] (fun s i wr => ∃ j : Nat, j ≤ n ∧ i = .int .i64 j ∧ s = .int .i64 (overTo facOne zs n j) ∧ wr.cell? ⟨w.heap.size, 0, none⟩ = some (.slice (some ⟨b, off, none⟩) n c) ∧ Below w.heap.size w wr) (fun _ i _ => n - (intOf i).toNat)
    case atStart => exact ⟨0, Nat.zero_le _, rfl, rfl, hbox1, HB1.out⟩
    case round =>
      clear HB1 HA hbox1
      obtain ⟨j, hj, rfl, rfl, hbox, hb⟩ := hrel
      have HB := Lib.hid hb
      have hgl := World.block_lt_of_cell? _ _ hbox
      simp only at hgl
      have hz0 := hb.size
      by_cases hlt : j < n
      · have hm1 : (j + 1) % n < n := Nat.mod_lt _ (by omega)
        obtain ⟨x0, x1⟩ := ptCells (fun i hi => (hb.cell (by exact hbB)).trans (HC.out i hi)) hlt
        obtain ⟨y0, y1⟩ := ptCells (fun i hi => (hb.cell (by exact hbB)).trans (HC.out i hi)) hm1
        have r1 : Int.tmod ((j : Int) + 1) (n : Int) = (((j + 1) % n : Nat) : Int) := rem_nat (j + 1) n
        have hpk := HPT.out j hlt
        have hp1 := HPT.out _ hm1
        have HST := Lib.hid (show overTo facOne zs n (j + 1) = overTo facOne zs n j + part facOne zs j ((j + 1) % n) from rfl)
        have hb0 := HBD.out j (by omega)
        have hpb := part_bd HFO.out hpk hp1
        clear hb
        unfold ptA at hpk hp1
        have HPX := hpk
        have HPY := hp1
        generalize (j + 1) % n = j1 at *
        have i1 : IntKind.i64.wrap ((j : Int) + 1) = (j : Int) + 1 := IntWalk.i64_in _ (by omega)
        have i3 : IntKind.i64.wrap (j1 : Int) = (j1 : Int) := IntWalk.i64_in _ (by omega)
        have i5 : (j : Int) < (n : Int) := by omega
        have i6 : (j1 : Int) < (n : Int) := by omega
        have i8 : ¬ n = 0 := by omega
        have i9 : ¬ (n : Int) = 0 := by omega
        have i10 : ((n : Int) == 0) = false := by simp; omega
        have i11 : (0 : Int) ≤ (j : Int) := by omega
        have i12 : (0 : Int) ≤ (j1 : Int) := by omega
        have l1 : b < wr.heap.size := by omega
        have l2 : b < wr.heap.size + 1 := by omega
        have l3 : w.heap.size < wr.heap.size + 1 := by omega
        have l4 : ¬ b = wr.heap.size := by omega
        have l5 : ¬ b = wr.heap.size + 1 := by omega
        have l6 : ¬ w.heap.size = wr.heap.size := by omega
        have l7 : ¬ w.heap.size = wr.heap.size + 1 := by omega
        have hcr := crossI_bd hpk hp1
        have hfb := HFO.out _ _ _ _ hpk hp1
        unfold part at HST hpb
        unfold crossI at HST hpb hcr
        rw [ptB_iff] at HPX HPY
        have hmA := mul_bd (m := 60) (n := 60) (a := nth zs (j * 2)) (b := nth zs (j1 * 2 + 1)) (by omega) (by omega)
        have hmB := mul_bd (m := 60) (n := 60) (a := nth zs (j * 2 + 1)) (b := nth zs (j1 * 2)) (by omega) (by omega)
        clear HPX HPY
        generalize nth zs (j * 2) = ax at *
        generalize nth zs (j * 2 + 1) = ay at *
        generalize nth zs (j1 * 2) = bx at *
        generalize nth zs (j1 * 2 + 1) = b_y at *
        generalize overTo facOne zs n j = S at *
        have e1 : IntKind.i64.wrap (ax * b_y) = ax * b_y := IntWalk.i64_in _ (by omega)
        have e2 : IntKind.i64.wrap (ay * bx) = ay * bx := IntWalk.i64_in _ (by omega)
        have e3 : IntKind.i64.wrap (ax * b_y - ay * bx) = ax * b_y - ay * bx := IntWalk.i64_in _ (by omega)
        have e4 : IntKind.i64.wrap (facOne ax ay bx b_y * (ax * b_y - ay * bx)) = facOne ax ay bx b_y * (ax * b_y - ay * bx) := IntWalk.i64_in _ (by omega)
        have e5 : IntKind.i64.wrap (S + facOne ax ay bx b_y * (ax * b_y - ay * bx)) = S + facOne ax ay bx b_y * (ax * b_y - ay * bx) := IntWalk.i64_in _ (by omega)
        go_wp2
        go_region
        · go_wp2
          go_region_held3 (fun w' => w'.cell? ⟨wr.heap.size, 0, none⟩ = some (.int .i64 ax) ∧ w'.cell? ⟨wr.heap.size, 1, none⟩ = some (.int .i64 ay) ∧ w'.cell? ⟨wr.heap.size + 1, 0, none⟩ = some (.int .i64 bx) ∧ w'.cell? ⟨wr.heap.size + 1, 1, none⟩ = some (.int .i64 b_y)) (first | (go_keep; done) | (refine ⟨?_, ?_, ?_, ?_⟩ <;> (rw [hcc _ _ (by simp <;> omega)]; go_keep))) ((refine (HFC.out _ _ _ _ _ hpk hp1).mono ?_; rintro e w2 ⟨rfl, hb2⟩; obtain ⟨hcc, hff⟩ := bcell hb2))
          have HB2 := Lib.hid ((((HB.out.alloc hz0 _).alloc (by simp; omega) _).drew.drew).trans (hb2.mono (by simp; omega)))
          have hbox2 := (hb2.cell (p := ⟨w.heap.size, 0, none⟩) (by simp; omega)).trans ((World.cell?_alloc_lt _ _ _ (by simp; omega)).trans ((World.cell?_alloc_lt _ _ _ (by simp; omega)).trans hbox))
          clear hcc hff hb2
          go_wp2
          go_roundw
          case rel => exact ⟨j + 1, by omega, by go_num, by rw [HST.out], hbox2, HB2.out⟩
          case measure => first | (simp [intOf]; done) | (simp [intOf]; omega)
        · go_wp2
          go_region_held3 (fun w' => w'.cell? ⟨wr.heap.size + 1, 0, none⟩ = some (.int .i64 ax) ∧ w'.cell? ⟨wr.heap.size + 1, 1, none⟩ = some (.int .i64 ay) ∧ w'.cell? ⟨wr.heap.size, 0, none⟩ = some (.int .i64 bx) ∧ w'.cell? ⟨wr.heap.size, 1, none⟩ = some (.int .i64 b_y)) (first | (go_keep; done) | (refine ⟨?_, ?_, ?_, ?_⟩ <;> (rw [hcc _ _ (by simp <;> omega)]; go_keep))) ((refine (HFC.out _ _ _ _ _ hpk hp1).mono ?_; rintro e w2 ⟨rfl, hb2⟩; obtain ⟨hcc, hff⟩ := bcell hb2))
          have HB2 := Lib.hid ((((HB.out.alloc hz0 _).alloc (by simp; omega) _).drew.drew).trans (hb2.mono (by simp; omega)))
          have hbox2 := (hb2.cell (p := ⟨w.heap.size, 0, none⟩) (by simp; omega)).trans ((World.cell?_alloc_lt _ _ _ (by simp; omega)).trans ((World.cell?_alloc_lt _ _ _ (by simp; omega)).trans hbox))
          clear hcc hff hb2
          go_wp2
          go_roundw
          case rel => exact ⟨j + 1, by omega, by go_num, by rw [HST.out], hbox2, HB2.out⟩
          case measure => first | (simp [intOf]; done) | (simp [intOf]; omega)
      · obtain rfl : j = n := by omega
        clear hb
        go_wp2
        go_ret
        exact ⟨ret_int HT.out.symm, HB.out⟩

theorem iAreaTwice_any (A : Option Addr) (n c : Nat) (zs : List Int) (w : World) (h : RecsAt w w.heap.size 2 A n zs) :
    Calls Try.prog 125 #[.agg #[.slice A n c]] w fun e w' => e = .returned (.int .i64 (overI facOne zs n)) ∧ Below w.heap.size w w' := by
  have HA := Lib.hid ((Below.refl w.heap.size w).alloc (Nat.le_refl _) (.cells #[.slice A n c] 142))
  have H0 : RecsAt (w.alloc (.cells #[.slice A n c] 142)) (w.alloc (.cells #[.slice A n c] 142)).heap.size 2 A n zs := (h.alloc (Nat.le_refl _) _).mono (by simp)
  go_enter Try.func125, Try.ntmps125
  go_wp2_with fail
  refine (overAreaTwice_any _ _ _ zs _ H0).mono ?_
  rintro e w1 ⟨rfl, hb1⟩
  have HB1 := Lib.hid (HA.out.trans (hb1.mono (by simp)))
  clear hb1
  go_wp2
  go_ret
  exact ⟨rfl, HB1.out⟩
theorem iWeightOf_any (A : Option Addr) (n c : Nat) (zs : List Int) (w : World) (h : RecsAt w w.heap.size 2 A n zs) :
    Calls Try.prog 122 #[.agg #[.slice A n c]] w fun e w' => e = .returned (.int .i64 (weightI zs n)) ∧ Below w.heap.size w w' := by
  have HA := Lib.hid ((Below.refl w.heap.size w).alloc (Nat.le_refl _) (.cells #[.slice A n c] 142))
  have H0 : RecsAt (w.alloc (.cells #[.slice A n c] 142)) (w.alloc (.cells #[.slice A n c] 142)).heap.size 2 A n zs := (h.alloc (Nat.le_refl _) _).mono (by simp)
  have hbd := overI_bd facOne_ok zs n
  go_enter Try.func122, Try.ntmps122
  go_wp2_with fail
  refine (iAreaTwice_any _ _ _ zs _ H0).mono ?_
  rintro e w1 ⟨rfl, hb1⟩
  have HB1 := Lib.hid (HA.out.trans (hb1.mono (by simp)))
  clear hb1
  go_wp2
  go_ret
  exact ⟨ret_int (by unfold weightI; rfl), HB1.out⟩
theorem facX_calls : FacCalls 127 facX := by
  intro ax ay bx b_y w ha hb
  rw [ptB_iff] at ha hb
  go_enter Try.func127, Try.ntmps127
  go_wp2
  go_ret
  exact ⟨rfl, ((Below.refl _ _).alloc (Nat.le_refl _) _).alloc (by simp) _⟩
set_option maxRecDepth 100000 in
set_option maxHeartbeats 1600000 in
theorem overMomentOf_any (A : Option Addr) (n c : Nat) (zs : List Int) (w : World) (h : RecsAt w w.heap.size 2 A n zs) :
    Calls Try.prog 126 #[.agg #[.slice A n c], .func (.func 127) #[] #[]] w fun e w' => e = .returned (.int .i64 (overI facX zs n)) ∧ Below w.heap.size w w' := by
  have hF : FacOk facX := facX_ok
  have hC : FacCalls 127 facX := facX_calls
  have HA := Lib.hid ((Below.refl w.heap.size w).alloc (Nat.le_refl _) (.cells #[.slice A n c] 142))
  have H0 : RecsAt (w.alloc (.cells #[.slice A n c] 142)) (w.alloc (.cells #[.slice A n c] 142)).heap.size 2 A n zs := (h.alloc (Nat.le_refl _) _).mono (by simp)
  cases hs : stoneB zs n
  · have HF := Lib.hid (overI_f (F := facX) hs)
    go_enter Try.func126, Try.ntmps126
    go_wp2_with fail
    refine (iStoneOk_any _ _ _ zs _ H0).mono ?_
    rw [hs]
    rintro e w1 ⟨rfl, hb1⟩
    have HB1 := Lib.hid (HA.out.trans (hb1.mono (by simp)))
    clear hb1 H0
    go_wp2
    go_ret
    exact ⟨ret_int HF.out.symm, HB1.out⟩
  · have ho := stoneB_out hs
    have HT := Lib.hid (overI_t (F := facX) hs)
    have hn3 := ho.1.1
    have hn6 := ho.1.2
    have HPT := Lib.hid ho.2.1
    have HBD := Lib.hid (overTo_bd hF ho.2.1)
    obtain ⟨b, off, rfl, hbB, hc⟩ := h.2 (by omega)
    have HC := Lib.hid hc
    have HFC := Lib.hid hC
    have HFO := Lib.hid hF
    clear hc h ho hC hF
    go_enter Try.func126, Try.ntmps126
    go_wp2_with fail
    refine (iStoneOk_any _ _ _ zs _ H0).mono ?_
    rw [hs]
    rintro e w1 ⟨rfl, hb1⟩
    have HB1 := Lib.hid (HA.out.trans (hb1.mono (by simp)))
    have hbox1 := (hb1.cell (p := ⟨w.heap.size, 0, none⟩) (by simp)).trans (cell_new0 _ _ _)
    clear hb1 H0 hs
    go_wp2
    go_loopw [5, 15] (fun s i wr => ∃ j : Nat, j ≤ n ∧ i = .int .i64 j ∧ s = .int .i64 (overTo facX zs n j) ∧ wr.cell? ⟨w.heap.size, 0, none⟩ = some (.slice (some ⟨b, off, none⟩) n c) ∧ Below w.heap.size w wr) (fun _ i _ => n - (intOf i).toNat)
    case atStart => exact ⟨0, Nat.zero_le _, rfl, rfl, hbox1, HB1.out⟩
    case round =>
      clear HB1 HA hbox1
      obtain ⟨j, hj, rfl, rfl, hbox, hb⟩ := hrel
      have HB := Lib.hid hb
      have hgl := World.block_lt_of_cell? _ _ hbox
      simp only at hgl
      have hz0 := hb.size
      by_cases hlt : j < n
      · have hm1 : (j + 1) % n < n := Nat.mod_lt _ (by omega)
        obtain ⟨x0, x1⟩ := ptCells (fun i hi => (hb.cell (by exact hbB)).trans (HC.out i hi)) hlt
        obtain ⟨y0, y1⟩ := ptCells (fun i hi => (hb.cell (by exact hbB)).trans (HC.out i hi)) hm1
        have r1 : Int.tmod ((j : Int) + 1) (n : Int) = (((j + 1) % n : Nat) : Int) := rem_nat (j + 1) n
        have hpk := HPT.out j hlt
        have hp1 := HPT.out _ hm1
        have HST := Lib.hid (show overTo facX zs n (j + 1) = overTo facX zs n j + part facX zs j ((j + 1) % n) from rfl)
        have hb0 := HBD.out j (by omega)
        have hpb := part_bd HFO.out hpk hp1
        clear hb
        unfold ptA at hpk hp1
        have HPX := hpk
        have HPY := hp1
        generalize (j + 1) % n = j1 at *
        have i1 : IntKind.i64.wrap ((j : Int) + 1) = (j : Int) + 1 := IntWalk.i64_in _ (by omega)
        have i3 : IntKind.i64.wrap (j1 : Int) = (j1 : Int) := IntWalk.i64_in _ (by omega)
        have i5 : (j : Int) < (n : Int) := by omega
        have i6 : (j1 : Int) < (n : Int) := by omega
        have i8 : ¬ n = 0 := by omega
        have i9 : ¬ (n : Int) = 0 := by omega
        have i10 : ((n : Int) == 0) = false := by simp; omega
        have i11 : (0 : Int) ≤ (j : Int) := by omega
        have i12 : (0 : Int) ≤ (j1 : Int) := by omega
        have l1 : b < wr.heap.size := by omega
        have l2 : b < wr.heap.size + 1 := by omega
        have l3 : w.heap.size < wr.heap.size + 1 := by omega
        have l4 : ¬ b = wr.heap.size := by omega
        have l5 : ¬ b = wr.heap.size + 1 := by omega
        have l6 : ¬ w.heap.size = wr.heap.size := by omega
        have l7 : ¬ w.heap.size = wr.heap.size + 1 := by omega
        have hcr := crossI_bd hpk hp1
        have hfb := HFO.out _ _ _ _ hpk hp1
        unfold part at HST hpb
        unfold crossI at HST hpb hcr
        rw [ptB_iff] at HPX HPY
        have hmA := mul_bd (m := 60) (n := 60) (a := nth zs (j * 2)) (b := nth zs (j1 * 2 + 1)) (by omega) (by omega)
        have hmB := mul_bd (m := 60) (n := 60) (a := nth zs (j * 2 + 1)) (b := nth zs (j1 * 2)) (by omega) (by omega)
        clear HPX HPY
        generalize nth zs (j * 2) = ax at *
        generalize nth zs (j * 2 + 1) = ay at *
        generalize nth zs (j1 * 2) = bx at *
        generalize nth zs (j1 * 2 + 1) = b_y at *
        generalize overTo facX zs n j = S at *
        have e1 : IntKind.i64.wrap (ax * b_y) = ax * b_y := IntWalk.i64_in _ (by omega)
        have e2 : IntKind.i64.wrap (ay * bx) = ay * bx := IntWalk.i64_in _ (by omega)
        have e3 : IntKind.i64.wrap (ax * b_y - ay * bx) = ax * b_y - ay * bx := IntWalk.i64_in _ (by omega)
        have e4 : IntKind.i64.wrap (facX ax ay bx b_y * (ax * b_y - ay * bx)) = facX ax ay bx b_y * (ax * b_y - ay * bx) := IntWalk.i64_in _ (by omega)
        have e5 : IntKind.i64.wrap (S + facX ax ay bx b_y * (ax * b_y - ay * bx)) = S + facX ax ay bx b_y * (ax * b_y - ay * bx) := IntWalk.i64_in _ (by omega)
        go_wp2
        go_region
        · go_wp2
          go_region_held3 (fun w' => w'.cell? ⟨wr.heap.size, 0, none⟩ = some (.int .i64 ax) ∧ w'.cell? ⟨wr.heap.size, 1, none⟩ = some (.int .i64 ay) ∧ w'.cell? ⟨wr.heap.size + 1, 0, none⟩ = some (.int .i64 bx) ∧ w'.cell? ⟨wr.heap.size + 1, 1, none⟩ = some (.int .i64 b_y)) (first | (go_keep; done) | (refine ⟨?_, ?_, ?_, ?_⟩ <;> (rw [hcc _ _ (by simp <;> omega)]; go_keep))) ((refine (HFC.out _ _ _ _ _ hpk hp1).mono ?_; rintro e w2 ⟨rfl, hb2⟩; obtain ⟨hcc, hff⟩ := bcell hb2))
          have HB2 := Lib.hid ((((HB.out.alloc hz0 _).alloc (by simp; omega) _).drew.drew).trans (hb2.mono (by simp; omega)))
          have hbox2 := (hb2.cell (p := ⟨w.heap.size, 0, none⟩) (by simp; omega)).trans ((World.cell?_alloc_lt _ _ _ (by simp; omega)).trans ((World.cell?_alloc_lt _ _ _ (by simp; omega)).trans hbox))
          clear hcc hff hb2
          go_wp2
          go_roundw
          case rel => exact ⟨j + 1, by omega, by go_num, by rw [HST.out], hbox2, HB2.out⟩
          case measure => first | (simp [intOf]; done) | (simp [intOf]; omega)
        · go_wp2
          go_region_held3 (fun w' => w'.cell? ⟨wr.heap.size + 1, 0, none⟩ = some (.int .i64 ax) ∧ w'.cell? ⟨wr.heap.size + 1, 1, none⟩ = some (.int .i64 ay) ∧ w'.cell? ⟨wr.heap.size, 0, none⟩ = some (.int .i64 bx) ∧ w'.cell? ⟨wr.heap.size, 1, none⟩ = some (.int .i64 b_y)) (first | (go_keep; done) | (refine ⟨?_, ?_, ?_, ?_⟩ <;> (rw [hcc _ _ (by simp <;> omega)]; go_keep))) ((refine (HFC.out _ _ _ _ _ hpk hp1).mono ?_; rintro e w2 ⟨rfl, hb2⟩; obtain ⟨hcc, hff⟩ := bcell hb2))
          have HB2 := Lib.hid ((((HB.out.alloc hz0 _).alloc (by simp; omega) _).drew.drew).trans (hb2.mono (by simp; omega)))
          have hbox2 := (hb2.cell (p := ⟨w.heap.size, 0, none⟩) (by simp; omega)).trans ((World.cell?_alloc_lt _ _ _ (by simp; omega)).trans ((World.cell?_alloc_lt _ _ _ (by simp; omega)).trans hbox))
          clear hcc hff hb2
          go_wp2
          go_roundw
          case rel => exact ⟨j + 1, by omega, by go_num, by rw [HST.out], hbox2, HB2.out⟩
          case measure => first | (simp [intOf]; done) | (simp [intOf]; omega)
      · obtain rfl : j = n := by omega
        clear hb
        go_wp2
        go_ret
        exact ⟨ret_int HT.out.symm, HB.out⟩

theorem iMomentOf_any (A : Option Addr) (n c : Nat) (zs : List Int) (w : World) (h : RecsAt w w.heap.size 2 A n zs) :
    Calls Try.prog 123 #[.agg #[.slice A n c]] w fun e w' => e = .returned (.int .i64 (overI facX zs n)) ∧ Below w.heap.size w w' := by
  have HA := Lib.hid ((Below.refl w.heap.size w).alloc (Nat.le_refl _) (.cells #[.slice A n c] 142))
  have H0 : RecsAt (w.alloc (.cells #[.slice A n c] 142)) (w.alloc (.cells #[.slice A n c] 142)).heap.size 2 A n zs := (h.alloc (Nat.le_refl _) _).mono (by simp)
  go_enter Try.func123, Try.ntmps123
  go_wp2_with fail
  refine (overMomentOf_any _ _ _ zs _ H0).mono ?_
  rintro e w1 ⟨rfl, hb1⟩
  have HB1 := Lib.hid (HA.out.trans (hb1.mono (by simp)))
  clear hb1
  go_wp2
  go_ret
  exact ⟨rfl, HB1.out⟩
end Go.Proofs.Ytdjhiegolojoaaa

