/-
  Contracts: sums over the corners of a stone, in the reference.
-/
import Derived.Test.YtdjhiegolojoaaaWStone
import Derived.Test.YtdjhiegolojoaaaPWeight
namespace Go.Proofs.Ytdjhiegolojoaaa
open Go.RowKit
set_option linter.unusedSimpArgs false

theorem l04Cross_any (ax ay bx b_y : Int) (w : World) (ha : ptB ax ay = true) (hb : ptB bx b_y = true) :
    Calls Try.prog 105 #[.agg #[.int .i64 ax, .int .i64 ay], .agg #[.int .i64 bx, .int .i64 b_y]] w fun e w' => e = .returned (.int .i64 (crossI ax ay bx b_y)) ∧ Below w.heap.size w w' := by
  have hcr := crossI_bd ha hb
  unfold crossI at hcr
  rw [ptB_iff] at ha hb
  have hmA := mul_bd (m := 60) (n := 60) (a := ax) (b := b_y) (by omega) (by omega)
  have hmB := mul_bd (m := 60) (n := 60) (a := ay) (b := bx) (by omega) (by omega)
  go_enter Try.func105, Try.ntmps105
  go_wp2
  go_ret
  exact ⟨rfl, ((Below.refl _ _).alloc (Nat.le_refl _) _).alloc (by simp) _⟩

set_option maxRecDepth 100000 in
set_option maxHeartbeats 1600000 in
theorem sAreaTwice_any (A : Option Addr) (n c : Nat) (zs : List Int) (w : World) (h : RecsAt w w.heap.size 2 A n zs) (hn : n ≤ 1048576) :
    Calls Try.prog 104 #[.agg #[.slice A n c]] w fun e w' => e = .returned (.int .i64 (overI facOne zs n)) ∧ Below w.heap.size w w' := by
  have HA := Lib.hid ((Below.refl w.heap.size w).alloc (Nat.le_refl _) (.cells #[.slice A n c] 142))
  have H := Lib.hid h
  cases hs : stoneB zs n
  · have HF := Lib.hid (overI_f (F := facOne) hs)
    go_enter Try.func104, Try.ntmps104
    go_wp2
    go_loopw [3, 4] (fun s i wr => s = .int .i64 0 ∧ i = .int .i64 0 ∧ wr.cell? ⟨w.heap.size, 0, none⟩ = some (.slice A n c) ∧ Below w.heap.size w wr) (fun _ i _ => n - (intOf i).toNat)
    case atStart => exact ⟨rfl, rfl, cell_new0 _ _ _, HA.out⟩
    case round =>
      clear HA
      obtain ⟨rfl, rfl, hbox, hb⟩ := hrel
      have HB := Lib.hid hb
      by_cases h0 : n = 0
      · subst h0
        clear hb
        go_wp2
        go_ret
        exact ⟨ret_int HF.out.symm, HB.out⟩
      · have hpos : (0 : Int) < (n : Int) := by omega
        have hpos' : 0 < n := by omega
        have r1 := (H.out.below hb).mono hb.size
        clear hb h0
        go_wp2_with fail
        refine (sStoneOk_any _ _ _ zs _ r1).mono ?_
        rw [hs]
        rintro e w1 ⟨rfl, hb1⟩
        have HB1 := Lib.hid (HB.out.trans (hb1.mono HB.out.size))
        clear hb1
        go_wp2
        go_ret
        exact ⟨ret_int HF.out.symm, HB1.out⟩
  · have ho := stoneB_out hs
    have HT := Lib.hid (overI_t (F := facOne) hs)
    have hn3 := ho.1.1
    have hn6 := ho.1.2
    have HPT := Lib.hid ho.2.1
    have HBD := Lib.hid (overTo_bd facOne_ok ho.2.1)
    obtain ⟨b, off, rfl, hbB, hc⟩ := h.2 (by omega)
    have HC := Lib.hid hc
    clear hc h ho
    go_enter Try.func104, Try.ntmps104
    go_wp2
    go_loopw [3, 4] (fun s i wr => ∃ j : Nat, j ≤ n ∧ i = .int .i64 j ∧ s = .int .i64 (overTo facOne zs n j) ∧ wr.cell? ⟨w.heap.size, 0, none⟩ = some (.slice (some ⟨b, off, none⟩) n c) ∧ Below w.heap.size w wr) (fun _ i _ => n - (intOf i).toNat)
    case atStart => exact ⟨0, Nat.zero_le _, rfl, rfl, cell_new0 _ _ _, HA.out⟩
    case round =>
      clear HA
      obtain ⟨j, hj, rfl, rfl, hbox, hb⟩ := hrel
      have HB := Lib.hid hb
      have hgl := World.block_lt_of_cell? _ _ hbox
      simp only at hgl
      by_cases hlt : j < n
      · have r0 := (H.out.below hb).mono hb.size
        have hji : (j : Int) < (n : Int) := by omega
        clear hb
        go_wp2_with fail
        refine (sStoneOk_any _ _ _ zs _ r0).mono ?_
        rw [hs]
        rintro e w1 ⟨rfl, hb1⟩
        have hb := HB.out.trans (hb1.mono HB.out.size)
        have hbox1 := (hb1.cell (p := ⟨w.heap.size, 0, none⟩) hgl).trans hbox
        have hgl1 : w.heap.size < w1.heap.size := by have := hb1.size; omega
        have HB1 := Lib.hid hb
        have hm1 : (j + 1) % n < n := Nat.mod_lt _ (by omega)
        obtain ⟨x0, x1⟩ := ptCells (fun i hi => (hb.cell (by exact hbB)).trans (HC.out i hi)) hlt
        obtain ⟨y0, y1⟩ := ptCells (fun i hi => (hb.cell (by exact hbB)).trans (HC.out i hi)) hm1
        have hz1 := hb.size
        clear hb hb1 hbox hgl r0
        have r1 : Int.tmod ((j : Int) + 1) (n : Int) = (((j + 1) % n : Nat) : Int) := rem_nat (j + 1) n
        have hpk := HPT.out j hlt
        have hp1 := HPT.out _ hm1
        have HST := Lib.hid (show overTo facOne zs n (j + 1) = overTo facOne zs n j + part facOne zs j ((j + 1) % n) from rfl)
        have hb0 := HBD.out j (by omega)
        unfold ptA at hpk hp1
        have hcr := crossI_bd hpk hp1
        rw [part_one] at HST
        generalize (j + 1) % n = j1 at *
        generalize overTo facOne zs n j = S at *
        have i1 : IntKind.i64.wrap ((j : Int) + 1) = (j : Int) + 1 := IntWalk.i64_in _ (by omega)
        have i3 : IntKind.i64.wrap (j1 : Int) = (j1 : Int) := IntWalk.i64_in _ (by omega)
        have i6 : (j1 : Int) < (n : Int) := by omega
        have i8 : ¬ n = 0 := by omega
        have i9 : ¬ (n : Int) = 0 := by omega
        have i10 : ((n : Int) == 0) = false := by simp; omega
        have i11 : (0 : Int) ≤ (j : Int) := by omega
        have i12 : (0 : Int) ≤ (j1 : Int) := by omega
        have e5 : IntKind.i64.wrap (S + crossI (nth zs (j * 2)) (nth zs (j * 2 + 1)) (nth zs (j1 * 2)) (nth zs (j1 * 2 + 1))) = S + crossI (nth zs (j * 2)) (nth zs (j * 2 + 1)) (nth zs (j1 * 2)) (nth zs (j1 * 2 + 1)) := IntWalk.i64_in _ (by omega)
        go_wp2
        go_region_held3 (fun w' => w'.cell? ⟨w.heap.size, 0, none⟩ = some (.slice (some ⟨b, off, none⟩) n c) ∧ (w'.cell? ⟨b, off + j * 2, none⟩ = some (.int .i64 (nth zs (j * 2))) ∧ w'.cell? ⟨b, off + j * 2 + 1, none⟩ = some (.int .i64 (nth zs (j * 2 + 1)))) ∧ (w'.cell? ⟨b, off + j1 * 2, none⟩ = some (.int .i64 (nth zs (j1 * 2))) ∧ w'.cell? ⟨b, off + j1 * 2 + 1, none⟩ = some (.int .i64 (nth zs (j1 * 2 + 1))))) (first | (simp [*]; done) | (refine ⟨?_, ⟨?_, ?_⟩, ⟨?_, ?_⟩⟩ <;> (rw [hcc _ _ (by simp <;> omega)]; simp [*]))) ((go_at_call 105; refine (l04Cross_any _ _ _ _ _ hpk hp1).mono ?_; rintro e w2 ⟨rfl, hb2⟩; obtain ⟨hcc, hff⟩ := bcell hb2))
        have HB2 := Lib.hid (HB1.out.drew.trans (hb2.mono (by simp; omega)))
        have hbox2 := (hb2.cell (p := ⟨w.heap.size, 0, none⟩) (by simp; omega)).trans hbox1
        clear hcc hff hb2
        go_wp2
        go_roundw
        case rel => exact ⟨j + 1, by omega, by go_num, by rw [HST.out], hbox2, HB2.out⟩
        case measure => first | (simp [intOf]; done) | (simp [intOf]; omega)
      · obtain rfl : j = n := by omega
        clear hb
        go_wp2
        go_ret
        exact ⟨ret_int HT.out.symm, HB.out⟩

theorem sWeightOf_any (A : Option Addr) (n c : Nat) (zs : List Int) (w : World) (h : RecsAt w w.heap.size 2 A n zs) (hn : n ≤ 1048576) :
    Calls Try.prog 91 #[.agg #[.slice A n c]] w fun e w' => e = .returned (.int .i64 (weightI zs n)) ∧ Below w.heap.size w w' := by
  have HA := Lib.hid ((Below.refl w.heap.size w).alloc (Nat.le_refl _) (.cells #[.slice A n c] 142))
  have H0 : RecsAt (w.alloc (.cells #[.slice A n c] 142)) (w.alloc (.cells #[.slice A n c] 142)).heap.size 2 A n zs := (h.alloc (Nat.le_refl _) _).mono (by simp)
  have hbd := overI_bd facOne_ok zs n
  go_enter Try.func91, Try.ntmps91
  go_wp2_with fail
  refine (sAreaTwice_any _ _ _ zs _ H0 hn).mono ?_
  rintro e w1 ⟨rfl, hb1⟩
  have HB1 := Lib.hid (HA.out.trans (hb1.mono (by simp)))
  clear hb1
  go_wp2
  go_ret
  exact ⟨ret_int (by unfold weightI; rfl), HB1.out⟩
end Go.Proofs.Ytdjhiegolojoaaa
