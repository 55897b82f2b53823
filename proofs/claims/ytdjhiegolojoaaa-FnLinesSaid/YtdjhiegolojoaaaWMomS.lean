/-
  Contract: MomentOf in the reference.
-/
import Derived.Test.YtdjhiegolojoaaaWWeightS
import Derived.Test.YtdjhiegolojoaaaHeld
import Derived.Deep.RegionLaw
namespace Go.Proofs.Ytdjhiegolojoaaa
open Go.RowKit
set_option linter.unusedSimpArgs false

theorem cell_alloc_lt' {w : World} {o : Obj} {g i : Nat} (h : g < w.heap.size) : (w.alloc o).cell? ⟨g, i, none⟩ = w.cell? ⟨g, i, none⟩ := World.cell?_of_block (a := ⟨g, i, none⟩) (Below.heap_alloc w o g h)
theorem part_facX (zs : List Int) (i j : Nat) : part facX zs i j = (nth zs (i * 2) + nth zs (j * 2)) * crossI (nth zs (i * 2)) (nth zs (i * 2 + 1)) (nth zs (j * 2)) (nth zs (j * 2 + 1)) := rfl
/-- A box of two cells. -/
def Two (w : World) (b : Nat) (u v : Value) : Prop := w.cell? ⟨b, 0, none⟩ = some u ∧ w.cell? ⟨b, 1, none⟩ = some v ∧ b < w.heap.size
theorem Two.new (w : World) (u v : Value) (t : TypeId) : Two (w.alloc (.cells #[u, v] t)) w.heap.size u v := by
  have h := World.rowIs_alloc w #[u, v] t (fun i => if i = 0 then u else v) (fun i hi => by simp at hi; match i, hi with | 0, _ => rfl | 1, _ => rfl)
  exact ⟨h.cell (by simp), h.cell (by simp), by simp⟩
theorem Two.alloc {w : World} {b : Nat} {u v : Value} (h : Two w b u v) (o : Obj) : Two (w.alloc o) b u v := ⟨(cell_alloc_lt' h.2.2).trans h.1, (cell_alloc_lt' h.2.2).trans h.2.1, by have := h.2.2; simp; omega⟩

set_option maxRecDepth 100000 in
set_option maxHeartbeats 1600000 in
theorem sMomentOf_any (A : Option Addr) (n c : Nat) (zs : List Int) (w : World) (h : RecsAt w w.heap.size 2 A n zs) (hn : n ≤ 1048576) :
    Calls Try.prog 92 #[.agg #[.slice A n c]] w fun e w' => e = .returned (.int .i64 (overI facX zs n)) ∧ Below w.heap.size w w' := by
  have HA := Lib.hid ((Below.refl w.heap.size w).alloc (Nat.le_refl _) (.cells #[.slice A n c] 142))
  have H := Lib.hid h
  cases hs : stoneB zs n
  · have HF := Lib.hid (overI_f (F := facX) hs)
    go_enter Try.func92, Try.ntmps92
    go_wp2
    go_loopw [3, 4] (fun s i wr => s = .int .i64 0 ∧ i = .int .i64 0 ∧ wr.cell? ⟨w.heap.size, 0, none⟩ = some (.slice A n c) ∧ Below w.heap.size w wr) (fun _ i _ => n - (intOf i).toNat)
    case atStart => exact ⟨rfl, rfl, cell_new0 _ _ _, HA.out⟩
    case round =>
      clear HA
      obtain ⟨rfl, rfl, hbox, hb⟩ := hrel
      have HB := Lib.hid hb
      by_cases h0 : n = 0
      · subst h0
        clear hb
        go_wp2
        go_ret
        exact ⟨ret_int HF.out.symm, HB.out⟩
      · have hpos : (0 : Int) < (n : Int) := by omega
        have hpos' : 0 < n := by omega
        have r1 := (H.out.below hb).mono hb.size
        clear hb h0
        go_wp2_with fail
        refine (sStoneOk_any _ _ _ zs _ r1).mono ?_
        rw [hs]
        rintro e w1 ⟨rfl, hb1⟩
        have HB1 := Lib.hid (HB.out.trans (hb1.mono HB.out.size))
        clear hb1
        go_wp2
        go_ret
        exact ⟨ret_int HF.out.symm, HB1.out⟩
  · have ho := stoneB_out hs
    have HT := Lib.hid (overI_t (F := facX) hs)
    have hn3 := ho.1.1
    have hn6 := ho.1.2
    have HPT := Lib.hid ho.2.1
    have HBD := Lib.hid (overTo_bd facX_ok ho.2.1)
    obtain ⟨b, off, rfl, hbB, hc⟩ := h.2 (by omega)
    have HC := Lib.hid hc
    clear hc h ho
    go_enter Try.func92, Try.ntmps92
    go_wp2
    go_loopw [3, 4] (fun s i wr => ∃ j : Nat, j ≤ n ∧ i = .int .i64 j ∧ s = .int .i64 (overTo facX zs n j) ∧ wr.cell? ⟨w.heap.size, 0, none⟩ = some (.slice (some ⟨b, off, none⟩) n c) ∧ Below w.heap.size w wr) (fun _ i _ => n - (intOf i).toNat)
    case atStart => exact ⟨0, Nat.zero_le _, rfl, rfl, cell_new0 _ _ _, HA.out⟩
    case round =>
      clear HA
      obtain ⟨j, hj, rfl, rfl, hbox, hb⟩ := hrel
      have HB := Lib.hid hb
      have hgl := World.block_lt_of_cell? _ _ hbox
      simp only at hgl
      by_cases hlt : j < n
      · have r0 := (H.out.below hb).mono hb.size
        have hji : (j : Int) < (n : Int) := by omega
        clear hb
        go_wp2_with fail
        refine (sStoneOk_any _ _ _ zs _ r0).mono ?_
        rw [hs]
        rintro e w1 ⟨rfl, hb1⟩
        have hb := HB.out.trans (hb1.mono HB.out.size)
        have hbox1 := (hb1.cell (p := ⟨w.heap.size, 0, none⟩) hgl).trans hbox
        have hgl1 : w.heap.size < w1.heap.size := by have := hb1.size; omega
        have HB1 := Lib.hid hb
        have hm1 : (j + 1) % n < n := Nat.mod_lt _ (by omega)
        obtain ⟨x0, x1⟩ := ptCells (fun i hi => (hb.cell (by exact hbB)).trans (HC.out i hi)) hlt
        obtain ⟨y0, y1⟩ := ptCells (fun i hi => (hb.cell (by exact hbB)).trans (HC.out i hi)) hm1
        have hz1 := hb.size
        clear hb hb1 hbox hgl r0
        have r1 : Int.tmod ((j : Int) + 1) (n : Int) = (((j + 1) % n : Nat) : Int) := rem_nat (j + 1) n
        have hpk := HPT.out j hlt
        have hp1 := HPT.out _ hm1
        have HST := Lib.hid (show overTo facX zs n (j + 1) = overTo facX zs n j + part facX zs j ((j + 1) % n) from rfl)
        have hb0 := HBD.out j (by omega)
        unfold ptA at hpk hp1
        have hcr := crossI_bd hpk hp1
        have HPB := part_bd facX_ok (zs := zs) (i := j) (j := (j + 1) % n) hpk hp1
        have hx1 := facX_ok _ _ _ _ hpk hp1
        rw [part_facX] at HST HPB
        unfold facX at hx1
        generalize (j + 1) % n = j1 at *
        generalize overTo facX zs n j = S at *
        have i1 : IntKind.i64.wrap ((j : Int) + 1) = (j : Int) + 1 := IntWalk.i64_in _ (by omega)
        have i3 : IntKind.i64.wrap (j1 : Int) = (j1 : Int) := IntWalk.i64_in _ (by omega)
        have i6 : (j1 : Int) < (n : Int) := by omega
        have i8 : ¬ n = 0 := by omega
        have i9 : ¬ (n : Int) = 0 := by omega
        have i10 : ((n : Int) == 0) = false := by simp; omega
        have i11 : (0 : Int) ≤ (j : Int) := by omega
        have i12 : (0 : Int) ≤ (j1 : Int) := by omega
        have e4 : IntKind.i64.wrap (nth zs (j * 2) + nth zs (j1 * 2)) = nth zs (j * 2) + nth zs (j1 * 2) := IntWalk.i64_in _ (by omega)
        have z0 : (w1.alloc (.cells #[.int .i64 (nth zs (j * 2)), .int .i64 (nth zs (j * 2 + 1))] 65)).cell? ⟨w.heap.size, 0, none⟩ = some (.slice (some ⟨b, off, none⟩) n c) := (cell_alloc_lt' (by omega)).trans hbox1
        have z1 : (w1.alloc (.cells #[.int .i64 (nth zs (j * 2)), .int .i64 (nth zs (j * 2 + 1))] 65)).cell? ⟨b, off + j1 * 2, none⟩ = some (.int .i64 (nth zs (j1 * 2))) := (cell_alloc_lt' (by omega)).trans y0
        have z2 : (w1.alloc (.cells #[.int .i64 (nth zs (j * 2)), .int .i64 (nth zs (j * 2 + 1))] 65)).cell? ⟨b, off + j1 * 2 + 1, none⟩ = some (.int .i64 (nth zs (j1 * 2 + 1))) := (cell_alloc_lt' (by omega)).trans y1
        have HB2 := Lib.hid ((HB1.out.alloc hz1 (.cells #[.int .i64 (nth zs (j * 2)), .int .i64 (nth zs (j * 2 + 1))] 65)).drew.alloc (by simp; omega) (.cells #[.int .i64 (nth zs (j1 * 2)), .int .i64 (nth zs (j1 * 2 + 1))] 65))
        have HXA : Hid (Two ((w1.alloc (.cells #[.int .i64 (nth zs (j * 2)), .int .i64 (nth zs (j * 2 + 1))] 65)).drew.alloc (.cells #[.int .i64 (nth zs (j1 * 2)), .int .i64 (nth zs (j1 * 2 + 1))] 65)) w1.heap.size (.int .i64 (nth zs (j * 2))) (.int .i64 (nth zs (j * 2 + 1))) ∧
            Two ((w1.alloc (.cells #[.int .i64 (nth zs (j * 2)), .int .i64 (nth zs (j * 2 + 1))] 65)).drew.alloc (.cells #[.int .i64 (nth zs (j1 * 2)), .int .i64 (nth zs (j1 * 2 + 1))] 65)) (w1.heap.size + 1) (.int .i64 (nth zs (j1 * 2))) (.int .i64 (nth zs (j1 * 2 + 1)))) := by
          have h := Two.new (w1.alloc (.cells #[.int .i64 (nth zs (j * 2)), .int .i64 (nth zs (j * 2 + 1))] 65)).drew (.int .i64 (nth zs (j1 * 2))) (.int .i64 (nth zs (j1 * 2 + 1))) 65
          rw [World.size_drew, World.size_alloc] at h
          exact ⟨(show Two (w1.alloc _).drew _ _ _ from Two.new w1 _ _ _).alloc _, h⟩
        have hbx7 : ((w1.alloc (.cells #[.int .i64 (nth zs (j * 2)), .int .i64 (nth zs (j * 2 + 1))] 65)).drew.alloc (.cells #[.int .i64 (nth zs (j1 * 2)), .int .i64 (nth zs (j1 * 2 + 1))] 65)).cell? ⟨w.heap.size, 0, none⟩ = some (.slice (some ⟨b, off, none⟩) n c) := (cell_alloc_lt' (by simp; omega)).trans z0
        clear y0 y1 HB1
        have e6 : IntKind.i64.wrap ((nth zs (j * 2) + nth zs (j1 * 2)) * crossI (nth zs (j * 2)) (nth zs (j * 2 + 1)) (nth zs (j1 * 2)) (nth zs (j1 * 2 + 1))) = (nth zs (j * 2) + nth zs (j1 * 2)) * crossI (nth zs (j * 2)) (nth zs (j * 2 + 1)) (nth zs (j1 * 2)) (nth zs (j1 * 2 + 1)) := IntWalk.i64_in _ (by omega)
        have e7 : IntKind.i64.wrap (S + (nth zs (j * 2) + nth zs (j1 * 2)) * crossI (nth zs (j * 2)) (nth zs (j * 2 + 1)) (nth zs (j1 * 2)) (nth zs (j1 * 2 + 1))) = S + (nth zs (j * 2) + nth zs (j1 * 2)) * crossI (nth zs (j * 2)) (nth zs (j * 2 + 1)) (nth zs (j1 * 2)) (nth zs (j1 * 2 + 1)) := IntWalk.i64_in _ (by omega)
        clear HPB hx1 hcr hb0
        go_wp2
        go_region_held3 (fun w' => w'.cell? ⟨w.heap.size, 0, none⟩ = some (.slice (some ⟨b, off, none⟩) n c) ∧ w'.cell? ⟨b, off + j1 * 2, none⟩ = some (.int .i64 (nth zs (j1 * 2))) ∧ w'.cell? ⟨b, off + j1 * 2 + 1, none⟩ = some (.int .i64 (nth zs (j1 * 2 + 1))))
          (first | exact ⟨z0, z1, z2⟩ | exact ⟨(cell_alloc_lt' (by simp; omega)).trans z0, (cell_alloc_lt' (by simp; omega)).trans z1, (cell_alloc_lt' (by simp; omega)).trans z2⟩) (fail)
        clear z0 z1 z2 x0 x1
        have a0 := HXA.out.1.1
        have a1 := HXA.out.1.2.1
        have b0 := HXA.out.2.1
        have b1 := HXA.out.2.2.1
        go_wp2
        go_region_held3 (fun w' => w'.cell? ⟨w1.heap.size, 0, none⟩ = some (.int .i64 (nth zs (j * 2))) ∧ w'.cell? ⟨w1.heap.size, 1, none⟩ = some (.int .i64 (nth zs (j * 2 + 1))) ∧ w'.cell? ⟨w1.heap.size + 1, 0, none⟩ = some (.int .i64 (nth zs (j1 * 2))) ∧ w'.cell? ⟨w1.heap.size + 1, 1, none⟩ = some (.int .i64 (nth zs (j1 * 2 + 1))))
          (first | exact ⟨a0, a1, b0, b1⟩ | exact ⟨(hcc _ _ (by first | (simp; done) | (simp; omega))).trans a0, (hcc _ _ (by first | (simp; done) | (simp; omega))).trans a1, (hcc _ _ (by first | (simp; done) | (simp; omega))).trans b0, (hcc _ _ (by first | (simp; done) | (simp; omega))).trans b1⟩)
          ((go_at_call 105; refine (l04Cross_any _ _ _ _ _ hpk hp1).mono ?_; rintro e w2 ⟨rfl, hb2⟩; obtain ⟨hcc, hff⟩ := bcell hb2))
        have HB3 := Lib.hid (HB2.out.drew.trans (hb2.mono (by simp; omega)))
        have hbox2 := (hb2.cell (p := ⟨w.heap.size, 0, none⟩) (by simp; omega)).trans hbx7
        clear hcc hff hb2 a0 a1 b0 b1 hbx7
        go_wp2
        go_roundw
        case rel => exact ⟨j + 1, by omega, by go_num, by rw [HST.out], hbox2, HB3.out⟩
        case measure => first | (simp [intOf]; done) | (simp [intOf]; omega)
      · obtain rfl : j = n := by omega
        clear hb
        go_wp2
        go_ret
        exact ⟨ret_int HT.out.symm, HB.out⟩
end Go.Proofs.Ytdjhiegolojoaaa
