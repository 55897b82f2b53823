/-
  Texts that the law stands on, part 19.
-/
import Derived.Test.YtbpnbhemdbgmjaaGreatM18
import Derived.Deep.RegionHeld3
import Derived.Deep.QuietTactic
import Derived.BigQuiet
import Derived.BigRegion
import Derived.IntWalk
section
namespace Go.Proofs.YtbpnbhemdbgmjaaGreat.X
open Go.RowKit
set_option linter.unusedSimpArgs false
section
variable {P : Program} {ops : Array Oper} {Q : Exit → Act → World → Prop} {md : Region.Mode}
theorem take_held {i d : Nat} {oi : Oper} {v : Value} {fuel : Nat} {listed : Array Bool} {a : Act} {w : World} (hi : ops[i]? = some oi) (hd : oi.dst = some d)
    (hs : Region.noSelect ops = true) (hf : Region.free md ops listed i = true) (hr : (Region.ready md ops listed).contains i = true) (hQ : ∀ c a w, Q (.panic c) (a.put (some d) v) w → Q (.panic c) a w)
    (hw : Region.wanted oi (yielded ops a.tmps) = true) (hy : ∀ w, True → (execOp a.eval oi).run P w = .ok (.value v) w)
    (h : wpAnyH P md ops Q (fun _ => True) fuel (listed.setIfInBounds i true) (a.put (some d) v) w) : wpAnyH P md ops Q (fun _ => True) (fuel + 1) listed a w :=
  wpAnyH_take (v := v) hi hs hf hr (by rw [hd]; exact hQ) (Or.inl ⟨hw, hy⟩) trivial (by rw [hd]; exact h)
theorem skip_held {i d : Nat} {oi : Oper} {fuel : Nat} {listed : Array Bool} {a : Act} {w : World} (hi : ops[i]? = some oi) (hd : oi.dst = some d)
    (hs : Region.noSelect ops = true) (hf : Region.free md ops listed i = true) (hr : (Region.ready md ops listed).contains i = true) (hQ : ∀ c a w, Q (.panic c) (a.put (some d) undef) w → Q (.panic c) a w)
    (hw : Region.wanted oi (yielded ops a.tmps) = false)
    (h : wpAnyH P md ops Q (fun _ => True) fuel (listed.setIfInBounds i true) (a.put (some d) undef) w) : wpAnyH P md ops Q (fun _ => True) (fuel + 1) listed a w :=
  wpAnyH_take (v := undef) hi hs hf hr (by rw [hd]; exact hQ) (Or.inr ⟨hw, rfl⟩) trivial (by rw [hd]; exact h)
end
theorem cell_new0 (w : World) (u : Value) (t : TypeId) : (w.alloc (.cells #[u] t)).cell? ⟨w.heap.size, 0, none⟩ = some u := World.rowIs.cell (World.rowIs_alloc w #[u] t (fun _ => u) (fun i hi => by simp at hi; subst hi; rfl)) (by simp)
theorem rem_nat (a n : Nat) : Int.tmod (a : Int) (n : Int) = ((a % n : Nat) : Int) := by rw [Int.tmod_eq_emod_of_nonneg (by omega)]; rfl
theorem ptCells {wr : World} {b off n j : Nat} {zs : List Int} (hc : ∀ i, i < n * 2 → wr.cell? ⟨b, off + i, none⟩ = some (.int .i64 (nth zs i))) (hj : j < n) :
    wr.cell? ⟨b, off + j * 2, none⟩ = some (.int .i64 (nth zs (j * 2))) ∧ wr.cell? ⟨b, off + j * 2 + 1, none⟩ = some (.int .i64 (nth zs (j * 2 + 1))) :=
  ⟨hc (j * 2) (by omega), by have := hc (j * 2 + 1) (by omega); rwa [← Nat.add_assoc] at this⟩
set_option maxHeartbeats 1000000 in
theorem sStoneOk_any (A : Option Addr) (n c : Nat) (zs : List Int) (w : World) (h : RecsAt w w.heap.size 2 A n zs) :
    Calls Tryzx.prog 173 #[.agg #[.slice A n c]] w fun e w' => e = .returned (.bool (stoneB zs n)) ∧ Below w.heap.size w w' := by
  have HA := Lib.hid ((Below.refl w.heap.size w).alloc (Nat.le_refl _) (.cells #[.slice A n c] 150))
  cases hB : inB (n : Int) 3 6
  · have HF := Lib.hid (stoneB_f1 (zs := zs) hB)
    go_enter Tryzx.func173, Tryz.ntmps173
    go_wp2_with (go_at_call 126; refine (l01In_any _ _ _ _).mono ?_; rintro e w' ⟨rfl, rfl⟩)
    go_ret
    exact ⟨ret_bool HF.out.symm, HA.out⟩
  · have hn := inB_iff.1 hB
    have hn3 : 3 ≤ n := by omega
    have hn6 : n ≤ 6 := by omega
    clear hn
    obtain ⟨b, off, rfl, hbB, hc⟩ := h.2 (by omega)
    have HC := Lib.hid hc
    clear h hc
    go_enter Tryzx.func173, Tryz.ntmps173
    go_wp2_with (go_at_call 126; refine (l01In_any _ _ _ _).mono ?_; rintro e w' ⟨rfl, rfl⟩)
    go_loopw [4] (fun i wr => ∃ k : Nat, k ≤ n ∧ i = .int .i64 k ∧ ptsTo zs k ∧ wr.cell? ⟨w.heap.size, 0, none⟩ = some (.slice (some ⟨b, off, none⟩) n c) ∧ Below w.heap.size w wr) (fun i _ => n - (intOf i).toNat)
    case atStart => exact ⟨0, Nat.zero_le _, rfl, ptsTo_0 _, cell_new0 _ _ _, HA.out⟩
    case round =>
      clear HA
      obtain ⟨k, hk, rfl, hag, hbox, hb⟩ := hrel
      have HB := Lib.hid hb
      have hgl := World.block_lt_of_cell? wr _ hbox
      simp only at hgl
      by_cases hlt : k < n
      · obtain ⟨x0, x1⟩ := ptCells (fun i hi => (hb.cell (by exact hbB)).trans (HC.out i hi)) hlt
        clear hb
        have HBOX := Lib.hid hbox
        cases hp : ptA zs k
        · have HF := Lib.hid (stoneB_f2 hlt hp)
          have hp' : ptB (nth zs (k * 2)) (nth zs (k * 2 + 1)) = false := hp
          go_wp2_with fail
          refine (pointOk_any _ _ _).mono ?_
          rw [hp']
          rintro e w1 ⟨rfl, hb1⟩
          have HB1 := Lib.hid (HB.out.trans (hb1.mono HB.out.size))
          go_wp2
          go_ret
          exact ⟨ret_bool HF.out.symm, HB1.out⟩
        · have HS := Lib.hid (ptsTo_step hag hp)
          have hp' : ptB (nth zs (k * 2)) (nth zs (k * 2 + 1)) = true := hp
          go_wp2_with fail
          refine (pointOk_any _ _ _).mono ?_
          rw [hp']
          rintro e w1 ⟨rfl, hb1⟩
          have HB1 := Lib.hid (HB.out.trans (hb1.mono HB.out.size))
          have HBX := Lib.hid ((hb1.cell (p := ⟨w.heap.size, 0, none⟩) hgl).trans HBOX.out)
          clear hb1
          go_wp2
          go_roundw
          case rel => exact ⟨k + 1, by omega, by go_num, HS.out, HBX.out, HB1.out⟩
          case measure => first | (simp [intOf]; done) | (simp [intOf]; omega)
      · obtain rfl : k = n := by omega
        have HPT := Lib.hid hag
        clear hb hag
        go_wp2
        go_loopw [5] (fun i wr => ∃ j : Nat, j ≤ k ∧ i = .int .i64 j ∧ turnTo zs k j ∧ wr.cell? ⟨w.heap.size, 0, none⟩ = some (.slice (some ⟨b, off, none⟩) k c) ∧ Below w.heap.size w wr) (fun i _ => k - (intOf i).toNat)
        case atStart => exact ⟨0, Nat.zero_le _, rfl, turnTo_0 _ _, hbox, HB.out⟩
        case round =>
          clear HB hgl hbox hlt hk
          obtain ⟨j, hj, rfl, hag, hbox, hb⟩ := hrel
          have HB := Lib.hid hb
          have hgl := World.block_lt_of_cell? _ _ hbox
          simp only at hgl
          by_cases hlt : j < k
          · have hm1 : (j + 1) % k < k := Nat.mod_lt _ (by omega)
            have hm2 : (j + 2) % k < k := Nat.mod_lt _ (by omega)
            obtain ⟨x0, x1⟩ := ptCells (fun i hi => (hb.cell (by exact hbB)).trans (HC.out i hi)) hlt
            obtain ⟨y0, y1⟩ := ptCells (fun i hi => (hb.cell (by exact hbB)).trans (HC.out i hi)) hm1
            obtain ⟨z0, z1⟩ := ptCells (fun i hi => (hb.cell (by exact hbB)).trans (HC.out i hi)) hm2
            obtain ⟨o0, o1⟩ := ptCells (fun i hi => (hb.cell (by exact hbB)).trans (HC.out i hi)) (show 0 < k by omega)
            clear hb
            have r1 : Int.tmod ((j : Int) + 1) (k : Int) = (((j + 1) % k : Nat) : Int) := rem_nat (j + 1) k
            have r2 : Int.tmod ((j : Int) + 2) (k : Int) = (((j + 2) % k : Nat) : Int) := rem_nat (j + 2) k
            have hpk := HPT.out j hlt
            have hp1 := HPT.out _ hm1
            have hp2 := HPT.out _ hm2
            have hp0 := HPT.out 0 (by omega)
            have HTA := Lib.hid (turnB_f1 (zs := zs) (n := k) (k := j))
            have HTB := Lib.hid (turnB_f2 (zs := zs) (n := k) (k := j))
            have HTC := Lib.hid (turnB_t1 (zs := zs) (n := k) (k := j))
            have HTD := Lib.hid (turnB_t2 (zs := zs) (n := k) (k := j))
            generalize (j + 1) % k = j1 at *
            generalize (j + 2) % k = j2 at *
            have hsd : sd zs j j1 j2 = sideI (nth zs (j * 2)) (nth zs (j * 2 + 1)) (nth zs (j1 * 2)) (nth zs (j1 * 2 + 1)) (nth zs (j2 * 2)) (nth zs (j2 * 2 + 1)) := rfl
            have hbd := sideI_bd hpk hp1 hp2
            unfold ptA at hpk hp1 hp2 hp0
            have i1 : IntKind.i64.wrap ((j : Int) + 1) = (j : Int) + 1 := IntWalk.i64_in _ (by omega)
            have i2 : IntKind.i64.wrap ((j : Int) + 2) = (j : Int) + 2 := IntWalk.i64_in _ (by omega)
            have i3 : IntKind.i64.wrap (j1 : Int) = (j1 : Int) := IntWalk.i64_in _ (by omega)
            have i4 : IntKind.i64.wrap (j2 : Int) = (j2 : Int) := IntWalk.i64_in _ (by omega)
            have i5 : (j : Int) < (k : Int) := by omega
            have i6 : (j1 : Int) < (k : Int) := by omega
            have i7 : (j2 : Int) < (k : Int) := by omega
            have i8 : ¬ k = 0 := by omega
            have i9 : ¬ (k : Int) = 0 := by omega
            have i10 : ((k : Int) == 0) = false := by simp; omega
            by_cases hneg : sd zs j j1 j2 ≤ 0
            · have HF := Lib.hid (stoneB_f3 hlt (HTA.out hneg))
              rw [hsd] at hneg
              clear hsd
              go_wp2
              go_region_held3 (fun w' => w'.cell? ⟨w.heap.size, 0, none⟩ = some (.slice (some ⟨b, off, none⟩) k c) ∧ (w'.cell? ⟨b, off + j * 2, none⟩ = some (.int .i64 (nth zs (j * 2))) ∧ w'.cell? ⟨b, off + j * 2 + 1, none⟩ = some (.int .i64 (nth zs (j * 2 + 1)))) ∧ (w'.cell? ⟨b, off + j1 * 2, none⟩ = some (.int .i64 (nth zs (j1 * 2))) ∧ w'.cell? ⟨b, off + j1 * 2 + 1, none⟩ = some (.int .i64 (nth zs (j1 * 2 + 1)))) ∧ (w'.cell? ⟨b, off + j2 * 2, none⟩ = some (.int .i64 (nth zs (j2 * 2))) ∧ w'.cell? ⟨b, off + j2 * 2 + 1, none⟩ = some (.int .i64 (nth zs (j2 * 2 + 1))))) (first | (simp [*]; done) | (refine ⟨?_, ⟨?_, ?_⟩, ⟨?_, ?_⟩, ⟨?_, ?_⟩⟩ <;> (rw [hcc _ _ (by simp <;> omega)]; simp [*]))) ((go_at_call 138; refine (l02Side_any _ _ _ _ _ _ _ hpk hp1 hp2).mono ?_; rintro e w1 ⟨rfl, hb1⟩; obtain ⟨hcc, hff⟩ := bcell hb1))
              have HB1 := Lib.hid (HB.out.drew.trans (hb1.mono (by have := HB.out.size; simp; omega)))
              have HBX : Hid (w1.cell? ⟨w.heap.size, 0, none⟩ = some (.slice (some ⟨b, off, none⟩) k c)) := (hb1.cell (p := ⟨w.heap.size, 0, none⟩) (by simp; omega)).trans hbox
              have hgl1 : w.heap.size < w1.heap.size := by have := hb1.size; simp at this; omega
              clear hcc hff hb1
              go_wp2
              go_ret
              exact ⟨ret_bool HF.out.symm, HB1.out⟩
            · have hpos : 0 < sd zs j j1 j2 := by omega
              by_cases hlast : j + 1 < k
              · obtain ⟨v0, v1⟩ := ptCells (fun i hi => (HB.out.cell (by exact hbB)).trans (HC.out i hi)) hlast
                have hpn := HPT.out _ hlast
                unfold ptA at hpn
                simp only [Nat.zero_mul, Nat.add_zero, Nat.zero_add] at o0 o1 hp0
                have hsd2 : sd zs 0 j (j + 1) = sideI (nth zs 0) (nth zs 1) (nth zs (j * 2)) (nth zs (j * 2 + 1)) (nth zs ((j + 1) * 2)) (nth zs ((j + 1) * 2 + 1)) := rfl
                have i11 : (j : Int) + 1 < (k : Int) := by omega
                have i12 : (0 : Int) < (k : Int) := by omega
                have i13 : ((j : Int) + 1).toNat = j + 1 := by omega
                have i14 : (0 : Int) ≤ (j : Int) + 1 := by omega
                have i15 : 0 < k := by omega
                by_cases hneg2 : sd zs 0 j (j + 1) < 0
                · have HF := Lib.hid (stoneB_f3 hlt (HTB.out hlast hneg2))
                  rw [hsd] at hneg hpos
                  rw [hsd2] at hneg2
                  clear hsd hsd2
                  go_wp2
                  go_region_held3 (fun w' => w'.cell? ⟨w.heap.size, 0, none⟩ = some (.slice (some ⟨b, off, none⟩) k c) ∧ (w'.cell? ⟨b, off + j * 2, none⟩ = some (.int .i64 (nth zs (j * 2))) ∧ w'.cell? ⟨b, off + j * 2 + 1, none⟩ = some (.int .i64 (nth zs (j * 2 + 1)))) ∧ (w'.cell? ⟨b, off + j1 * 2, none⟩ = some (.int .i64 (nth zs (j1 * 2))) ∧ w'.cell? ⟨b, off + j1 * 2 + 1, none⟩ = some (.int .i64 (nth zs (j1 * 2 + 1)))) ∧ (w'.cell? ⟨b, off + j2 * 2, none⟩ = some (.int .i64 (nth zs (j2 * 2))) ∧ w'.cell? ⟨b, off + j2 * 2 + 1, none⟩ = some (.int .i64 (nth zs (j2 * 2 + 1))))) (first | (simp [*]; done) | (refine ⟨?_, ⟨?_, ?_⟩, ⟨?_, ?_⟩, ⟨?_, ?_⟩⟩ <;> (rw [hcc _ _ (by simp <;> omega)]; simp [*]))) ((go_at_call 138; refine (l02Side_any _ _ _ _ _ _ _ hpk hp1 hp2).mono ?_; rintro e w1 ⟨rfl, hb1⟩; obtain ⟨hcc, hff⟩ := bcell hb1))
                  have HB1 := Lib.hid (HB.out.drew.trans (hb1.mono (by have := HB.out.size; simp; omega)))
                  have HBX : Hid (w1.cell? ⟨w.heap.size, 0, none⟩ = some (.slice (some ⟨b, off, none⟩) k c)) := (hb1.cell (p := ⟨w.heap.size, 0, none⟩) (by simp; omega)).trans hbox
                  have hgl1 : w.heap.size < w1.heap.size := by have := hb1.size; simp at this; omega
                  replace o0 := (hb1.cell (p := ⟨b, off, none⟩) (by simp; omega)).trans o0
                  replace o1 := (hb1.cell (p := ⟨b, off + 1, none⟩) (by simp; omega)).trans o1
                  replace x0 := (hb1.cell (p := ⟨b, off + j * 2, none⟩) (by simp; omega)).trans x0
                  replace x1 := (hb1.cell (p := ⟨b, off + j * 2 + 1, none⟩) (by simp; omega)).trans x1
                  replace v0 := (hb1.cell (p := ⟨b, off + (j + 1) * 2, none⟩) (by simp; omega)).trans v0
                  replace v1 := (hb1.cell (p := ⟨b, off + (j + 1) * 2 + 1, none⟩) (by simp; omega)).trans v1
                  replace hbox := HBX.out
                  clear hcc hff hb1 y0 y1 z0 z1
                  go_wp2
                  go_region_held3 (fun w' => w'.cell? ⟨w.heap.size, 0, none⟩ = some (.slice (some ⟨b, off, none⟩) k c) ∧ (w'.cell? ⟨b, off, none⟩ = some (.int .i64 (nth zs 0)) ∧ w'.cell? ⟨b, off + 1, none⟩ = some (.int .i64 (nth zs 1))) ∧ (w'.cell? ⟨b, off + j * 2, none⟩ = some (.int .i64 (nth zs (j * 2))) ∧ w'.cell? ⟨b, off + j * 2 + 1, none⟩ = some (.int .i64 (nth zs (j * 2 + 1)))) ∧ (w'.cell? ⟨b, off + (j + 1) * 2, none⟩ = some (.int .i64 (nth zs ((j + 1) * 2))) ∧ w'.cell? ⟨b, off + (j + 1) * 2 + 1, none⟩ = some (.int .i64 (nth zs ((j + 1) * 2 + 1))))) (first | (simp [*]; done) | (refine ⟨?_, ⟨?_, ?_⟩, ⟨?_, ?_⟩, ⟨?_, ?_⟩⟩ <;> (rw [hcc _ _ (by simp <;> omega)]; simp [*]))) ((go_at_call 138; refine (l02Side_any _ _ _ _ _ _ _ hp0 hpk hpn).mono ?_; rintro e w2 ⟨rfl, hb2⟩; obtain ⟨hcc, hff⟩ := bcell hb2))
                  have HB2 := Lib.hid (HB1.out.drew.trans (hb2.mono (by have := HB1.out.size; simp; omega)))
                  have HBX2 : Hid (w2.cell? ⟨w.heap.size, 0, none⟩ = some (.slice (some ⟨b, off, none⟩) k c)) := (hb2.cell (p := ⟨w.heap.size, 0, none⟩) (by simp; omega)).trans HBX.out
                  clear hcc hff hb2
                  go_wp2
                  go_ret
                  exact ⟨ret_bool HF.out.symm, HB2.out⟩
                · have HS := Lib.hid (turnTo_step hag (HTD.out hpos hlast (by omega)))
                  rw [hsd] at hneg hpos
                  rw [hsd2] at hneg2
                  clear hsd hsd2
                  go_wp2
                  go_region_held3 (fun w' => w'.cell? ⟨w.heap.size, 0, none⟩ = some (.slice (some ⟨b, off, none⟩) k c) ∧ (w'.cell? ⟨b, off + j * 2, none⟩ = some (.int .i64 (nth zs (j * 2))) ∧ w'.cell? ⟨b, off + j * 2 + 1, none⟩ = some (.int .i64 (nth zs (j * 2 + 1)))) ∧ (w'.cell? ⟨b, off + j1 * 2, none⟩ = some (.int .i64 (nth zs (j1 * 2))) ∧ w'.cell? ⟨b, off + j1 * 2 + 1, none⟩ = some (.int .i64 (nth zs (j1 * 2 + 1)))) ∧ (w'.cell? ⟨b, off + j2 * 2, none⟩ = some (.int .i64 (nth zs (j2 * 2))) ∧ w'.cell? ⟨b, off + j2 * 2 + 1, none⟩ = some (.int .i64 (nth zs (j2 * 2 + 1))))) (first | (simp [*]; done) | (refine ⟨?_, ⟨?_, ?_⟩, ⟨?_, ?_⟩, ⟨?_, ?_⟩⟩ <;> (rw [hcc _ _ (by simp <;> omega)]; simp [*]))) ((go_at_call 138; refine (l02Side_any _ _ _ _ _ _ _ hpk hp1 hp2).mono ?_; rintro e w1 ⟨rfl, hb1⟩; obtain ⟨hcc, hff⟩ := bcell hb1))
                  have HB1 := Lib.hid (HB.out.drew.trans (hb1.mono (by have := HB.out.size; simp; omega)))
                  have HBX : Hid (w1.cell? ⟨w.heap.size, 0, none⟩ = some (.slice (some ⟨b, off, none⟩) k c)) := (hb1.cell (p := ⟨w.heap.size, 0, none⟩) (by simp; omega)).trans hbox
                  have hgl1 : w.heap.size < w1.heap.size := by have := hb1.size; simp at this; omega
                  replace o0 := (hb1.cell (p := ⟨b, off, none⟩) (by simp; omega)).trans o0
                  replace o1 := (hb1.cell (p := ⟨b, off + 1, none⟩) (by simp; omega)).trans o1
                  replace x0 := (hb1.cell (p := ⟨b, off + j * 2, none⟩) (by simp; omega)).trans x0
                  replace x1 := (hb1.cell (p := ⟨b, off + j * 2 + 1, none⟩) (by simp; omega)).trans x1
                  replace v0 := (hb1.cell (p := ⟨b, off + (j + 1) * 2, none⟩) (by simp; omega)).trans v0
                  replace v1 := (hb1.cell (p := ⟨b, off + (j + 1) * 2 + 1, none⟩) (by simp; omega)).trans v1
                  replace hbox := HBX.out
                  clear hcc hff hb1 y0 y1 z0 z1
                  go_wp2
                  go_region_held3 (fun w' => w'.cell? ⟨w.heap.size, 0, none⟩ = some (.slice (some ⟨b, off, none⟩) k c) ∧ (w'.cell? ⟨b, off, none⟩ = some (.int .i64 (nth zs 0)) ∧ w'.cell? ⟨b, off + 1, none⟩ = some (.int .i64 (nth zs 1))) ∧ (w'.cell? ⟨b, off + j * 2, none⟩ = some (.int .i64 (nth zs (j * 2))) ∧ w'.cell? ⟨b, off + j * 2 + 1, none⟩ = some (.int .i64 (nth zs (j * 2 + 1)))) ∧ (w'.cell? ⟨b, off + (j + 1) * 2, none⟩ = some (.int .i64 (nth zs ((j + 1) * 2))) ∧ w'.cell? ⟨b, off + (j + 1) * 2 + 1, none⟩ = some (.int .i64 (nth zs ((j + 1) * 2 + 1))))) (first | (simp [*]; done) | (refine ⟨?_, ⟨?_, ?_⟩, ⟨?_, ?_⟩, ⟨?_, ?_⟩⟩ <;> (rw [hcc _ _ (by simp <;> omega)]; simp [*]))) ((go_at_call 138; refine (l02Side_any _ _ _ _ _ _ _ hp0 hpk hpn).mono ?_; rintro e w2 ⟨rfl, hb2⟩; obtain ⟨hcc, hff⟩ := bcell hb2))
                  have HB2 := Lib.hid (HB1.out.drew.trans (hb2.mono (by have := HB1.out.size; simp; omega)))
                  have HBX2 : Hid (w2.cell? ⟨w.heap.size, 0, none⟩ = some (.slice (some ⟨b, off, none⟩) k c)) := (hb2.cell (p := ⟨w.heap.size, 0, none⟩) (by simp; omega)).trans HBX.out
                  clear hcc hff hb2
                  clear i13 r1 r2 i1 i2 i3 i4
                  go_wp2
                  go_roundw
                  case rel => exact ⟨j + 1, by omega, by go_num, HS.out, HBX2.out, HB2.out⟩
                  case measure => first | (simp [intOf]; done) | (simp [intOf]; omega)
              · have HS := Lib.hid (turnTo_step hag (HTC.out hpos hlast))
                have i11 : ¬ (j : Int) + 1 < (k : Int) := by omega
                rw [hsd] at hneg hpos
                clear hsd
                go_wp2
                go_region_held3 (fun w' => w'.cell? ⟨w.heap.size, 0, none⟩ = some (.slice (some ⟨b, off, none⟩) k c) ∧ (w'.cell? ⟨b, off + j * 2, none⟩ = some (.int .i64 (nth zs (j * 2))) ∧ w'.cell? ⟨b, off + j * 2 + 1, none⟩ = some (.int .i64 (nth zs (j * 2 + 1)))) ∧ (w'.cell? ⟨b, off + j1 * 2, none⟩ = some (.int .i64 (nth zs (j1 * 2))) ∧ w'.cell? ⟨b, off + j1 * 2 + 1, none⟩ = some (.int .i64 (nth zs (j1 * 2 + 1)))) ∧ (w'.cell? ⟨b, off + j2 * 2, none⟩ = some (.int .i64 (nth zs (j2 * 2))) ∧ w'.cell? ⟨b, off + j2 * 2 + 1, none⟩ = some (.int .i64 (nth zs (j2 * 2 + 1))))) (first | (simp [*]; done) | (refine ⟨?_, ⟨?_, ?_⟩, ⟨?_, ?_⟩, ⟨?_, ?_⟩⟩ <;> (rw [hcc _ _ (by simp <;> omega)]; simp [*]))) ((go_at_call 138; refine (l02Side_any _ _ _ _ _ _ _ hpk hp1 hp2).mono ?_; rintro e w1 ⟨rfl, hb1⟩; obtain ⟨hcc, hff⟩ := bcell hb1))
                have HB1 := Lib.hid (HB.out.drew.trans (hb1.mono (by have := HB.out.size; simp; omega)))
                have HBX : Hid (w1.cell? ⟨w.heap.size, 0, none⟩ = some (.slice (some ⟨b, off, none⟩) k c)) := (hb1.cell (p := ⟨w.heap.size, 0, none⟩) (by simp; omega)).trans hbox
                have hgl1 : w.heap.size < w1.heap.size := by have := hb1.size; simp at this; omega
                clear hcc hff hb1 x0 x1 y0 y1 z0 z1 hbox
                go_wp2
                refine wp_region_held_drew (S := fun _ => True) (by kernel_rfl) trivial (fun _ => ?_)
                refine take_held (i := 0) (d := 52) rfl rfl (by kernel_rfl) (by kernel_rfl) (by kernel_rfl) (fun _ _ _ h => h) (by kernel_rfl) (fun w _ => by go_simp; try rfl) ?_
                try simp only [Act.put, List.setIfInBounds_toArray, List.set_cons_zero, List.set_cons_succ]
                refine take_held (i := 1) (d := 53) rfl rfl (by kernel_rfl) (by kernel_rfl) (by kernel_rfl) (fun _ _ _ h => h) (by kernel_rfl) (fun w _ => by go_simp; try rfl) ?_
                try simp only [Act.put, List.setIfInBounds_toArray, List.set_cons_zero, List.set_cons_succ]
                refine take_held (i := 2) (d := 54) rfl rfl (by kernel_rfl) (by kernel_rfl) (by kernel_rfl) (fun _ _ _ h => h) (by kernel_rfl) (fun w _ => by go_simp; try rfl) ?_
                try simp only [Act.put, List.setIfInBounds_toArray, List.set_cons_zero, List.set_cons_succ]
                refine take_held (i := 3) (d := 55) (v := .bool false) rfl rfl (by kernel_rfl) (by kernel_rfl) (by kernel_rfl) (fun _ _ _ h => h) (by kernel_rfl) (fun w _ => by go_simp; try rfl) ?_
                try simp only [Act.put, List.setIfInBounds_toArray, List.set_cons_zero, List.set_cons_succ]
                refine take_held (i := 4) (d := 56) (v := .bool false) rfl rfl (by kernel_rfl) (by kernel_rfl) (by kernel_rfl) (fun _ _ _ h => h) (by kernel_rfl) (fun w _ => by go_simp; try rfl) ?_
                try simp only [Act.put, List.setIfInBounds_toArray, List.set_cons_zero, List.set_cons_succ]
                refine skip_held (i := 5) (d := 57) rfl rfl (by kernel_rfl) (by kernel_rfl) (by kernel_rfl) (fun _ _ _ h => h) (by kernel_rfl) ?_
                try simp only [Act.put, List.setIfInBounds_toArray, List.set_cons_zero, List.set_cons_succ]
                refine skip_held (i := 6) (d := 58) rfl rfl (by kernel_rfl) (by kernel_rfl) (by kernel_rfl) (fun _ _ _ h => h) (by kernel_rfl) ?_
                try simp only [Act.put, List.setIfInBounds_toArray, List.set_cons_zero, List.set_cons_succ]
                refine skip_held (i := 7) (d := 59) rfl rfl (by kernel_rfl) (by kernel_rfl) (by kernel_rfl) (fun _ _ _ h => h) (by kernel_rfl) ?_
                try simp only [Act.put, List.setIfInBounds_toArray, List.set_cons_zero, List.set_cons_succ]
                refine skip_held (i := 8) (d := 60) rfl rfl (by kernel_rfl) (by kernel_rfl) (by kernel_rfl) (fun _ _ _ h => h) (by kernel_rfl) ?_
                try simp only [Act.put, List.setIfInBounds_toArray, List.set_cons_zero, List.set_cons_succ]
                refine skip_held (i := 9) (d := 61) rfl rfl (by kernel_rfl) (by kernel_rfl) (by kernel_rfl) (fun _ _ _ h => h) (by kernel_rfl) ?_
                try simp only [Act.put, List.setIfInBounds_toArray, List.set_cons_zero, List.set_cons_succ]
                refine skip_held (i := 10) (d := 62) rfl rfl (by kernel_rfl) (by kernel_rfl) (by kernel_rfl) (fun _ _ _ h => h) (by kernel_rfl) ?_
                try simp only [Act.put, List.setIfInBounds_toArray, List.set_cons_zero, List.set_cons_succ]
                refine skip_held (i := 11) (d := 63) rfl rfl (by kernel_rfl) (by kernel_rfl) (by kernel_rfl) (fun _ _ _ h => h) (by kernel_rfl) ?_
                try simp only [Act.put, List.setIfInBounds_toArray, List.set_cons_zero, List.set_cons_succ]
                refine skip_held (i := 12) (d := 64) rfl rfl (by kernel_rfl) (by kernel_rfl) (by kernel_rfl) (fun _ _ _ h => h) (by kernel_rfl) ?_
                try simp only [Act.put, List.setIfInBounds_toArray, List.set_cons_zero, List.set_cons_succ]
                refine skip_held (i := 13) (d := 65) rfl rfl (by kernel_rfl) (by kernel_rfl) (by kernel_rfl) (fun _ _ _ h => h) (by kernel_rfl) ?_
                try simp only [Act.put, List.setIfInBounds_toArray, List.set_cons_zero, List.set_cons_succ]
                refine skip_held (i := 14) (d := 66) rfl rfl (by kernel_rfl) (by kernel_rfl) (by kernel_rfl) (fun _ _ _ h => h) (by kernel_rfl) ?_
                try simp only [Act.put, List.setIfInBounds_toArray, List.set_cons_zero, List.set_cons_succ]
                refine skip_held (i := 15) (d := 67) rfl rfl (by kernel_rfl) (by kernel_rfl) (by kernel_rfl) (fun _ _ _ h => h) (by kernel_rfl) ?_
                try simp only [Act.put, List.setIfInBounds_toArray, List.set_cons_zero, List.set_cons_succ]
                refine skip_held (i := 16) (d := 68) rfl rfl (by kernel_rfl) (by kernel_rfl) (by kernel_rfl) (fun _ _ _ h => h) (by kernel_rfl) ?_
                try simp only [Act.put, List.setIfInBounds_toArray, List.set_cons_zero, List.set_cons_succ]
                refine skip_held (i := 17) (d := 69) rfl rfl (by kernel_rfl) (by kernel_rfl) (by kernel_rfl) (fun _ _ _ h => h) (by kernel_rfl) ?_
                try simp only [Act.put, List.setIfInBounds_toArray, List.set_cons_zero, List.set_cons_succ]
                refine skip_held (i := 18) (d := 70) rfl rfl (by kernel_rfl) (by kernel_rfl) (by kernel_rfl) (fun _ _ _ h => h) (by kernel_rfl) ?_
                try simp only [Act.put, List.setIfInBounds_toArray, List.set_cons_zero, List.set_cons_succ]
                refine skip_held (i := 19) (d := 71) rfl rfl (by kernel_rfl) (by kernel_rfl) (by kernel_rfl) (fun _ _ _ h => h) (by kernel_rfl) ?_
                try simp only [Act.put, List.setIfInBounds_toArray, List.set_cons_zero, List.set_cons_succ]
                refine skip_held (i := 20) (d := 72) rfl rfl (by kernel_rfl) (by kernel_rfl) (by kernel_rfl) (fun _ _ _ h => h) (by kernel_rfl) ?_
                try simp only [Act.put, List.setIfInBounds_toArray, List.set_cons_zero, List.set_cons_succ]
                refine skip_held (i := 21) (d := 73) rfl rfl (by kernel_rfl) (by kernel_rfl) (by kernel_rfl) (fun _ _ _ h => h) (by kernel_rfl) ?_
                try simp only [Act.put, List.setIfInBounds_toArray, List.set_cons_zero, List.set_cons_succ]
                refine take_held (i := 22) (d := 74) rfl rfl (by kernel_rfl) (by kernel_rfl) (by kernel_rfl) (fun _ _ _ h => h) (by kernel_rfl) (fun w _ => by go_simp; try rfl) ?_
                try simp only [Act.put, List.setIfInBounds_toArray, List.set_cons_zero, List.set_cons_succ]
                refine wpAnyH_done (by kernel_rfl) ?_ _
                clear r1 r2 i1 i2 i3 i4
                go_wp2
                go_roundw
                case rel => exact ⟨j + 1, by omega, by go_num, HS.out, HBX.out, HB1.out.drew⟩
                case measure => first | (simp [intOf]; done) | (simp [intOf]; omega)
          · obtain rfl : j = k := by omega
            have HF := Lib.hid (stoneB_t hB HPT.out hag)
            clear hb
            go_wp2
            go_ret
            exact ⟨ret_bool HF.out.symm, HB.out⟩
end Go.Proofs.YtbpnbhemdbgmjaaGreat.X
end
