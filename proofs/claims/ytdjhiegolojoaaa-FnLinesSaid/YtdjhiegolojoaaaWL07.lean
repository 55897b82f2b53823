/-
  Contract: the weights and moments left of the joints, in the reference.
-/
import Derived.Test.YtdjhiegolojoaaaBoxS
import Derived.Test.YtdjhiegolojoaaaWMomS
import Derived.Test.YtdjhiegolojoaaaPLeft
import Derived.Test.YtdjhiegolojoaaaOwn2
import Derived.Test.YtdjhiegolojoaaaLawKit
import Derived.Deep.DeepCutAuto
namespace Go.Proofs.Ytdjhiegolojoaaa
open Go.RowKit
set_option linter.unusedSimpArgs false

/-- The first k sums. -/
def lwL (zs ls : List Int) (q k : Nat) : List Int := (List.range k).map (leftW zs ls q)
def lmL (zs ls : List Int) (q k : Nat) : List Int := (List.range k).map (leftM zs ls q)
theorem lwL_len (zs ls : List Int) (q k : Nat) : (lwL zs ls q k).length = k := by simp [lwL]
theorem lmL_len (zs ls : List Int) (q k : Nat) : (lmL zs ls q k).length = k := by simp [lmL]
theorem lwL_nth {zs ls : List Int} {q k j : Nat} (h : j < k) : nth (lwL zs ls q k) j = leftW zs ls q j := by simp [nth, lwL, List.getD, h]
theorem lmL_nth {zs ls : List Int} {q k j : Nat} (h : j < k) : nth (lmL zs ls q k) j = leftM zs ls q j := by simp [nth, lmL, List.getD, h]
theorem lwL_step (zs ls : List Int) (q k : Nat) : lwL zs ls q (k + 1) ++ [leftW zs ls q k + kwTo zs ls k q] = lwL zs ls q (k + 1 + 1) := by simp [lwL, List.range_succ, leftW]
theorem lmL_step (zs ls : List Int) (q k : Nat) : lmL zs ls q (k + 1) ++ [leftM zs ls q k + kmTo zs ls k q] = lmL zs ls q (k + 1 + 1) := by simp [lmL, List.range_succ, leftM]
def LeftPost (w : World) (zs ls : List Int) (q n : Nat) (e : Ending) (w' : World) : Prop :=
  ∃ A c A' c', e = .returned (.tuple #[.slice A n c, .slice A' n c']) ∧ IntsAt w' w'.heap.size A n (lwL zs ls q n) ∧ IntsAt w' w'.heap.size A' n (lmL zs ls q n) ∧ Below w.heap.size w w'
/-- .. with the rows themselves. -/
def LeftPostO (w : World) (zs ls : List Int) (q n : Nat) (e : Ending) (w' : World) : Prop :=
  ∃ A c A' c', e = .returned (.tuple #[.slice A n c, .slice A' n c']) ∧ OwnR w' (w.heap.size + 1) 3 1 (.slice A n c) n (lwL zs ls q n) ∧ OwnR w' (w.heap.size + 1) 3 1 (.slice A' n c') n (lmL zs ls q n) ∧ Below w.heap.size w w'
theorem OwnR.ints {w : World} {base : Nat} {E : TypeId} {A : Option Addr} {n c : Nat} {xs : List Int} (h : OwnR w base E 1 (.slice A n c) n xs) : IntsAt w w.heap.size A n xs := by
  have hr := h.recs
  refine ⟨by rw [hr.1, Nat.mul_one], fun hn => ?_⟩
  obtain ⟨b, off, e, hb, hc⟩ := hr.2 hn
  exact ⟨b, off, e, hb, fun k hk => hc k (by omega)⟩

/-- What is carried over the joints. -/
structure LRel (w : World) (zs ls : List Int) (q j : Nat) (va : Value) (v6 v7 : Value) (wr : World) : Prop where
  ws : OwnR wr (w.heap.size + 1) 3 1 v6 j (lwL zs ls q j)
  ms : OwnR wr (w.heap.size + 1) 3 1 v7 j (lmL zs ls q j)
  apart : ApartV v6 v7
  box : RowF wr w.heap.size 41 1 (fun _ => va)
  below : Below w.heap.size w wr
theorem LRel.after {w wr w' : World} {zs ls : List Int} {q j : Nat} {va v6 v7 : Value} (h : LRel w zs ls q j va v6 v7 wr) (hb : Below wr.heap.size wr w') : LRel w zs ls q j va v6 v7 w' :=
  ⟨h.ws.below hb, h.ms.below hb, h.apart, h.box.after hb, h.below.trans (hb.mono h.below.size)⟩
theorem LRel.drew {w wr : World} {zs ls : List Int} {q j : Nat} {va v6 v7 : Value} (h : LRel w zs ls q j va v6 v7 wr) : LRel w zs ls q j va v6 v7 wr.drew := ⟨h.ws, h.ms, h.apart, h.box.drew, below_drewN h.below 1⟩
theorem LRel.drewN {w wr : World} {zs ls : List Int} {q j : Nat} {va v6 v7 : Value} (h : LRel w zs ls q j va v6 v7 wr) (m : Nat) : LRel w zs ls q j va v6 v7 (wr.drewN m) := ⟨h.ws, h.ms, h.apart, h.box.drewN m, below_drewN h.below m⟩

set_option maxRecDepth 100000 in
set_option maxHeartbeats 3200000 in
theorem sLeftO_any (A : Option Addr) (n c : Nat) (zs : List Int) (B : Option Addr) (q d : Nat) (ls : List Int) (w : World) (h : RecsAt w w.heap.size 4 A n zs) (hl : RecsAt w w.heap.size 3 B q ls) (hL : loadsB zs n ls q = true) :
    Calls Try.prog 68 #[.agg #[.slice A n c], .slice B q d] w (LeftPostO w zs ls q n) := by
  obtain ⟨hA, hq6, hLA⟩ := loadsB_out hL
  obtain ⟨hn8, hpt⟩ := archB_out hA
  have HPT := Lib.hid hpt
  have HLA := Lib.hid hLA
  have HKB := Lib.hid (fun k i hi => kwTo_bd zs hLA hq6 k (i := i) hi)
  have HMB := Lib.hid (fun k i hi => kmTo_bd zs hLA hq6 k (i := i) hi)
  have HWB := Lib.hid (leftW_bd zs hLA hq6)
  have HNB := Lib.hid (leftM_bd zs hLA hq6)
  obtain ⟨b, off, rfl, hbB, hcell⟩ := h.2 (by omega)
  have HC := Lib.hid (fun j (hj : j < n) => jtCells hcell hj)
  have HLD := Lib.hid hl
  have HR0 : Hid (LRel w zs ls q 1 (.slice (some ⟨b, off, none⟩) n c) (.slice (some ⟨w.heap.size + 1, 0, none⟩) 1 1) (.slice (some ⟨w.heap.size + 1 + 1, 0, none⟩) 1 1) (((w.alloc (.cells #[.slice (some ⟨b, off, none⟩) n c] 41)).alloc (.cells #[.int .i64 0] 3)).alloc (.cells #[.int .i64 0] 3))) := by
    have e1 : (w.alloc (.cells #[.slice (some ⟨b, off, none⟩) n c] 41)).heap.size = w.heap.size + 1 := World.size_alloc _ _
    have e2 : ((w.alloc (.cells #[.slice (some ⟨b, off, none⟩) n c] 41)).alloc (.cells #[.int .i64 0] 3)).heap.size = w.heap.size + 1 + 1 := by rw [World.size_alloc, e1]
    have h1 := World.ownsRow_lit (base := w.heap.size + 1) (e := 3) (size := 1) (w.alloc (.cells #[.slice (some ⟨b, off, none⟩) n c] 41)) #[.int .i64 0] 1 (by omega) (by simp [maxLen]) (by simp)
    have h2 := World.ownsRow_lit (base := w.heap.size + 1) (e := 3) (size := 1) ((w.alloc (.cells #[.slice (some ⟨b, off, none⟩) n c] 41)).alloc (.cells #[.int .i64 0] 3)) #[.int .i64 0] 1 (by omega) (by simp [maxLen]) (by simp)
    rw [e1] at h1
    rw [e2] at h2
    refine ⟨⟨World.ownsRow.alloc h1 _, by simp [lwL]⟩, ⟨h2, by simp [lmL]⟩, ?_, ((rowF_new1S w _ _).alloc _).alloc _, (((Below.refl _ _).alloc (Nat.le_refl _) _).alloc (by simp) _).alloc (by simp; omega) _⟩
    intro k hk hk2
    simp [Value.ownBlock] at hk hk2
    omega
  clear hcell h hl hL hA hLA hpt
  go_enter Try.func68, Try.ntmps68
  go_wp2
  go_loopw [6, 7, 8] (fun v6 v7 v8 wr => ∃ k : Nat, k + 1 ≤ n ∧ v8 = .int .i64 ((k : Int) + 1) ∧ Hid (LRel w zs ls q (k + 1) (.slice (some ⟨b, off, none⟩) n c) v6 v7 wr)) (fun _ _ v8 _ => n - (intOf v8).toNat)
  case atStart => exact ⟨0, by omega, rfl, HR0⟩
  case round =>
    clear HR0
    obtain ⟨k, hk, rfl, HR⟩ := hrel
    obtain ⟨A6, c6, rfl, hc6⟩ := HR.out.ws.slice
    obtain ⟨A7, c7, rfl, hc7⟩ := HR.out.ms.slice
    have hz := HR.out.below.size
    have hbox : wr.cell? ⟨w.heap.size, 0, none⟩ = some (.slice (some ⟨b, off, none⟩) n c) := HR.out.box.cell (by omega)
    have hgl := HR.out.box.lt
    by_cases hlt : k + 1 < n
    · have hq := HC.out k (by omega)
      have hq2 := HC.out (k + 1) (by omega)
      have hbr : b < wr.heap.size := by omega
      have x0 := (HR.out.below.cell (p := ⟨b, off + k * 4, none⟩) hbB).trans hq.1
      have x1 := (HR.out.below.cell (p := ⟨b, off + k * 4 + 1, none⟩) hbB).trans hq.2.1
      have x2 := (HR.out.below.cell (p := ⟨b, off + k * 4 + 2, none⟩) hbB).trans hq.2.2.1
      have x3 := (HR.out.below.cell (p := ⟨b, off + k * 4 + 3, none⟩) hbB).trans hq.2.2.2
      have y0 := (HR.out.below.cell (p := ⟨b, off + (k + 1) * 4, none⟩) hbB).trans hq2.1
      have y1 := (HR.out.below.cell (p := ⟨b, off + (k + 1) * 4 + 1, none⟩) hbB).trans hq2.2.1
      have y2 := (HR.out.below.cell (p := ⟨b, off + (k + 1) * 4 + 2, none⟩) hbB).trans hq2.2.2.1
      have y3 := (HR.out.below.cell (p := ⟨b, off + (k + 1) * 4 + 3, none⟩) hbB).trans hq2.2.2.2
      have i1 : IntKind.i64.wrap (k : Int) = (k : Int) := IntWalk.i64_in _ (by omega)
      have i1' : IntKind.i64.wrap ((k : Int) + 1 - 1) = (k : Int) := by rw [Int.add_sub_cancel]; exact i1
      have i2 : (k : Int) < (n : Int) := by omega
      have i3 : (k : Int) + 1 < (n : Int) := by omega
      have i4 : (0 : Int) ≤ (k : Int) + 1 := by omega
      have i5 : ((k : Int) + 1).toNat = k + 1 := by omega
      have i6 : (0 : Int) ≤ (k : Int) := by omega
      have i7 : (k : Int) < (k : Int) + 1 := by omega
      have i8 : (k : Int) < ((k + 1 : Nat) : Int) := by omega
      have ne1 : wr.heap.size ≠ w.heap.size := by omega
      have ne2 : wr.heap.size ≠ b := by omega
      have HST : Hid (btwA zs k = btw (nth zs (k * 4)) (nth zs (k * 4 + 1)) (nth zs (k * 4 + 2)) (nth zs (k * 4 + 3)) (nth zs ((k + 1) * 4)) (nth zs ((k + 1) * 4 + 1)) (nth zs ((k + 1) * 4 + 2)) (nth zs ((k + 1) * 4 + 3))) := rfl
      have hS : stoneB (btw (nth zs (k * 4)) (nth zs (k * 4 + 1)) (nth zs (k * 4 + 2)) (nth zs (k * 4 + 3)) (nth zs ((k + 1) * 4)) (nth zs ((k + 1) * 4 + 1)) (nth zs ((k + 1) * 4 + 2)) (nth zs ((k + 1) * 4 + 3))) 4 = true := by
        have := HPT.out k (by omega)
        simp only [pairB, Bool.and_eq_true] at this
        exact this.1
      clear hq hq2
      obtain ⟨wk, rfl⟩ : ∃ wk : World, wk = wr := ⟨_, rfl⟩
      go_upto_region 6 with fail
      go_cut [9] (fun s9 wx => ∃ gs gq : Nat, s9 = .pointer (some ⟨gs, 0, none⟩) ∧ wk.heap.size ≤ gs ∧ Hid (Box wx gs (.slice (some ⟨gq, 0, none⟩) 4 4)) ∧ Hid (RecsAt wx wx.heap.size 2 (some ⟨gq, 0, none⟩) 4 (btwA zs k)) ∧ Hid (Below wk.heap.size wk wx))
      case first =>
        go_region_held3 (fun w' => w'.cell? ⟨w.heap.size, 0, none⟩ = some (.slice (some ⟨b, off, none⟩) n c) ∧ (w'.cell? ⟨b, off + k * 4, none⟩ = some (.int .i64 (nth zs (k * 4))) ∧ w'.cell? ⟨b, off + k * 4 + 1, none⟩ = some (.int .i64 (nth zs (k * 4 + 1))) ∧ w'.cell? ⟨b, off + k * 4 + 2, none⟩ = some (.int .i64 (nth zs (k * 4 + 2))) ∧ w'.cell? ⟨b, off + k * 4 + 3, none⟩ = some (.int .i64 (nth zs (k * 4 + 3)))) ∧ (w'.cell? ⟨b, off + (k + 1) * 4, none⟩ = some (.int .i64 (nth zs ((k + 1) * 4))) ∧ w'.cell? ⟨b, off + (k + 1) * 4 + 1, none⟩ = some (.int .i64 (nth zs ((k + 1) * 4 + 1))) ∧ w'.cell? ⟨b, off + (k + 1) * 4 + 2, none⟩ = some (.int .i64 (nth zs ((k + 1) * 4 + 2))) ∧ w'.cell? ⟨b, off + (k + 1) * 4 + 3, none⟩ = some (.int .i64 (nth zs ((k + 1) * 4 + 3))))) (first | exact ⟨hbox, ⟨x0, x1, x2, x3⟩, ⟨y0, y1, y2, y3⟩⟩ | (refine keepA (by assumption) (fun i => ?_) ?_ <;> first | exact cell_alloc_lt (by first | (simp; done) | (simp; omega) | omega) | exact (cell_alloc_lt (by first | (simp; done) | (simp; omega) | omega)).trans (cell_alloc_lt (by first | (simp; done) | (simp; omega) | omega)).symm | exact hcc _ _ (by first | (simp; done) | (simp; omega) | omega) | exact World.cell?_setCell_far _ _ _ _ (by first | (simp; done) | (simp; omega) | omega))) ((go_at_call 90; refine (sBetween_any _ _ _ _ _ _ _ _ _).mono ?_; rintro e w1 ⟨A1, n1, c1, rfl, ht, _, hb1⟩; obtain ⟨rfl, rfl, gq, rfl, hrq, hgq⟩ := ht hS; rw [hS]; obtain ⟨hcc, hff⟩ := bcell hb1; have k1 := hb1.size; simp at k1; have k2 : w1.heap.size ≠ w.heap.size := (by omega); have k3 : w1.heap.size ≠ b := (by omega)))
        · go_wp2_with fail
          go_meet
          have hzk := hb1.size
          simp at hzk
          have hgl2 := hrq.lt
          exact ⟨w1.heap.size, gq, rfl, by omega, Lib.hid (Box.new _ _ _), Lib.hid ((show RowF (w1.alloc _) gq 65 (4 * 2) (ints (btwA zs k)) from hrq.alloc _).recs rfl), Lib.hid (((below_drewN (Below.refl wk.heap.size wk) 1).trans (hb1.mono (by simp))).alloc (by omega) _)⟩
        · go_wp2_with fail
          go_meet
          have hzk := hb1.size
          simp at hzk
          have hgl2 := hrq.lt
          have hrw := (rowF_new1S wk.drew (.slice none 0 0) 142).after hb1
          simp at hgq
          exact ⟨wk.heap.size, gq, rfl, by omega, Lib.hid (box_setS _ hrw), Lib.hid ((show RowF (w1.setCell _ _) gq 65 (4 * 2) (ints (btwA zs k)) from hrq.set_other (by simp; omega) _).recs rfl), Lib.hid ((((below_drewN (Below.refl wk.heap.size wk) 1).alloc (Nat.le_refl _) _).trans (hb1.mono (by simp))).setCell (by simp) _)⟩
      case rest =>
        clear x0 x1 x2 x3 y0 y1 y2 y3 hbox
        obtain ⟨gs, gq, rfl, hgs, HBX, HRQ, HBW⟩ := hcut
        have HRc := Lib.hid (HR.out.after HBW.out)
        clear HR
        obtain ⟨g6, o6, rfl, hg6, hc6'⟩ := HRc.out.ws.ints.2 (by omega)
        obtain ⟨g7, o7, rfl, hg7, hc7'⟩ := HRc.out.ms.ints.2 (by omega)
        have z6 := hc6' k (by omega)
        have z7 := hc7' k (by omega)
        rw [lwL_nth (by omega)] at z6
        rw [lmL_nth (by omega)] at z7
        have bxc := HBX.out.1
        have hgsl := HBX.out.2
        have hkw := HKB.out k 0 (by omega)
        have hkm := HMB.out k 0 (by omega)
        have hlw := HWB.out k
        have hlm := HNB.out k
        have e7 : IntKind.i64.wrap (leftW zs ls q k + weightI (btwA zs k) 4) = leftW zs ls q k + kwTo zs ls k 0 := by
          have e : weightI (btwA zs k) 4 = kwTo zs ls k 0 := (kwTo_0 zs ls k).symm
          rw [e]; exact IntWalk.i64_in _ (by omega)
        have e8 : IntKind.i64.wrap (leftM zs ls q k + overI facX (btwA zs k) 4) = leftM zs ls q k + kmTo zs ls k 0 := by
          have e : overI facX (btwA zs k) 4 = kmTo zs ls k 0 := (kmTo_0 zs ls k).symm
          rw [e]; exact IntWalk.i64_in _ (by omega)
        clear hc6' hc7'
        go_wp2
        go_region_held3 (fun w' => w'.cell? ⟨g6, o6 + k, none⟩ = some (.int .i64 (leftW zs ls q k)) ∧ w'.cell? ⟨gs, 0, none⟩ = some (.slice (some ⟨gq, 0, none⟩) 4 4)) (first | exact ⟨z6, bxc⟩ | exact ⟨(hcc _ _ (by simp; omega)).trans z6, (hcc _ _ (by simp; omega)).trans bxc⟩)
          ((go_at_call 91; refine (sWeightOf_any _ _ _ (btwA zs k) _ (by exact HRQ.out) (by omega)).mono ?_; rintro e w1 ⟨rfl, hb1⟩; obtain ⟨hcc, hff⟩ := bcell hb1))
        have HR1 := Lib.hid (HRc.out.drew.after hb1)
        have HRQ1 := Lib.hid ((show RecsAt wc.drew wc.drew.heap.size _ _ _ _ from HRQ.out).after hb1)
        have z71 : w1.cell? ⟨g7, o7 + k, none⟩ = some (.int .i64 (leftM zs ls q k)) := (hcc _ _ (by simp; omega)).trans z7
        have bx1 : w1.cell? ⟨gs, 0, none⟩ = some (.slice (some ⟨gq, 0, none⟩) 4 4) := (hcc _ _ (by simp; omega)).trans bxc
        have hz1 := hb1.size
        simp at hz1
        have hl1 : gs < w1.heap.size ∧ g7 < w1.heap.size := by omega
        have l1 := hl1.1
        have l2 := hl1.2
        clear hcc hff hb1 z6 z7 bxc HRc HRQ hl1
        go_wp2
        go_region_held3 (fun w' => w'.cell? ⟨g7, o7 + k, none⟩ = some (.int .i64 (leftM zs ls q k)) ∧ w'.cell? ⟨gs, 0, none⟩ = some (.slice (some ⟨gq, 0, none⟩) 4 4)) (first | exact ⟨z71, bx1⟩ | exact ⟨(hcc _ _ (by simp; omega)).trans z71, (hcc _ _ (by simp; omega)).trans bx1⟩)
          ((go_at_call 92; refine (sMomentOf_any _ _ _ (btwA zs k) _ (by exact HRQ1.out) (by omega)).mono ?_; rintro e w2 ⟨rfl, hb2⟩; obtain ⟨hcc, hff⟩ := bcell hb2))
        have HR2 := Lib.hid (HR1.out.drew.after hb2)
        clear hcc hff hb2 z71 bx1 HR1 HRQ1 e7 e8
        go_wp2
        go_loopw [11, 12, 13] (fun v11 v12 v13 wr => ∃ i : Nat, i ≤ q ∧ v13 = .int .i64 i ∧ v11 = .int .i64 (leftW zs ls q k + kwTo zs ls k i) ∧ v12 = .int .i64 (leftM zs ls q k + kmTo zs ls k i) ∧ Hid (LRel w zs ls q (k + 1) (.slice (some ⟨b, off, none⟩) n c) (.slice (some ⟨g6, o6, none⟩) (k + 1) c6) (.slice (some ⟨g7, o7, none⟩) (k + 1) c7) wr)) (fun _ _ v13 _ => q - (intOf v13).toNat)
        case atStart => exact ⟨0, Nat.zero_le _, rfl, rfl, rfl, HR2⟩
        case round =>
          clear HR2
          obtain ⟨i, hi, rfl, rfl, rfl, HR⟩ := hrel
          have hkw := HKB.out k i hi
          have hkm := HMB.out k i hi
          by_cases hli : i < q
          · obtain ⟨b2, off2, rfl, hb2B, hc2⟩ := HLD.out.2 (by omega)
            have hlc := ldCells hc2 hli
            have x0 := (HR.out.below.cell (p := ⟨b2, off2 + i * 3, none⟩) hb2B).trans hlc.1
            have x1 := (HR.out.below.cell (p := ⟨b2, off2 + i * 3 + 1, none⟩) hb2B).trans hlc.2.1
            have x2 := (HR.out.below.cell (p := ⟨b2, off2 + i * 3 + 2, none⟩) hb2B).trans hlc.2.2
            have hlo := loadAt_out (HLA.out i hli)
            have hkw2 := HKB.out k (i + 1) (by omega)
            have hkm2 := HMB.out k (i + 1) (by omega)
            have hwx := wx_bd hlo.2.1 hlo.2.2
            have ii1 : (i : Int) < (q : Int) := by omega
            have ii0 : (0 : Int) ≤ (i : Int) := by omega
            clear hlc hc2
            by_cases hs : nth ls (i * 3) = (k : Int)
            · have HW := Lib.hid (kwTo_t zs hs)
              have HM := Lib.hid (kmTo_t zs hs)
              have hd : (nth ls (i * 3) == (k : Int)) = true := by simp [hs]
              have e4 : IntKind.i64.wrap (nth ls (i * 3 + 1) * nth ls (i * 3 + 2)) = nth ls (i * 3 + 1) * nth ls (i * 3 + 2) := IntWalk.i64_in _ (by omega)
              have e3 : IntKind.i64.wrap (leftW zs ls q k + kwTo zs ls k i + nth ls (i * 3 + 1)) = leftW zs ls q k + kwTo zs ls k (i + 1) := by
                have h := HW.out
                rw [h, ← Int.add_assoc]
                exact IntWalk.i64_in _ (by omega)
              have e5 : IntKind.i64.wrap (leftM zs ls q k + kmTo zs ls k i + nth ls (i * 3 + 1) * nth ls (i * 3 + 2)) = leftM zs ls q k + kmTo zs ls k (i + 1) := by
                have h := HM.out
                rw [h, ← Int.add_assoc]
                exact IntWalk.i64_in _ (by omega)
              have HE : Hid (leftW zs ls q k + kwTo zs ls k i + nth ls (i * 3 + 1) = leftW zs ls q k + kwTo zs ls k (i + 1)) := by
                have h := HW.out
                show _ = _
                omega
              clear hs hlo hkw hkm hkw2 hkm2 hlw hlm hwx
              go_wp2
              go_quiet (fail)
              go_wp2
              go_roundw
              case rel => exact ⟨i + 1, by omega, by go_num, by first | rfl | rw [HE.out], by rfl, Lib.hid (HR.out.drewN _)⟩
              case measure => simp [intOf]; omega
            · have HW := Lib.hid (kwTo_f zs hs)
              have HM := Lib.hid (kmTo_f zs hs)
              have hd : (nth ls (i * 3) == (k : Int)) = false := by simp [hs]
              clear hs hlo hkw hkm hkw2 hkm2 hlw hlm hwx
              go_wp2
              go_roundw
              case rel => exact ⟨i + 1, by omega, by go_num, by rw [HW.out], by rw [HM.out], HR⟩
              case measure => simp [intOf]; omega
          · obtain rfl : q = i := by omega
            have HSW := Lib.hid (lwL_step zs ls q k)
            have HSM := Lib.hid (lmL_step zs ls q k)
            have hz2 := HR.out.below.size
            generalize leftW zs ls q k + kwTo zs ls k q = nw at *
            generalize leftM zs ls q k + kmTo zs ls k q = nm at *
            have HB1 := Lib.hid (HR.out.below.alloc hz2 (.cells #[.int .i64 nw] 3))
            have hcn : ∀ i, i < 1 * 1 → (wr.alloc (.cells #[.int .i64 nw] 3)).cell? ⟨wr.heap.size, i, none⟩ = some (.int .i64 (nth [nw] i)) := fun i hi => by
              obtain rfl : i = 0 := by omega
              exact cell_new1 _ _ _
            have HCN := Lib.hid hcn
            clear hcn
            have hbxl := HR.out.box.lt
            have HBXA := Lib.hid (HR.out.box.alloc (.cells #[.int .i64 nw] 3))
            go_wp2_with (first
              | (at_builtin; refine wpList_appZ2 _ rfl (.tmp 88) (.tmp 90) 53 rfl (w.heap.size + 1) 3 1 8 (.int .i64 0) Try.underlying53 infoInt rfl (by decide) (by decide) _ (k + 1) (lwL zs ls q (k + 1)) rfl (by exact HR.out.ws.alloc _) wr.heap.size 1 1 [nw] rfl rfl (by exact HCN.out) (by omega) w.heap.size w (by exact HB1.out) (by omega) (by simp; omega) _ HSW.out _ _ _ (by exact HR.out.ms.alloc _) HR.out.apart ?_ (by omega); intro g' cap' w3 hown3 hb3 hoth3 hap3 hrow3; have hcn3 : ∀ i, i < 1 * 1 → (w3.alloc (.cells #[.int .i64 nm] 3)).cell? ⟨w3.heap.size, i, none⟩ = some (.int .i64 (nth [nm] i)) := (fun i hi => by obtain rfl : i = 0 := (by omega); exact cell_new1 _ _ _); have HCN3 := Lib.hid hcn3; have hbx3 := hrow3 _ _ _ _ (by decide) HBXA.out; have hbx3l := hbx3.lt; clear hcn3 hrow3)
              | (at_builtin; refine wpList_appZ2 _ rfl (.tmp 92) (.tmp 94) 53 rfl (w.heap.size + 1) 3 1 8 (.int .i64 0) Try.underlying53 infoInt rfl (by decide) (by decide) _ (k + 1) (lmL zs ls q (k + 1)) rfl (by exact hoth3.alloc _) w3.heap.size 1 1 [nm] rfl rfl (by exact HCN3.out) (by omega) w.heap.size w (by exact hb3.alloc hb3.size _) (by omega) (by simp; omega) _ HSM.out _ _ _ (by exact hown3.alloc _) hap3.symm ?_ (by omega); intro g4 cap4 w4 hown4 hb4 hoth4 hap4 hrow4))
            have HR4 : Hid (LRel w zs ls q (k + 1 + 1) (.slice (some ⟨b, off, none⟩) n c) (.slice (some ⟨g', 0, none⟩) (k + 1 + 1) cap') (.slice (some ⟨g4, 0, none⟩) (k + 1 + 1) cap4) w4) :=
              ⟨hoth4, hown4, hap4.symm, hrow4 _ _ _ _ (by decide) (hbx3.alloc _), hb4⟩
            clear hown3 hb3 hoth3 hap3 hown4 hb4 hoth4 hap4 hrow4 hbx3
            go_wp2
            go_roundw
            case rel => exact ⟨k + 1, by omega, by go_num, HR4⟩
            case measure => simp [intOf]; omega
    · obtain rfl : n = k + 1 := by omega
      go_wp2
      go_ret2
      exact ⟨_, _, _, _, rfl, HR.out.ws, HR.out.ms, HR.out.below⟩
theorem sLeft_any (A : Option Addr) (n c : Nat) (zs : List Int) (B : Option Addr) (q d : Nat) (ls : List Int) (w : World) (h : RecsAt w w.heap.size 4 A n zs) (hl : RecsAt w w.heap.size 3 B q ls) (hL : loadsB zs n ls q = true) :
    Calls Try.prog 68 #[.agg #[.slice A n c], .slice B q d] w (LeftPost w zs ls q n) :=
  (sLeftO_any A n c zs B q d ls w h hl hL).mono fun _ _ ⟨A6, c6, A7, c7, e, h6, h7, hb⟩ => ⟨A6, c6, A7, c7, e, h6.ints, h7.ints, hb⟩
end Go.Proofs.Ytdjhiegolojoaaa
