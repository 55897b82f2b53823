/-
  Contracts: LoadsOk, in the reference and in the program.
-/
import Derived.Test.YtdjhiegolojoaaaWArch
import Derived.Test.YtdjhiegolojoaaaPAll
import Derived.IntWalk
namespace Go.Proofs.Ytdjhiegolojoaaa
open Go.RowKit
set_option linter.unusedSimpArgs false

def loadAt (ls : List Int) (n i : Nat) : Bool := inB (nth ls (i * 3)) 0 ((n : Int) - 2) && (inB (nth ls (i * 3 + 1)) 0 10000 && inB (nth ls (i * 3 + 2)) (-60) 60)
def loadsB (zs : List Int) (n : Nat) (ls : List Int) (q : Nat) : Bool := archB zs n && (decide (q ≤ 6) && allB (loadAt ls n) q)
theorem loadAt_1 {ls : List Int} {n i : Nat} (h : inB (nth ls (i * 3)) 0 ((n : Int) - 2) = false) : loadAt ls n i = false := by simp [loadAt, h]
theorem loadAt_2 {ls : List Int} (n : Nat) {i : Nat} (h : inB (nth ls (i * 3 + 1)) 0 10000 = false) : loadAt ls n i = false := by simp [loadAt, h]
theorem loadAt_3 {ls : List Int} (n : Nat) {i : Nat} (h : inB (nth ls (i * 3 + 2)) (-60) 60 = false) : loadAt ls n i = false := by simp [loadAt, h]
theorem loadAt_t {ls : List Int} {n i : Nat} (h1 : inB (nth ls (i * 3)) 0 ((n : Int) - 2) = true) (h2 : inB (nth ls (i * 3 + 1)) 0 10000 = true) (h3 : inB (nth ls (i * 3 + 2)) (-60) 60 = true) : loadAt ls n i = true := by simp [loadAt, h1, h2, h3]
theorem loadsB_1 {zs : List Int} {n : Nat} (ls : List Int) (q : Nat) (h : archB zs n = false) : loadsB zs n ls q = false := by simp [loadsB, h]
theorem loadsB_2 (zs : List Int) (n : Nat) (ls : List Int) {q : Nat} (h : ¬ q ≤ 6) : loadsB zs n ls q = false := by simp [loadsB, h]
theorem loadsB_3 (zs : List Int) {n : Nat} {ls : List Int} {q k : Nat} (hk : k < q) (h : loadAt ls n k = false) : loadsB zs n ls q = false := by simp [loadsB, allB_f hk h]
theorem loadsB_t {zs : List Int} {n : Nat} {ls : List Int} {q : Nat} (h1 : archB zs n = true) (h2 : q ≤ 6) (h3 : allTo (loadAt ls n) q) : loadsB zs n ls q = true := by simp [loadsB, allB_t h3, h1, h2]
theorem loadsB_out {zs : List Int} {n : Nat} {ls : List Int} {q : Nat} (h : loadsB zs n ls q = true) : archB zs n = true ∧ q ≤ 6 ∧ allTo (loadAt ls n) q := by
  simp only [loadsB, Bool.and_eq_true, decide_eq_true_eq] at h
  exact ⟨h.1, h.2.1, allB_out h.2.2⟩
theorem ldCells {wr : World} {b off n j : Nat} {zs : List Int} (hc : ∀ i, i < n * 3 → wr.cell? ⟨b, off + i, none⟩ = some (.int .i64 (nth zs i))) (hj : j < n) :
    wr.cell? ⟨b, off + j * 3, none⟩ = some (.int .i64 (nth zs (j * 3))) ∧ wr.cell? ⟨b, off + j * 3 + 1, none⟩ = some (.int .i64 (nth zs (j * 3 + 1))) ∧ wr.cell? ⟨b, off + j * 3 + 2, none⟩ = some (.int .i64 (nth zs (j * 3 + 2))) :=
  ⟨hc _ (by omega), by have := hc (j * 3 + 1) (by omega); rwa [← Nat.add_assoc] at this, by have := hc (j * 3 + 2) (by omega); rwa [← Nat.add_assoc] at this⟩

set_option maxRecDepth 100000 in
set_option maxHeartbeats 1600000 in
theorem sLoadsOk_any (A : Option Addr) (n c : Nat) (zs : List Int) (B : Option Addr) (q d : Nat) (ls : List Int) (w : World) (h : RecsAt w w.heap.size 4 A n zs) (hn : n ≤ 1048576) (hl : RecsAt w w.heap.size 3 B q ls) (hq : q ≤ 1048576) :
    Calls Try.prog 51 #[.agg #[.slice A n c], .slice B q d] w fun e w' => e = .returned (.bool (loadsB zs n ls q)) ∧ Below w.heap.size w w' := by
  have HA := Lib.hid ((Below.refl w.heap.size w).alloc (Nat.le_refl _) (.cells #[.slice A n c] 41))
  have H := Lib.hid h
  have HL := Lib.hid hl
  clear h hl
  go_enter Try.func51, Try.ntmps51
  go_wp2
  go_loopw [5] (fun i wr => ∃ k : Nat, k ≤ q ∧ i = .int .i64 k ∧ allTo (loadAt ls n) k ∧ wr.cell? ⟨w.heap.size, 0, none⟩ = some (.slice A n c) ∧ Below w.heap.size w wr) (fun i _ => q - (intOf i).toNat)
  case atStart => exact ⟨0, Nat.zero_le _, rfl, allTo_0 _, cell_new0 _ _ _, HA.out⟩
  case round =>
    clear HA
    obtain ⟨k, hk, rfl, hag, hbox, hb⟩ := hrel
    have HB := Lib.hid hb
    have hgl := World.block_lt_of_cell? wr _ hbox
    simp only at hgl
    by_cases hlt : k < q
    · obtain ⟨b, off, rfl, hbB, hc⟩ := HL.out.2 (by omega)
      obtain ⟨x0, x1, x2⟩ := ldCells (fun i hi => (hb.cell (by exact hbB)).trans (hc i hi)) hlt
      have hz := hb.size
      have HB0 := Lib.hid (fun o => hb.alloc hz o)
      have HBX := Lib.hid (fun o => (World.cell?_alloc_lt wr o ⟨w.heap.size, 0, none⟩ (by simp; omega)).trans hbox)
      clear hb hc
      have T1 := Lib.hid (fun e => loadsB_3 zs hlt (loadAt_1 (ls := ls) (n := n) (i := k) e))
      have T2 := Lib.hid (fun e => loadsB_3 zs hlt (loadAt_2 (ls := ls) n (i := k) e))
      have T3 := Lib.hid (fun e => loadsB_3 zs hlt (loadAt_3 (ls := ls) n (i := k) e))
      have TS := Lib.hid (fun e1 e2 e3 => allTo_step hag (loadAt_t (ls := ls) (n := n) (i := k) e1 e2 e3))
      generalize nth ls (k * 3) = y0 at *
      generalize nth ls (k * 3 + 1) = y1 at *
      generalize nth ls (k * 3 + 2) = y2 at *
      clear hag
      cases h1 : inB y0 0 ((n : Int) - 2)
      · have HF := Lib.hid (T1.out h1)
        go_wp2_with (go_at_call 26; refine (l01In_any _ _ _ _).mono ?_; rw [h1]; rintro e w' ⟨rfl, rfl⟩)
        go_ret
        exact ⟨ret_bool HF.out.symm, HB0.out _⟩
      · cases h2 : inB y1 0 10000
        · have HF := Lib.hid (T2.out h2)
          go_wp2_with (go_at_call 26; refine (l01In_any _ _ _ _).mono ?_; (first | rw [h1] | rw [h2]); rintro e w' ⟨rfl, rfl⟩)
          go_ret
          exact ⟨ret_bool HF.out.symm, HB0.out _⟩
        · cases h3 : inB y2 (-60) 60
          · have HF := Lib.hid (T3.out h3)
            go_wp2_with (go_at_call 26; refine (l01In_any _ _ _ _).mono ?_; (first | rw [h1] | rw [h2] | rw [h3]); rintro e w' ⟨rfl, rfl⟩)
            go_ret
            exact ⟨ret_bool HF.out.symm, HB0.out _⟩
          · have HS := Lib.hid (TS.out h1 h2 h3)
            go_wp2_with (go_at_call 26; refine (l01In_any _ _ _ _).mono ?_; (first | rw [h1] | rw [h2] | rw [h3]); rintro e w' ⟨rfl, rfl⟩)
            go_roundw
            case rel => exact ⟨k + 1, by omega, by go_num, HS.out, HBX.out _, HB0.out _⟩
            case measure => first | (simp [intOf]; done) | (simp [intOf]; omega)
    · obtain rfl : k = q := by omega
      have HAG := Lib.hid hag
      have h1 := (H.out.below hb).mono hb.size
      clear hb hag
      cases hA : archB zs n
      · have HF := Lib.hid (loadsB_1 ls k hA)
        go_wp2_with fail
        refine (sArchOk_any _ _ _ zs _ h1 hn).mono ?_
        rw [hA]
        rintro e w1 ⟨rfl, hb1⟩
        have HB1 := Lib.hid (HB.out.trans (hb1.mono HB.out.size))
        go_wp2
        go_ret
        exact ⟨ret_bool HF.out.symm, HB1.out⟩
      · by_cases hq6 : k ≤ 6
        · have HF := Lib.hid (loadsB_t hA hq6 HAG.out)
          have ht : decide ((k : Int) ≤ 6) = true := by simp; omega
          go_wp2_with fail
          refine (sArchOk_any _ _ _ zs _ h1 hn).mono ?_
          rw [hA]
          rintro e w1 ⟨rfl, hb1⟩
          have HB1 := Lib.hid (HB.out.trans (hb1.mono HB.out.size))
          go_wp2
          go_ret
          exact ⟨ret_bool HF.out.symm, HB1.out⟩
        · have HF := Lib.hid (loadsB_2 zs n ls hq6)
          have ht : decide ((k : Int) ≤ 6) = false := by simp; omega
          go_wp2_with fail
          refine (sArchOk_any _ _ _ zs _ h1 hn).mono ?_
          rw [hA]
          rintro e w1 ⟨rfl, hb1⟩
          have HB1 := Lib.hid (HB.out.trans (hb1.mono HB.out.size))
          go_wp2
          go_ret
          exact ⟨ret_bool HF.out.symm, HB1.out⟩

set_option maxRecDepth 100000 in
set_option maxHeartbeats 1600000 in
theorem iLoadsOk_any (A : Option Addr) (n c : Nat) (zs : List Int) (B : Option Addr) (q d : Nat) (ls : List Int) (w : World) (h : RecsAt w w.heap.size 4 A n zs) (hn : n ≤ 1048576) (hl : RecsAt w w.heap.size 3 B q ls) (hq : q ≤ 1048576) :
    Calls Try.prog 56 #[.agg #[.slice A n c], .slice B q d] w fun e w' => e = .returned (.bool (loadsB zs n ls q)) ∧ Below w.heap.size w w' := by
  have HA := Lib.hid ((Below.refl w.heap.size w).alloc (Nat.le_refl _) (.cells #[.slice A n c] 41))
  have h1 : RecsAt (w.alloc (.cells #[.slice A n c] 41)) (w.alloc (.cells #[.slice A n c] 41)).heap.size 4 A n zs := (h.alloc (Nat.le_refl _) _).mono (by simp)
  have HL := Lib.hid hl
  clear h hl
  cases hA : archB zs n
  · have HF := Lib.hid (loadsB_1 ls q hA)
    go_enter Try.func56, Try.ntmps56
    go_wp2_with fail
    refine (iArchOk_any _ _ _ zs _ h1 hn).mono ?_
    rw [hA]
    rintro e w1 ⟨rfl, hb1⟩
    have HB1 := Lib.hid (HA.out.trans (hb1.mono (by simp)))
    go_wp2
    go_ret
    exact ⟨ret_bool HF.out.symm, HB1.out⟩
  by_cases hq6 : q ≤ 6
  · have ht : ¬ (6 : Int) < (q : Int) := by omega
    have HT := Lib.hid (fun h3 => loadsB_t (ls := ls) hA hq6 h3)
    go_enter Try.func56, Try.ntmps56
    go_wp2_with fail
    refine (iArchOk_any _ _ _ zs _ h1 hn).mono ?_
    rw [hA]
    rintro e w1 ⟨rfl, hb1⟩
    have HB1 := Lib.hid (HA.out.trans (hb1.mono (by simp)))
    have hbox1 := (hb1.cell (p := ⟨w.heap.size, 0, none⟩) (by simp)).trans (cell_new0 _ _ _)
    clear hb1
    go_wp2
    go_loopw [17] (fun i wr => ∃ k : Nat, k ≤ q ∧ i = .int .i64 k ∧ allTo (loadAt ls n) k ∧ wr.cell? ⟨w.heap.size, 0, none⟩ = some (.slice A n c) ∧ Below w.heap.size w wr) (fun i _ => q - (intOf i).toNat)
    case atStart => exact ⟨0, Nat.zero_le _, rfl, allTo_0 _, hbox1, HB1.out⟩
    case round =>
      clear HA HB1 hbox1
      obtain ⟨k, hk, rfl, hag, hbox, hb⟩ := hrel
      have HB := Lib.hid hb
      have hgl := World.block_lt_of_cell? wr _ hbox
      simp only at hgl
      by_cases hlt : k < q
      · obtain ⟨b, off, rfl, hbB, hc⟩ := HL.out.2 (by omega)
        obtain ⟨x0, x1, x2⟩ := ldCells (fun i hi => (hb.cell (by exact hbB)).trans (hc i hi)) hlt
        have hz := hb.size
        have HB0 := Lib.hid (fun o => hb.alloc hz o)
        have HBX := Lib.hid (fun o => (World.cell?_alloc_lt wr o ⟨w.heap.size, 0, none⟩ (by simp; omega)).trans hbox)
        clear hb hc
        have T1 := Lib.hid (fun e => loadsB_3 zs hlt (loadAt_1 (ls := ls) (n := n) (i := k) e))
        have T2 := Lib.hid (fun e => loadsB_3 zs hlt (loadAt_2 (ls := ls) n (i := k) e))
        have T3 := Lib.hid (fun e => loadsB_3 zs hlt (loadAt_3 (ls := ls) n (i := k) e))
        have TS := Lib.hid (fun e1 e2 e3 => allTo_step hag (loadAt_t (ls := ls) (n := n) (i := k) e1 e2 e3))
        generalize nth ls (k * 3) = y0 at *
        generalize nth ls (k * 3 + 1) = y1 at *
        generalize nth ls (k * 3 + 2) = y2 at *
        clear hag
        cases g1 : inB y0 0 ((n : Int) - 2)
        · have HF := Lib.hid (T1.out g1)
          go_wp2_with (go_at_call 31; refine (within_any _ _ _ _).mono ?_; rw [g1]; rintro e w' ⟨rfl, rfl⟩)
          go_ret
          exact ⟨ret_bool HF.out.symm, HB0.out _⟩
        · cases g2 : inB y1 0 10000
          · have HF := Lib.hid (T2.out g2)
            go_wp2_with (go_at_call 31; refine (within_any _ _ _ _).mono ?_; (first | rw [g1] | rw [g2]); rintro e w' ⟨rfl, rfl⟩)
            go_ret
            exact ⟨ret_bool HF.out.symm, HB0.out _⟩
          · cases g3 : inB y2 (-60) 60
            · have HF := Lib.hid (T3.out g3)
              go_wp2_with (first | (go_at_call 31; refine (within_any _ _ _ _).mono ?_; (first | rw [g1] | rw [g2]); rintro e w' ⟨rfl, rfl⟩) | (go_at_call 81; refine (isPlace_any _ _).mono ?_; rw [g3]; rintro e w' ⟨rfl, rfl⟩))
              go_ret
              exact ⟨ret_bool HF.out.symm, HB0.out _⟩
            · have HS := Lib.hid (TS.out g1 g2 g3)
              go_wp2_with (first | (go_at_call 31; refine (within_any _ _ _ _).mono ?_; (first | rw [g1] | rw [g2]); rintro e w' ⟨rfl, rfl⟩) | (go_at_call 81; refine (isPlace_any _ _).mono ?_; rw [g3]; rintro e w' ⟨rfl, rfl⟩))
              go_roundw
              case rel => exact ⟨k + 1, by omega, by go_num, HS.out, HBX.out _, HB0.out _⟩
              case measure => first | (simp [intOf]; done) | (simp [intOf]; omega)
      · obtain rfl : k = q := by omega
        have HF := Lib.hid (HT.out hag)
        clear hb hag
        go_wp2
        go_ret
        exact ⟨ret_bool HF.out.symm, HB.out⟩
  · have HF := Lib.hid (loadsB_2 zs n ls hq6)
    have ht : (6 : Int) < (q : Int) := by omega
    go_enter Try.func56, Try.ntmps56
    go_wp2_with fail
    refine (iArchOk_any _ _ _ zs _ h1 hn).mono ?_
    rw [hA]
    rintro e w1 ⟨rfl, hb1⟩
    have HB1 := Lib.hid (HA.out.trans (hb1.mono (by simp)))
    go_wp2
    go_ret
    exact ⟨ret_bool HF.out.symm, HB1.out⟩
end Go.Proofs.Ytdjhiegolojoaaa
