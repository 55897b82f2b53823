/-
  Contracts: the validity of an arch, in the reference and in the program.
-/
import Derived.Test.YtdjhiegolojoaaaWBetween
namespace Go.Proofs.Ytdjhiegolojoaaa
open Go.RowKit
set_option linter.unusedSimpArgs false

/-- The stone between joints k and k + 1. -/
def btwA (zs : List Int) (k : Nat) : List Int := btw (nth zs (k * 4)) (nth zs (k * 4 + 1)) (nth zs (k * 4 + 2)) (nth zs (k * 4 + 3)) (nth zs ((k + 1) * 4)) (nth zs ((k + 1) * 4 + 1)) (nth zs ((k + 1) * 4 + 2)) (nth zs ((k + 1) * 4 + 3))
def pairB (zs : List Int) (k : Nat) : Bool := stoneB (btwA zs k) 4 && decide (nth zs (k * 4) < nth zs ((k + 1) * 4))
theorem pairB_f1 {zs : List Int} {k : Nat} (h : stoneB (btwA zs k) 4 = false) : pairB zs k = false := by simp [pairB, h]
theorem pairB_f2 {zs : List Int} {k : Nat} (h : nth zs ((k + 1) * 4) ≤ nth zs (k * 4)) : pairB zs k = false := by
  have : decide (nth zs (k * 4) < nth zs ((k + 1) * 4)) = false := decide_eq_false (by omega)
  simp [pairB, this]
theorem pairB_t {zs : List Int} {k : Nat} (h : stoneB (btwA zs k) 4 = true) (h2 : ¬ nth zs ((k + 1) * 4) ≤ nth zs (k * 4)) : pairB zs k = true := by
  have : decide (nth zs (k * 4) < nth zs ((k + 1) * 4)) = true := decide_eq_true (by omega)
  simp [pairB, this, h]
def pairTo (zs : List Int) (k : Nat) : Prop := ∀ i, i < k → pairB zs i = true
theorem pairTo_0 (zs : List Int) : pairTo zs 0 := fun i hi => absurd hi (by omega)
theorem pairTo_step {zs : List Int} {k : Nat} (h : pairTo zs k) (e : pairB zs k = true) : pairTo zs (k + 1) := by
  intro i hi
  by_cases hik : i = k
  · subst hik; exact e
  · exact h i (by omega)
def archB (zs : List Int) (n : Nat) : Bool := inB (n : Int) 3 8 && (List.range (n - 1)).all (pairB zs)
theorem archB_f1 {zs : List Int} {n : Nat} (h : inB (n : Int) 3 8 = false) : archB zs n = false := by simp [archB, h]
theorem archB_f2 {zs : List Int} {n k : Nat} (hk : k + 1 < n) (h : pairB zs k = false) : archB zs n = false := by
  have : (List.range (n - 1)).all (pairB zs) = false := by
    rw [List.all_eq_false]
    exact ⟨k, by simp; omega, by simp [h]⟩
  simp [archB, this]
theorem archB_t {zs : List Int} {n : Nat} (h1 : inB (n : Int) 3 8 = true) (h2 : pairTo zs (n - 1)) : archB zs n = true := by
  have : (List.range (n - 1)).all (pairB zs) = true := by
    rw [List.all_eq_true]
    exact fun i hi => h2 i (by simpa using hi)
  simp [archB, this, h1]
theorem archB_out {zs : List Int} {n : Nat} (h : archB zs n = true) : (3 ≤ n ∧ n ≤ 8) ∧ pairTo zs (n - 1) := by
  simp only [archB, Bool.and_eq_true, inB_iff, List.all_eq_true] at h
  exact ⟨by omega, fun i hi => h.2 i (by simpa using hi)⟩
/-- The four cells of joint j. -/
theorem jtCells {wr : World} {b off n j : Nat} {zs : List Int} (hc : ∀ i, i < n * 4 → wr.cell? ⟨b, off + i, none⟩ = some (.int .i64 (nth zs i))) (hj : j < n) :
    wr.cell? ⟨b, off + j * 4, none⟩ = some (.int .i64 (nth zs (j * 4))) ∧ wr.cell? ⟨b, off + j * 4 + 1, none⟩ = some (.int .i64 (nth zs (j * 4 + 1))) ∧ wr.cell? ⟨b, off + j * 4 + 2, none⟩ = some (.int .i64 (nth zs (j * 4 + 2))) ∧ wr.cell? ⟨b, off + j * 4 + 3, none⟩ = some (.int .i64 (nth zs (j * 4 + 3))) :=
  ⟨hc (j * 4) (by omega), by have := hc (j * 4 + 1) (by omega); rwa [← Nat.add_assoc] at this, by have := hc (j * 4 + 2) (by omega); rwa [← Nat.add_assoc] at this, by have := hc (j * 4 + 3) (by omega); rwa [← Nat.add_assoc] at this⟩
theorem keepA {w w1 w2 : World} {b off n c m : Nat} {zs : List Int} (h : w1.cell? ⟨w.heap.size, 0, none⟩ = some (.slice (some ⟨b, off, none⟩) n c) ∧ (w1.cell? ⟨b, off + m * 4, none⟩ = some (.int .i64 (nth zs (m * 4))) ∧ w1.cell? ⟨b, off + m * 4 + 1, none⟩ = some (.int .i64 (nth zs (m * 4 + 1))) ∧ w1.cell? ⟨b, off + m * 4 + 2, none⟩ = some (.int .i64 (nth zs (m * 4 + 2))) ∧ w1.cell? ⟨b, off + m * 4 + 3, none⟩ = some (.int .i64 (nth zs (m * 4 + 3)))) ∧ (w1.cell? ⟨b, off + (m + 1) * 4, none⟩ = some (.int .i64 (nth zs ((m + 1) * 4))) ∧ w1.cell? ⟨b, off + (m + 1) * 4 + 1, none⟩ = some (.int .i64 (nth zs ((m + 1) * 4 + 1))) ∧ w1.cell? ⟨b, off + (m + 1) * 4 + 2, none⟩ = some (.int .i64 (nth zs ((m + 1) * 4 + 2))) ∧ w1.cell? ⟨b, off + (m + 1) * 4 + 3, none⟩ = some (.int .i64 (nth zs ((m + 1) * 4 + 3))))) (e : ∀ i, w2.cell? ⟨b, i, none⟩ = w1.cell? ⟨b, i, none⟩) (e0 : w2.cell? ⟨w.heap.size, 0, none⟩ = w1.cell? ⟨w.heap.size, 0, none⟩) :
    w2.cell? ⟨w.heap.size, 0, none⟩ = some (.slice (some ⟨b, off, none⟩) n c) ∧ (w2.cell? ⟨b, off + m * 4, none⟩ = some (.int .i64 (nth zs (m * 4))) ∧ w2.cell? ⟨b, off + m * 4 + 1, none⟩ = some (.int .i64 (nth zs (m * 4 + 1))) ∧ w2.cell? ⟨b, off + m * 4 + 2, none⟩ = some (.int .i64 (nth zs (m * 4 + 2))) ∧ w2.cell? ⟨b, off + m * 4 + 3, none⟩ = some (.int .i64 (nth zs (m * 4 + 3)))) ∧ (w2.cell? ⟨b, off + (m + 1) * 4, none⟩ = some (.int .i64 (nth zs ((m + 1) * 4))) ∧ w2.cell? ⟨b, off + (m + 1) * 4 + 1, none⟩ = some (.int .i64 (nth zs ((m + 1) * 4 + 1))) ∧ w2.cell? ⟨b, off + (m + 1) * 4 + 2, none⟩ = some (.int .i64 (nth zs ((m + 1) * 4 + 2))) ∧ w2.cell? ⟨b, off + (m + 1) * 4 + 3, none⟩ = some (.int .i64 (nth zs ((m + 1) * 4 + 3)))) := by
  simp only [e, e0]
  exact h

set_option maxHeartbeats 1000000 in
theorem sArchOk_any (A : Option Addr) (n c : Nat) (zs : List Int) (w : World) (h : RecsAt w w.heap.size 4 A n zs) (hn : n ≤ 1048576) :
    Calls Try.prog 76 #[.agg #[.slice A n c]] w fun e w' => e = .returned (.bool (archB zs n)) ∧ Below w.heap.size w w' := by
  have HA := Lib.hid ((Below.refl w.heap.size w).alloc (Nat.le_refl _) (.cells #[.slice A n c] 41))
  have H := Lib.hid h
  clear h
  · go_enter Try.func76, Try.ntmps76
    go_wp2
    go_loopw [3] (fun i wr => ∃ k : Nat, (k ≤ n - 1) ∧ i = .int .i64 ((k + 1 : Nat) : Int) ∧ pairTo zs k ∧ wr.cell? ⟨w.heap.size, 0, none⟩ = some (.slice A n c) ∧ Below w.heap.size w wr) (fun i _ => n - (intOf i).toNat)
    case atStart => exact ⟨0, Nat.zero_le _, rfl, pairTo_0 _, cell_new0 _ _ _, HA.out⟩
    case round =>
      clear HA
      obtain ⟨m, hk, rfl, hag, hbox, hb⟩ := hrel
      have HB := Lib.hid hb
      have hgl := World.block_lt_of_cell? wr _ hbox
      simp only at hgl
      by_cases hlt : m + 1 < n
      · obtain ⟨b, off, rfl, hbB, hc⟩ := H.out.2 (by omega)
        obtain ⟨x0, x1, x2, x3⟩ := jtCells (fun i hi => (hb.cell (by exact hbB)).trans (hc i hi)) (show m < n by omega)
        obtain ⟨y0, y1, y2, y3⟩ := jtCells (fun i hi => (hb.cell (by exact hbB)).trans (hc i hi)) hlt
        clear hb hc
        have i1 : IntKind.i64.wrap (m : Int) = (m : Int) := IntWalk.i64_in _ (by omega)
        have i2 : (m : Int) < (n : Int) := by omega
        have i3 : (m : Int) + 1 < (n : Int) := by omega
        have i4 : (0 : Int) ≤ (m : Int) + 1 := by omega
        have i5 : ((m : Int) + 1).toNat = m + 1 := by omega
        have e1 : wr.heap.size ≠ w.heap.size := by omega
        have e2 : wr.heap.size ≠ b := by omega
        have HST : Hid (btwA zs m = btw (nth zs (m * 4)) (nth zs (m * 4 + 1)) (nth zs (m * 4 + 2)) (nth zs (m * 4 + 3)) (nth zs ((m + 1) * 4)) (nth zs ((m + 1) * 4 + 1)) (nth zs ((m + 1) * 4 + 2)) (nth zs ((m + 1) * 4 + 3))) := rfl
        cases hS : stoneB (btw (nth zs (m * 4)) (nth zs (m * 4 + 1)) (nth zs (m * 4 + 2)) (nth zs (m * 4 + 3)) (nth zs ((m + 1) * 4)) (nth zs ((m + 1) * 4 + 1)) (nth zs ((m + 1) * 4 + 2)) (nth zs ((m + 1) * 4 + 3))) 4
        · have HF := Lib.hid (archB_f2 hlt (pairB_f1 (by rw [HST.out]; exact hS)))
          go_wp2
          go_region_held3 (fun w' => w'.cell? ⟨w.heap.size, 0, none⟩ = some (.slice (some ⟨b, off, none⟩) n c) ∧ (w'.cell? ⟨b, off + m * 4, none⟩ = some (.int .i64 (nth zs (m * 4))) ∧ w'.cell? ⟨b, off + m * 4 + 1, none⟩ = some (.int .i64 (nth zs (m * 4 + 1))) ∧ w'.cell? ⟨b, off + m * 4 + 2, none⟩ = some (.int .i64 (nth zs (m * 4 + 2))) ∧ w'.cell? ⟨b, off + m * 4 + 3, none⟩ = some (.int .i64 (nth zs (m * 4 + 3)))) ∧ (w'.cell? ⟨b, off + (m + 1) * 4, none⟩ = some (.int .i64 (nth zs ((m + 1) * 4))) ∧ w'.cell? ⟨b, off + (m + 1) * 4 + 1, none⟩ = some (.int .i64 (nth zs ((m + 1) * 4 + 1))) ∧ w'.cell? ⟨b, off + (m + 1) * 4 + 2, none⟩ = some (.int .i64 (nth zs ((m + 1) * 4 + 2))) ∧ w'.cell? ⟨b, off + (m + 1) * 4 + 3, none⟩ = some (.int .i64 (nth zs ((m + 1) * 4 + 3))))) (first | exact ⟨hbox, ⟨x0, x1, x2, x3⟩, ⟨y0, y1, y2, y3⟩⟩ | (refine keepA (by assumption) (fun i => ?_) ?_ <;> first | exact cell_alloc_lt (by first | (simp; done) | (simp; omega) | omega) | exact (cell_alloc_lt (by first | (simp; done) | (simp; omega) | omega)).trans (cell_alloc_lt (by first | (simp; done) | (simp; omega) | omega)).symm | exact hcc _ _ (by first | (simp; done) | (simp; omega) | omega) | exact World.cell?_setCell_far _ _ _ _ (by first | (simp; done) | (simp; omega) | omega))) ((go_at_call 90; refine (sBetween_any _ _ _ _ _ _ _ _ _).mono ?_; rintro e w1 ⟨A1, n1, c1, rfl, _, _, hb1⟩; rw [hS]; obtain ⟨hcc, hff⟩ := bcell hb1; have k1 := hb1.size; simp at k1; have k2 : w1.heap.size ≠ w.heap.size := (by omega); have k3 : w1.heap.size ≠ b := (by omega)))
          all_goals
            clear hcc hff
            go_wp2
            refine wp_region_held_drew (S := fun _ => True) (by kernel_rfl) trivial (fun _ => ?_)
            refine take_held (i := 0) (d := 28) rfl rfl (by kernel_rfl) (by kernel_rfl) (by kernel_rfl) (fun _ _ _ h => h) (by kernel_rfl) (fun w _ => by go_simp; try rfl) ?_
            try simp only [Act.put, List.setIfInBounds_toArray, List.set_cons_zero, List.set_cons_succ]
            refine take_held (i := 1) (d := 29) rfl rfl (by kernel_rfl) (by kernel_rfl) (by kernel_rfl) (fun _ _ _ h => h) (by kernel_rfl) (fun w _ => by go_simp; try rfl) ?_
            try simp only [Act.put, List.setIfInBounds_toArray, List.set_cons_zero, List.set_cons_succ]
            refine take_held (i := 2) (d := 30) rfl rfl (by kernel_rfl) (by kernel_rfl) (by kernel_rfl) (fun _ _ _ h => h) (by kernel_rfl) (fun w _ => by go_simp; try rfl) ?_
            try simp only [Act.put, List.setIfInBounds_toArray, List.set_cons_zero, List.set_cons_succ]
            refine skip_held (i := 3) (d := 31) rfl rfl (by kernel_rfl) (by kernel_rfl) (by kernel_rfl) (fun _ _ _ h => h) (by kernel_rfl) ?_
            try simp only [Act.put, List.setIfInBounds_toArray, List.set_cons_zero, List.set_cons_succ]
            refine skip_held (i := 4) (d := 32) rfl rfl (by kernel_rfl) (by kernel_rfl) (by kernel_rfl) (fun _ _ _ h => h) (by kernel_rfl) ?_
            try simp only [Act.put, List.setIfInBounds_toArray, List.set_cons_zero, List.set_cons_succ]
            refine skip_held (i := 5) (d := 33) rfl rfl (by kernel_rfl) (by kernel_rfl) (by kernel_rfl) (fun _ _ _ h => h) (by kernel_rfl) ?_
            try simp only [Act.put, List.setIfInBounds_toArray, List.set_cons_zero, List.set_cons_succ]
            refine skip_held (i := 6) (d := 34) rfl rfl (by kernel_rfl) (by kernel_rfl) (by kernel_rfl) (fun _ _ _ h => h) (by kernel_rfl) ?_
            try simp only [Act.put, List.setIfInBounds_toArray, List.set_cons_zero, List.set_cons_succ]
            refine skip_held (i := 7) (d := 35) rfl rfl (by kernel_rfl) (by kernel_rfl) (by kernel_rfl) (fun _ _ _ h => h) (by kernel_rfl) ?_
            try simp only [Act.put, List.setIfInBounds_toArray, List.set_cons_zero, List.set_cons_succ]
            refine skip_held (i := 8) (d := 36) rfl rfl (by kernel_rfl) (by kernel_rfl) (by kernel_rfl) (fun _ _ _ h => h) (by kernel_rfl) ?_
            try simp only [Act.put, List.setIfInBounds_toArray, List.set_cons_zero, List.set_cons_succ]
            refine skip_held (i := 9) (d := 37) rfl rfl (by kernel_rfl) (by kernel_rfl) (by kernel_rfl) (fun _ _ _ h => h) (by kernel_rfl) ?_
            try simp only [Act.put, List.setIfInBounds_toArray, List.set_cons_zero, List.set_cons_succ]
            refine skip_held (i := 10) (d := 38) rfl rfl (by kernel_rfl) (by kernel_rfl) (by kernel_rfl) (fun _ _ _ h => h) (by kernel_rfl) ?_
            try simp only [Act.put, List.setIfInBounds_toArray, List.set_cons_zero, List.set_cons_succ]
            refine skip_held (i := 11) (d := 39) rfl rfl (by kernel_rfl) (by kernel_rfl) (by kernel_rfl) (fun _ _ _ h => h) (by kernel_rfl) ?_
            try simp only [Act.put, List.setIfInBounds_toArray, List.set_cons_zero, List.set_cons_succ]
            refine skip_held (i := 12) (d := 40) rfl rfl (by kernel_rfl) (by kernel_rfl) (by kernel_rfl) (fun _ _ _ h => h) (by kernel_rfl) ?_
            try simp only [Act.put, List.setIfInBounds_toArray, List.set_cons_zero, List.set_cons_succ]
            refine skip_held (i := 13) (d := 41) rfl rfl (by kernel_rfl) (by kernel_rfl) (by kernel_rfl) (fun _ _ _ h => h) (by kernel_rfl) ?_
            try simp only [Act.put, List.setIfInBounds_toArray, List.set_cons_zero, List.set_cons_succ]
            refine skip_held (i := 14) (d := 42) rfl rfl (by kernel_rfl) (by kernel_rfl) (by kernel_rfl) (fun _ _ _ h => h) (by kernel_rfl) ?_
            try simp only [Act.put, List.setIfInBounds_toArray, List.set_cons_zero, List.set_cons_succ]
            refine skip_held (i := 15) (d := 43) rfl rfl (by kernel_rfl) (by kernel_rfl) (by kernel_rfl) (fun _ _ _ h => h) (by kernel_rfl) ?_
            try simp only [Act.put, List.setIfInBounds_toArray, List.set_cons_zero, List.set_cons_succ]
            refine skip_held (i := 16) (d := 44) rfl rfl (by kernel_rfl) (by kernel_rfl) (by kernel_rfl) (fun _ _ _ h => h) (by kernel_rfl) ?_
            try simp only [Act.put, List.setIfInBounds_toArray, List.set_cons_zero, List.set_cons_succ]
            refine skip_held (i := 17) (d := 45) rfl rfl (by kernel_rfl) (by kernel_rfl) (by kernel_rfl) (fun _ _ _ h => h) (by kernel_rfl) ?_
            try simp only [Act.put, List.setIfInBounds_toArray, List.set_cons_zero, List.set_cons_succ]
            refine skip_held (i := 18) (d := 46) rfl rfl (by kernel_rfl) (by kernel_rfl) (by kernel_rfl) (fun _ _ _ h => h) (by kernel_rfl) ?_
            try simp only [Act.put, List.setIfInBounds_toArray, List.set_cons_zero, List.set_cons_succ]
            refine take_held (i := 19) (d := 47) rfl rfl (by kernel_rfl) (by kernel_rfl) (by kernel_rfl) (fun _ _ _ h => h) (by kernel_rfl) (fun w _ => by go_simp; try rfl) ?_
            try simp only [Act.put, List.setIfInBounds_toArray, List.set_cons_zero, List.set_cons_succ]
            refine wpAnyH_done (by kernel_rfl) ?_ _
            go_wp2
            go_ret
          · exact ⟨ret_bool HF.out.symm, ((HB.out.drew.trans (hb1.mono (by simp; omega))).alloc (by omega) _).drew⟩
          · exact ⟨ret_bool HF.out.symm, (((HB.out.drew.alloc (by simp; omega) _).trans (hb1.mono (by simp; omega))).setCell (p := ⟨wr.heap.size, 0, none⟩) (by simp; omega) _).drew⟩
        · by_cases hle : nth zs ((m + 1) * 4) ≤ nth zs (m * 4)
          · have HF := Lib.hid (archB_f2 hlt (pairB_f2 hle))
            go_wp2
            go_region_held3 (fun w' => w'.cell? ⟨w.heap.size, 0, none⟩ = some (.slice (some ⟨b, off, none⟩) n c) ∧ (w'.cell? ⟨b, off + m * 4, none⟩ = some (.int .i64 (nth zs (m * 4))) ∧ w'.cell? ⟨b, off + m * 4 + 1, none⟩ = some (.int .i64 (nth zs (m * 4 + 1))) ∧ w'.cell? ⟨b, off + m * 4 + 2, none⟩ = some (.int .i64 (nth zs (m * 4 + 2))) ∧ w'.cell? ⟨b, off + m * 4 + 3, none⟩ = some (.int .i64 (nth zs (m * 4 + 3)))) ∧ (w'.cell? ⟨b, off + (m + 1) * 4, none⟩ = some (.int .i64 (nth zs ((m + 1) * 4))) ∧ w'.cell? ⟨b, off + (m + 1) * 4 + 1, none⟩ = some (.int .i64 (nth zs ((m + 1) * 4 + 1))) ∧ w'.cell? ⟨b, off + (m + 1) * 4 + 2, none⟩ = some (.int .i64 (nth zs ((m + 1) * 4 + 2))) ∧ w'.cell? ⟨b, off + (m + 1) * 4 + 3, none⟩ = some (.int .i64 (nth zs ((m + 1) * 4 + 3))))) (first | exact ⟨hbox, ⟨x0, x1, x2, x3⟩, ⟨y0, y1, y2, y3⟩⟩ | (refine keepA (by assumption) (fun i => ?_) ?_ <;> first | exact cell_alloc_lt (by first | (simp; done) | (simp; omega) | omega) | exact (cell_alloc_lt (by first | (simp; done) | (simp; omega) | omega)).trans (cell_alloc_lt (by first | (simp; done) | (simp; omega) | omega)).symm | exact hcc _ _ (by first | (simp; done) | (simp; omega) | omega) | exact World.cell?_setCell_far _ _ _ _ (by first | (simp; done) | (simp; omega) | omega))) ((go_at_call 90; refine (sBetween_any _ _ _ _ _ _ _ _ _).mono ?_; rintro e w1 ⟨A1, n1, c1, rfl, _, _, hb1⟩; rw [hS]; obtain ⟨hcc, hff⟩ := bcell hb1; have k1 := hb1.size; simp at k1; have k2 : w1.heap.size ≠ w.heap.size := (by omega); have k3 : w1.heap.size ≠ b := (by omega)))
            all_goals
              rename_i hHeld
              obtain ⟨hbox2, ⟨u0, _, _, _⟩, ⟨v0, _, _, _⟩⟩ := hHeld
              clear hcc hff
              go_wp2
              go_region
              go_wp2
              go_ret
            · exact ⟨ret_bool HF.out.symm, ((HB.out.drew.trans (hb1.mono (by simp; omega))).alloc (by omega) _).drew⟩
            · exact ⟨ret_bool HF.out.symm, (((HB.out.drew.alloc (by simp; omega) _).trans (hb1.mono (by simp; omega))).setCell (p := ⟨wr.heap.size, 0, none⟩) (by simp; omega) _).drew⟩
          · have HS := Lib.hid (pairTo_step hag (pairB_t (by rw [HST.out]; exact hS) hle))
            go_wp2
            go_region_held3 (fun w' => w'.cell? ⟨w.heap.size, 0, none⟩ = some (.slice (some ⟨b, off, none⟩) n c) ∧ (w'.cell? ⟨b, off + m * 4, none⟩ = some (.int .i64 (nth zs (m * 4))) ∧ w'.cell? ⟨b, off + m * 4 + 1, none⟩ = some (.int .i64 (nth zs (m * 4 + 1))) ∧ w'.cell? ⟨b, off + m * 4 + 2, none⟩ = some (.int .i64 (nth zs (m * 4 + 2))) ∧ w'.cell? ⟨b, off + m * 4 + 3, none⟩ = some (.int .i64 (nth zs (m * 4 + 3)))) ∧ (w'.cell? ⟨b, off + (m + 1) * 4, none⟩ = some (.int .i64 (nth zs ((m + 1) * 4))) ∧ w'.cell? ⟨b, off + (m + 1) * 4 + 1, none⟩ = some (.int .i64 (nth zs ((m + 1) * 4 + 1))) ∧ w'.cell? ⟨b, off + (m + 1) * 4 + 2, none⟩ = some (.int .i64 (nth zs ((m + 1) * 4 + 2))) ∧ w'.cell? ⟨b, off + (m + 1) * 4 + 3, none⟩ = some (.int .i64 (nth zs ((m + 1) * 4 + 3))))) (first | exact ⟨hbox, ⟨x0, x1, x2, x3⟩, ⟨y0, y1, y2, y3⟩⟩ | (refine keepA (by assumption) (fun i => ?_) ?_ <;> first | exact cell_alloc_lt (by first | (simp; done) | (simp; omega) | omega) | exact (cell_alloc_lt (by first | (simp; done) | (simp; omega) | omega)).trans (cell_alloc_lt (by first | (simp; done) | (simp; omega) | omega)).symm | exact hcc _ _ (by first | (simp; done) | (simp; omega) | omega) | exact World.cell?_setCell_far _ _ _ _ (by first | (simp; done) | (simp; omega) | omega))) ((go_at_call 90; refine (sBetween_any _ _ _ _ _ _ _ _ _).mono ?_; rintro e w1 ⟨A1, n1, c1, rfl, _, _, hb1⟩; rw [hS]; obtain ⟨hcc, hff⟩ := bcell hb1; have k1 := hb1.size; simp at k1; have k2 : w1.heap.size ≠ w.heap.size := (by omega); have k3 : w1.heap.size ≠ b := (by omega)))
            all_goals
              rename_i hHeld
              obtain ⟨hbox2, ⟨u0, _, _, _⟩, ⟨v0, _, _, _⟩⟩ := hHeld
              have HBX := Lib.hid hbox2
              clear hcc hff
              go_wp2
              go_region
              clear i1 i5
              go_wp2
              go_roundw
            case rel => exact ⟨m + 1, by omega, by go_num, HS.out, HBX.out, ((HB.out.drew.trans (hb1.mono (by simp; omega))).alloc (by omega) _).drew⟩
            case measure => first | (simp [intOf]; done) | (simp [intOf]; omega)
            case rel => exact ⟨m + 1, by omega, by go_num, HS.out, HBX.out, (((HB.out.drew.alloc (by simp; omega) _).trans (hb1.mono (by simp; omega))).setCell (p := ⟨wr.heap.size, 0, none⟩) (by simp; omega) _).drew⟩
            case measure => first | (simp [intOf]; done) | (simp [intOf]; omega)
      · have hag' : pairTo zs (n - 1) := by rw [show n - 1 = m by omega]; exact hag
        have i1 : ¬ (m : Int) + 1 < (n : Int) := by omega
        clear hb
        cases hB : inB (n : Int) 3 8
        · have HF := Lib.hid (archB_f1 (zs := zs) hB)
          go_wp2_with (go_at_call 26; refine (l01In_any _ _ _ _).mono ?_; rintro e w' ⟨rfl, rfl⟩)
          go_ret
          exact ⟨ret_bool HF.out.symm, HB.out⟩
        · have HF := Lib.hid (archB_t hB hag')
          go_wp2_with (go_at_call 26; refine (l01In_any _ _ _ _).mono ?_; rintro e w' ⟨rfl, rfl⟩)
          go_ret
          exact ⟨ret_bool HF.out.symm, HB.out⟩

set_option maxHeartbeats 1000000 in
theorem iArchOk_any (A : Option Addr) (n c : Nat) (zs : List Int) (w : World) (h : RecsAt w w.heap.size 4 A n zs) (hn : n ≤ 1048576) :
    Calls Try.prog 80 #[.agg #[.slice A n c]] w fun e w' => e = .returned (.bool (archB zs n)) ∧ Below w.heap.size w w' := by
  have HA := Lib.hid ((Below.refl w.heap.size w).alloc (Nat.le_refl _) (.cells #[.slice A n c] 41))
  have H := Lib.hid h
  clear h
  cases hB : inB (n : Int) 3 8
  · have HF := Lib.hid (archB_f1 (zs := zs) hB)
    go_enter Try.func80, Try.ntmps80
    go_wp2_with (go_at_call 31; refine (within_any _ _ _ _).mono ?_; rintro e w' ⟨rfl, rfl⟩)
    go_ret
    exact ⟨ret_bool HF.out.symm, HA.out⟩
  · go_enter Try.func80, Try.ntmps80
    go_wp2_with (go_at_call 31; refine (within_any _ _ _ _).mono ?_; rintro e w' ⟨rfl, rfl⟩)
    go_loopw [3] (fun i wr => ∃ k : Nat, (k ≤ n - 1) ∧ i = .int .i64 ((k + 1 : Nat) : Int) ∧ pairTo zs k ∧ wr.cell? ⟨w.heap.size, 0, none⟩ = some (.slice A n c) ∧ Below w.heap.size w wr) (fun i _ => n - (intOf i).toNat)
    case atStart => exact ⟨0, Nat.zero_le _, rfl, pairTo_0 _, cell_new0 _ _ _, HA.out⟩
    case round =>
      clear HA
      obtain ⟨m, hk, rfl, hag, hbox, hb⟩ := hrel
      have HB := Lib.hid hb
      have hgl := World.block_lt_of_cell? wr _ hbox
      simp only at hgl
      by_cases hlt : m + 1 < n
      · obtain ⟨b, off, rfl, hbB, hc⟩ := H.out.2 (by omega)
        obtain ⟨x0, x1, x2, x3⟩ := jtCells (fun i hi => (hb.cell (by exact hbB)).trans (hc i hi)) (show m < n by omega)
        obtain ⟨y0, y1, y2, y3⟩ := jtCells (fun i hi => (hb.cell (by exact hbB)).trans (hc i hi)) hlt
        clear hb hc
        have i1 : IntKind.i64.wrap (m : Int) = (m : Int) := IntWalk.i64_in _ (by omega)
        have i2 : (m : Int) < (n : Int) := by omega
        have i3 : (m : Int) + 1 < (n : Int) := by omega
        have i4 : (0 : Int) ≤ (m : Int) + 1 := by omega
        have i5 : ((m : Int) + 1).toNat = m + 1 := by omega
        have e1 : wr.heap.size ≠ w.heap.size := by omega
        have e2 : wr.heap.size ≠ b := by omega
        have HST : Hid (btwA zs m = btw (nth zs (m * 4)) (nth zs (m * 4 + 1)) (nth zs (m * 4 + 2)) (nth zs (m * 4 + 3)) (nth zs ((m + 1) * 4)) (nth zs ((m + 1) * 4 + 1)) (nth zs ((m + 1) * 4 + 2)) (nth zs ((m + 1) * 4 + 3))) := rfl
        cases hS : stoneB (btw (nth zs (m * 4)) (nth zs (m * 4 + 1)) (nth zs (m * 4 + 2)) (nth zs (m * 4 + 3)) (nth zs ((m + 1) * 4)) (nth zs ((m + 1) * 4 + 1)) (nth zs ((m + 1) * 4 + 2)) (nth zs ((m + 1) * 4 + 3))) 4
        · have HF := Lib.hid (archB_f2 hlt (pairB_f1 (by rw [HST.out]; exact hS)))
          go_wp2
          go_region_held3 (fun w' => w'.cell? ⟨w.heap.size, 0, none⟩ = some (.slice (some ⟨b, off, none⟩) n c) ∧ (w'.cell? ⟨b, off + m * 4, none⟩ = some (.int .i64 (nth zs (m * 4))) ∧ w'.cell? ⟨b, off + m * 4 + 1, none⟩ = some (.int .i64 (nth zs (m * 4 + 1))) ∧ w'.cell? ⟨b, off + m * 4 + 2, none⟩ = some (.int .i64 (nth zs (m * 4 + 2))) ∧ w'.cell? ⟨b, off + m * 4 + 3, none⟩ = some (.int .i64 (nth zs (m * 4 + 3)))) ∧ (w'.cell? ⟨b, off + (m + 1) * 4, none⟩ = some (.int .i64 (nth zs ((m + 1) * 4))) ∧ w'.cell? ⟨b, off + (m + 1) * 4 + 1, none⟩ = some (.int .i64 (nth zs ((m + 1) * 4 + 1))) ∧ w'.cell? ⟨b, off + (m + 1) * 4 + 2, none⟩ = some (.int .i64 (nth zs ((m + 1) * 4 + 2))) ∧ w'.cell? ⟨b, off + (m + 1) * 4 + 3, none⟩ = some (.int .i64 (nth zs ((m + 1) * 4 + 3))))) (first | exact ⟨hbox, ⟨x0, x1, x2, x3⟩, ⟨y0, y1, y2, y3⟩⟩ | (refine keepA (by assumption) (fun i => ?_) ?_ <;> first | exact cell_alloc_lt (by first | (simp; done) | (simp; omega) | omega) | exact (cell_alloc_lt (by first | (simp; done) | (simp; omega) | omega)).trans (cell_alloc_lt (by first | (simp; done) | (simp; omega) | omega)).symm | exact hcc _ _ (by first | (simp; done) | (simp; omega) | omega) | exact World.cell?_setCell_far _ _ _ _ (by first | (simp; done) | (simp; omega) | omega))) ((go_at_call 98; refine (iBetween_any _ _ _ _ _ _ _ _ _).mono ?_; rintro e w1 ⟨A1, n1, c1, rfl, _, _, hb1⟩; rw [hS]; obtain ⟨hcc, hff⟩ := bcell hb1; have k1 := hb1.size; simp at k1; have k2 : w1.heap.size ≠ w.heap.size := (by omega); have k3 : w1.heap.size ≠ b := (by omega)))
          all_goals
            clear hcc hff
            go_wp2
            refine wp_region_held_drew (S := fun _ => True) (by kernel_rfl) trivial (fun _ => ?_)
            refine take_held (i := 0) (d := 33) rfl rfl (by kernel_rfl) (by kernel_rfl) (by kernel_rfl) (fun _ _ _ h => h) (by kernel_rfl) (fun w _ => by go_simp; try rfl) ?_
            try simp only [Act.put, List.setIfInBounds_toArray, List.set_cons_zero, List.set_cons_succ]
            refine take_held (i := 1) (d := 34) rfl rfl (by kernel_rfl) (by kernel_rfl) (by kernel_rfl) (fun _ _ _ h => h) (by kernel_rfl) (fun w _ => by go_simp; try rfl) ?_
            try simp only [Act.put, List.setIfInBounds_toArray, List.set_cons_zero, List.set_cons_succ]
            refine take_held (i := 2) (d := 35) rfl rfl (by kernel_rfl) (by kernel_rfl) (by kernel_rfl) (fun _ _ _ h => h) (by kernel_rfl) (fun w _ => by go_simp; try rfl) ?_
            try simp only [Act.put, List.setIfInBounds_toArray, List.set_cons_zero, List.set_cons_succ]
            refine skip_held (i := 3) (d := 36) rfl rfl (by kernel_rfl) (by kernel_rfl) (by kernel_rfl) (fun _ _ _ h => h) (by kernel_rfl) ?_
            try simp only [Act.put, List.setIfInBounds_toArray, List.set_cons_zero, List.set_cons_succ]
            refine skip_held (i := 4) (d := 37) rfl rfl (by kernel_rfl) (by kernel_rfl) (by kernel_rfl) (fun _ _ _ h => h) (by kernel_rfl) ?_
            try simp only [Act.put, List.setIfInBounds_toArray, List.set_cons_zero, List.set_cons_succ]
            refine skip_held (i := 5) (d := 38) rfl rfl (by kernel_rfl) (by kernel_rfl) (by kernel_rfl) (fun _ _ _ h => h) (by kernel_rfl) ?_
            try simp only [Act.put, List.setIfInBounds_toArray, List.set_cons_zero, List.set_cons_succ]
            refine skip_held (i := 6) (d := 39) rfl rfl (by kernel_rfl) (by kernel_rfl) (by kernel_rfl) (fun _ _ _ h => h) (by kernel_rfl) ?_
            try simp only [Act.put, List.setIfInBounds_toArray, List.set_cons_zero, List.set_cons_succ]
            refine skip_held (i := 7) (d := 40) rfl rfl (by kernel_rfl) (by kernel_rfl) (by kernel_rfl) (fun _ _ _ h => h) (by kernel_rfl) ?_
            try simp only [Act.put, List.setIfInBounds_toArray, List.set_cons_zero, List.set_cons_succ]
            refine skip_held (i := 8) (d := 41) rfl rfl (by kernel_rfl) (by kernel_rfl) (by kernel_rfl) (fun _ _ _ h => h) (by kernel_rfl) ?_
            try simp only [Act.put, List.setIfInBounds_toArray, List.set_cons_zero, List.set_cons_succ]
            refine skip_held (i := 9) (d := 42) rfl rfl (by kernel_rfl) (by kernel_rfl) (by kernel_rfl) (fun _ _ _ h => h) (by kernel_rfl) ?_
            try simp only [Act.put, List.setIfInBounds_toArray, List.set_cons_zero, List.set_cons_succ]
            refine skip_held (i := 10) (d := 43) rfl rfl (by kernel_rfl) (by kernel_rfl) (by kernel_rfl) (fun _ _ _ h => h) (by kernel_rfl) ?_
            try simp only [Act.put, List.setIfInBounds_toArray, List.set_cons_zero, List.set_cons_succ]
            refine skip_held (i := 11) (d := 44) rfl rfl (by kernel_rfl) (by kernel_rfl) (by kernel_rfl) (fun _ _ _ h => h) (by kernel_rfl) ?_
            try simp only [Act.put, List.setIfInBounds_toArray, List.set_cons_zero, List.set_cons_succ]
            refine skip_held (i := 12) (d := 45) rfl rfl (by kernel_rfl) (by kernel_rfl) (by kernel_rfl) (fun _ _ _ h => h) (by kernel_rfl) ?_
            try simp only [Act.put, List.setIfInBounds_toArray, List.set_cons_zero, List.set_cons_succ]
            refine skip_held (i := 13) (d := 46) rfl rfl (by kernel_rfl) (by kernel_rfl) (by kernel_rfl) (fun _ _ _ h => h) (by kernel_rfl) ?_
            try simp only [Act.put, List.setIfInBounds_toArray, List.set_cons_zero, List.set_cons_succ]
            refine skip_held (i := 14) (d := 47) rfl rfl (by kernel_rfl) (by kernel_rfl) (by kernel_rfl) (fun _ _ _ h => h) (by kernel_rfl) ?_
            try simp only [Act.put, List.setIfInBounds_toArray, List.set_cons_zero, List.set_cons_succ]
            refine skip_held (i := 15) (d := 48) rfl rfl (by kernel_rfl) (by kernel_rfl) (by kernel_rfl) (fun _ _ _ h => h) (by kernel_rfl) ?_
            try simp only [Act.put, List.setIfInBounds_toArray, List.set_cons_zero, List.set_cons_succ]
            refine skip_held (i := 16) (d := 49) rfl rfl (by kernel_rfl) (by kernel_rfl) (by kernel_rfl) (fun _ _ _ h => h) (by kernel_rfl) ?_
            try simp only [Act.put, List.setIfInBounds_toArray, List.set_cons_zero, List.set_cons_succ]
            refine skip_held (i := 17) (d := 50) rfl rfl (by kernel_rfl) (by kernel_rfl) (by kernel_rfl) (fun _ _ _ h => h) (by kernel_rfl) ?_
            try simp only [Act.put, List.setIfInBounds_toArray, List.set_cons_zero, List.set_cons_succ]
            refine skip_held (i := 18) (d := 51) rfl rfl (by kernel_rfl) (by kernel_rfl) (by kernel_rfl) (fun _ _ _ h => h) (by kernel_rfl) ?_
            try simp only [Act.put, List.setIfInBounds_toArray, List.set_cons_zero, List.set_cons_succ]
            refine take_held (i := 19) (d := 52) rfl rfl (by kernel_rfl) (by kernel_rfl) (by kernel_rfl) (fun _ _ _ h => h) (by kernel_rfl) (fun w _ => by go_simp; try rfl) ?_
            try simp only [Act.put, List.setIfInBounds_toArray, List.set_cons_zero, List.set_cons_succ]
            refine wpAnyH_done (by kernel_rfl) ?_ _
            go_wp2
            go_ret
          · exact ⟨ret_bool HF.out.symm, ((HB.out.drew.trans (hb1.mono (by simp; omega))).alloc (by omega) _).drew⟩
          · exact ⟨ret_bool HF.out.symm, (((HB.out.drew.alloc (by simp; omega) _).trans (hb1.mono (by simp; omega))).setCell (p := ⟨wr.heap.size, 0, none⟩) (by simp; omega) _).drew⟩
        · by_cases hle : nth zs ((m + 1) * 4) ≤ nth zs (m * 4)
          · have HF := Lib.hid (archB_f2 hlt (pairB_f2 hle))
            go_wp2
            go_region_held3 (fun w' => w'.cell? ⟨w.heap.size, 0, none⟩ = some (.slice (some ⟨b, off, none⟩) n c) ∧ (w'.cell? ⟨b, off + m * 4, none⟩ = some (.int .i64 (nth zs (m * 4))) ∧ w'.cell? ⟨b, off + m * 4 + 1, none⟩ = some (.int .i64 (nth zs (m * 4 + 1))) ∧ w'.cell? ⟨b, off + m * 4 + 2, none⟩ = some (.int .i64 (nth zs (m * 4 + 2))) ∧ w'.cell? ⟨b, off + m * 4 + 3, none⟩ = some (.int .i64 (nth zs (m * 4 + 3)))) ∧ (w'.cell? ⟨b, off + (m + 1) * 4, none⟩ = some (.int .i64 (nth zs ((m + 1) * 4))) ∧ w'.cell? ⟨b, off + (m + 1) * 4 + 1, none⟩ = some (.int .i64 (nth zs ((m + 1) * 4 + 1))) ∧ w'.cell? ⟨b, off + (m + 1) * 4 + 2, none⟩ = some (.int .i64 (nth zs ((m + 1) * 4 + 2))) ∧ w'.cell? ⟨b, off + (m + 1) * 4 + 3, none⟩ = some (.int .i64 (nth zs ((m + 1) * 4 + 3))))) (first | exact ⟨hbox, ⟨x0, x1, x2, x3⟩, ⟨y0, y1, y2, y3⟩⟩ | (refine keepA (by assumption) (fun i => ?_) ?_ <;> first | exact cell_alloc_lt (by first | (simp; done) | (simp; omega) | omega) | exact (cell_alloc_lt (by first | (simp; done) | (simp; omega) | omega)).trans (cell_alloc_lt (by first | (simp; done) | (simp; omega) | omega)).symm | exact hcc _ _ (by first | (simp; done) | (simp; omega) | omega) | exact World.cell?_setCell_far _ _ _ _ (by first | (simp; done) | (simp; omega) | omega))) ((go_at_call 98; refine (iBetween_any _ _ _ _ _ _ _ _ _).mono ?_; rintro e w1 ⟨A1, n1, c1, rfl, _, _, hb1⟩; rw [hS]; obtain ⟨hcc, hff⟩ := bcell hb1; have k1 := hb1.size; simp at k1; have k2 : w1.heap.size ≠ w.heap.size := (by omega); have k3 : w1.heap.size ≠ b := (by omega)))
            all_goals
              rename_i hHeld
              obtain ⟨hbox2, ⟨u0, _, _, _⟩, ⟨v0, _, _, _⟩⟩ := hHeld
              clear hcc hff
              go_wp2
              go_region
              go_wp2
              go_ret
            · exact ⟨ret_bool HF.out.symm, ((HB.out.drew.trans (hb1.mono (by simp; omega))).alloc (by omega) _).drew⟩
            · exact ⟨ret_bool HF.out.symm, (((HB.out.drew.alloc (by simp; omega) _).trans (hb1.mono (by simp; omega))).setCell (p := ⟨wr.heap.size, 0, none⟩) (by simp; omega) _).drew⟩
          · have HS := Lib.hid (pairTo_step hag (pairB_t (by rw [HST.out]; exact hS) hle))
            go_wp2
            go_region_held3 (fun w' => w'.cell? ⟨w.heap.size, 0, none⟩ = some (.slice (some ⟨b, off, none⟩) n c) ∧ (w'.cell? ⟨b, off + m * 4, none⟩ = some (.int .i64 (nth zs (m * 4))) ∧ w'.cell? ⟨b, off + m * 4 + 1, none⟩ = some (.int .i64 (nth zs (m * 4 + 1))) ∧ w'.cell? ⟨b, off + m * 4 + 2, none⟩ = some (.int .i64 (nth zs (m * 4 + 2))) ∧ w'.cell? ⟨b, off + m * 4 + 3, none⟩ = some (.int .i64 (nth zs (m * 4 + 3)))) ∧ (w'.cell? ⟨b, off + (m + 1) * 4, none⟩ = some (.int .i64 (nth zs ((m + 1) * 4))) ∧ w'.cell? ⟨b, off + (m + 1) * 4 + 1, none⟩ = some (.int .i64 (nth zs ((m + 1) * 4 + 1))) ∧ w'.cell? ⟨b, off + (m + 1) * 4 + 2, none⟩ = some (.int .i64 (nth zs ((m + 1) * 4 + 2))) ∧ w'.cell? ⟨b, off + (m + 1) * 4 + 3, none⟩ = some (.int .i64 (nth zs ((m + 1) * 4 + 3))))) (first | exact ⟨hbox, ⟨x0, x1, x2, x3⟩, ⟨y0, y1, y2, y3⟩⟩ | (refine keepA (by assumption) (fun i => ?_) ?_ <;> first | exact cell_alloc_lt (by first | (simp; done) | (simp; omega) | omega) | exact (cell_alloc_lt (by first | (simp; done) | (simp; omega) | omega)).trans (cell_alloc_lt (by first | (simp; done) | (simp; omega) | omega)).symm | exact hcc _ _ (by first | (simp; done) | (simp; omega) | omega) | exact World.cell?_setCell_far _ _ _ _ (by first | (simp; done) | (simp; omega) | omega))) ((go_at_call 98; refine (iBetween_any _ _ _ _ _ _ _ _ _).mono ?_; rintro e w1 ⟨A1, n1, c1, rfl, _, _, hb1⟩; rw [hS]; obtain ⟨hcc, hff⟩ := bcell hb1; have k1 := hb1.size; simp at k1; have k2 : w1.heap.size ≠ w.heap.size := (by omega); have k3 : w1.heap.size ≠ b := (by omega)))
            all_goals
              rename_i hHeld
              obtain ⟨hbox2, ⟨u0, _, _, _⟩, ⟨v0, _, _, _⟩⟩ := hHeld
              have HBX := Lib.hid hbox2
              clear hcc hff
              go_wp2
              go_region
              clear i1 i5
              go_wp2
              go_roundw
            case rel => exact ⟨m + 1, by omega, by go_num, HS.out, HBX.out, ((HB.out.drew.trans (hb1.mono (by simp; omega))).alloc (by omega) _).drew⟩
            case measure => first | (simp [intOf]; done) | (simp [intOf]; omega)
            case rel => exact ⟨m + 1, by omega, by go_num, HS.out, HBX.out, (((HB.out.drew.alloc (by simp; omega) _).trans (hb1.mono (by simp; omega))).setCell (p := ⟨wr.heap.size, 0, none⟩) (by simp; omega) _).drew⟩
            case measure => first | (simp [intOf]; done) | (simp [intOf]; omega)
      · have hag' : pairTo zs (n - 1) := by rw [show n - 1 = m by omega]; exact hag
        have i1 : ¬ (m : Int) + 1 < (n : Int) := by omega
        clear hb
        have HF := Lib.hid (archB_t hB hag')
        go_wp2
        go_ret
        exact ⟨ret_bool HF.out.symm, HB.out⟩
end Go.Proofs.Ytdjhiegolojoaaa
