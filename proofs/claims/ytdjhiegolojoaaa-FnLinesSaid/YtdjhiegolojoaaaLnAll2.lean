import Derived.Test.YtdjhiegolojoaaaLnAll1
import Derived.Test.YtdjhiegolojoaaaWL07
import Derived.BigRegion
import Derived.Test.YtdjhiegolojoaaaWWts
import Derived.Test.YtdjhiegolojoaaaHeld
import Derived.Test.YtdjhiegolojoaaaApp
import Derived.Test.YtdjhiegolojoaaaRow
import Derived.Test.YtdjhiegolojoaaaProg
import Derived.Test.YtdjhiegolojoaaaOnly
import Derived.Deep.RegionHeld3
import Derived.Outline
import Derived.WalkKit
import Derived.IntWalk
import Derived.Test.YtdjhiegolojoaaaWLines
import Derived.Deep.DeepCutAuto
section
/-
  Contract: RowsOf in the reference.
-/
namespace Go.Proofs.Ytdjhiegolojoaaa
open Go.RowKit
set_option linter.unusedSimpArgs false

/-- How many rows RowsOf returns, and which. -/
def rowsN (zs : List Int) (n : Nat) (ls : List Int) (q : Nat) : Nat := if loadsB zs n ls q = true then n * 2 + 1 else 0
def rowsZ (zs : List Int) (n : Nat) (ls : List Int) (q : Nat) : List Int := if loadsB zs n ls q = true then rowsL zs (leftW zs ls q) (leftM zs ls q) n else []
section
variable {zs : List Int} {n : Nat} {ls : List Int} {q : Nat}
theorem rows_t (h : loadsB zs n ls q = true) : rowsN zs n ls q = n * 2 + 1 ∧ rowsZ zs n ls q = rowsL zs (leftW zs ls q) (leftM zs ls q) n := by simp [rowsN, rowsZ, h]
theorem rows_f (h : loadsB zs n ls q = false) : rowsN zs n ls q = 0 ∧ rowsZ zs n ls q = [] := by simp [rowsN, rowsZ, h]
theorem wmok_left (h : loadsB zs n ls q = true) : WMok (leftW zs ls q) (leftM zs ls q) n := by
  obtain ⟨hA, hq, hl⟩ := loadsB_out h
  have hn := (archB_out hA).1
  intro k hk
  have h1 := leftW_bd zs hl hq k
  have h2 := leftM_bd zs hl hq k
  omega
end
/-- A row of ints that stays. -/
theorem OwnR.rowInts {w : World} {base : Nat} {E : TypeId} {A : Option Addr} {n c : Nat} {xs : List Int} (h : OwnR w base E 1 (.slice A n c) n xs) (hn : 0 < n) : ∃ g, A = some ⟨g, 0, none⟩ ∧ base ≤ g ∧ RowF w g E n (Go.Proofs.Ytdjhiegolojoaaa.ints xs) := by
  rcases h.form with ⟨_, h2, _⟩ | ⟨g, cap, e, h2, _, hr⟩
  · omega
  · simp at e
    rw [Nat.mul_one] at hr
    exact ⟨g, e.1, h2, hr⟩
/-- The loop's state. -/
structure RSp (w wr : World) (va : Value) (g6 g7 : Nat) (zs ls : List Int) (q n k : Nat) (v5 : Value) : Prop where
  arch : RowF wr w.heap.size 41 1 (fun _ => va)
  ws : RowF wr g6 3 n (ints (lwL zs ls q n))
  ms : RowF wr g7 3 n (ints (lmL zs ls q n))
  own : OwnR wr (w.heap.size + 1) 117 4 v5 (k * 2) (rowTo zs (leftW zs ls q) (leftM zs ls q) k)
  below : Below w.heap.size w wr
theorem rowF1 (w : World) (u : Value) (T : TypeId) : RowF (w.alloc (.cells #[u] T)) w.heap.size T 1 (fun _ => u) := RowF.of_row (World.rowIs_alloc w #[u] T (fun _ => u) (fun i hi => by simp at hi; subst hi; rfl))
theorem rowC_new2 (w : World) (a b : Int) (T : TypeId) : RowF (w.alloc (.cells #[.int .i64 a, .int .i64 b] T)) w.heap.size T 2 (ints [a, b]) :=
  RowF.of_row (World.rowIs_alloc w #[.int .i64 a, .int .i64 b] T _ (fun j hj => by simp at hj; match j, hj with | 0, _ => rfl | 1, _ => rfl))

set_option maxRecDepth 100000 in
set_option maxHeartbeats 6400000 in
theorem sRowsOf_any (A : Option Addr) (n c : Nat) (zs : List Int) (B : Option Addr) (q d : Nat) (ls : List Int) (w : World) (h : RecsAt w w.heap.size 4 A n zs) (hn : n ≤ 1048576) (hl : RecsAt w w.heap.size 3 B q ls) (hq : q ≤ 1048576) :
    Calls Try.prog 42 #[.agg #[.slice A n c], .slice B q d] w (RowsPost w (rowsN zs n ls q) (rowsZ zs n ls q)) := by
  have hs0 : (w.alloc (.cells #[.slice A n c] 41)).heap.size = w.heap.size + 1 := World.size_alloc _ _
  have b0 : Below w.heap.size w ((w.alloc (.cells #[.slice A n c] 41)).alloc (.cells #[] 117)) := ((Below.refl _ _).alloc (Nat.le_refl _) _).alloc (by simp) _
  have h1 := h.after b0
  have l1 := hl.after b0
  have r0 := (rowF1 w (.slice A n c) 41).alloc (.cells #[] 117)
  have a0 := r0.cell (i := 0) (by omega)
  have o0 : OwnR ((w.alloc (.cells #[.slice A n c] 41)).alloc (.cells #[] 117)) (w.heap.size + 1) 117 4 (.slice (some ⟨w.heap.size + 1, 0, none⟩) 0 0) 0 [] := by
    have h := OwnR.new (w.alloc (.cells #[.slice A n c] 41)) 117 4
    rw [hs0] at h
    exact h
  have HB0 := Lib.hid b0
  have HO0 := Lib.hid o0
  have HR0 := Lib.hid r0
  cases hL : loadsB zs n ls q
  · have HF := Lib.hid (rows_f hL)
    clear b0 o0 r0 hs0 h hl
    go_enter Try.func42, Try.ntmps42
    go_wp2_with fail
    refine (sLoadsOk_any _ _ _ zs _ _ _ ls _ h1 hn l1 hq).mono ?_
    rw [hL]
    rintro e w1 ⟨rfl, hb1⟩
    have HO1 := Lib.hid (HO0.out.below hb1)
    have HB1 := Lib.hid (HB0.out.trans (hb1.mono HB0.out.size))
    clear hb1
    go_wp2
    go_ret
    exact ⟨_, rfl, by rw [HF.out.1, HF.out.2]; exact HO1.out.weaken (by omega), HB1.out⟩
  · have HT := Lib.hid (rows_t hL)
    have hA := (loadsB_out hL).1
    have hn8 := (archB_out hA).1
    have hwm := wmok_left hL
    have HJB := Lib.hid (fun k (hk : k < n) => jBd_of hA hwm hk)
    have HOK := Lib.hid (fun i (hi : i < n * 2 + 1) => rowsL_ok hA hwm i hi)
    obtain ⟨b, off, rfl, hbB, hcell⟩ := h.2 (by omega)
    have HC := Lib.hid (fun j (hj : j < n) => jtCells hcell hj)
    clear b0 o0 r0 hs0 h hl hcell hA hwm
    go_enter Try.func42, Try.ntmps42
    go_wp2_with fail
    refine (sLoadsOk_any _ _ _ zs _ _ _ ls _ h1 hn l1 hq).mono ?_
    rw [hL]
    rintro e w1 ⟨rfl, hb1⟩
    have HO1 := Lib.hid (HO0.out.below hb1)
    have HB1 := Lib.hid (HB0.out.trans (hb1.mono HB0.out.size))
    have HR1 := Lib.hid (HR0.out.after hb1)
    have h2 := h1.after hb1
    have l2 := l1.after hb1
    have a1 := HR1.out.cell (i := 0) (by omega)
    clear hb1 h1 l1 HO0 HB0 HR0 a0
    go_wp2_with fail
    refine (sLeftO_any _ _ _ zs _ _ _ ls _ h2 l2 hL).mono ?_
    rintro e W2 ⟨A6, c6, A7, c7, rfl, hi6, hi7, hb2⟩
    obtain ⟨g6, rfl, hg6, hr6⟩ := hi6.rowInts (by omega)
    obtain ⟨g7, rfl, hg7, hr7⟩ := hi7.rowInts (by omega)
    have HST : Hid (RSp w W2 (.slice (some ⟨b, off, none⟩) n c) g6 g7 zs ls q n 0 (.slice (some ⟨w.heap.size + 1, 0, none⟩) 0 0)) := ⟨HR1.out.after hb2, hr6, hr7, HO1.out.below hb2, HB1.out.trans (hb2.mono HB1.out.size)⟩
    clear hi6 hi7 hb2 h2 l2 a1 hr6 hr7 HO1 HB1 HR1
    go_wp2
    go_loopw [5, 8] (fun v5 v8 wr => ∃ (k : Nat), k ≤ n ∧ v8 = .int .i64 k ∧ Hid (RSp w wr (.slice (some ⟨b, off, none⟩) n c) g6 g7 zs ls q n k v5)) (fun _ v8 _ => n - (intOf v8).toNat)
    case atStart => exact ⟨0, Nat.zero_le _, rfl, HST⟩
    case round =>
      clear HST
      obtain ⟨k, hk, rfl, HR⟩ := hrel
      have hz := HR.out.below.size
      have a0 : wr.cell? ⟨w.heap.size, 0, none⟩ = some (.slice (some ⟨b, off, none⟩) n c) := HR.out.arch.cell (by omega)
      have hal := HR.out.arch.lt
      by_cases hlt : k < n
      · have ki : (k : Int) < (n : Int) := by omega
        have k0 : (0 : Int) ≤ (k : Int) := by omega
        have hq := HC.out k hlt
        have x0 : wr.cell? ⟨b, off + k * 4, none⟩ = some (.int .i64 (nth zs (k * 4))) := (HR.out.below.cell (by exact hbB)).trans hq.1
        have x1 : wr.cell? ⟨b, off + k * 4 + 1, none⟩ = some (.int .i64 (nth zs (k * 4 + 1))) := (HR.out.below.cell (by exact hbB)).trans hq.2.1
        have x2 : wr.cell? ⟨b, off + k * 4 + 2, none⟩ = some (.int .i64 (nth zs (k * 4 + 2))) := (HR.out.below.cell (by exact hbB)).trans hq.2.2.1
        have x3 : wr.cell? ⟨b, off + k * 4 + 3, none⟩ = some (.int .i64 (nth zs (k * 4 + 3))) := (HR.out.below.cell (by exact hbB)).trans hq.2.2.2
        have HX : Hid (rowTo zs (leftW zs ls q) (leftM zs ls q) k ++ [nth zs (k * 4 + 1), -nth zs (k * 4), 1, leftM zs ls q k - nth zs (k * 4) * leftW zs ls q k, -nth zs (k * 4 + 3), nth zs (k * 4 + 2), -1, nth zs (k * 4 + 2) * leftW zs ls q k - leftM zs ls q k] = rowTo zs (leftW zs ls q) (leftM zs ls q) (k + 1)) := rfl
        obtain ⟨e1, e2, e3, e4, e5, e6⟩ := jWraps (HJB.out k hlt)
        have z6 : wr.cell? ⟨g6, k, none⟩ = some (.int .i64 (leftW zs ls q k)) := by
          have h := HR.out.ws.cell hlt
          rw [ints_def, lwL_nth hlt] at h
          exact h
        have z7 : wr.cell? ⟨g7, k, none⟩ = some (.int .i64 (leftM zs ls q k)) := by
          have h := HR.out.ms.cell hlt
          rw [ints_def, lmL_nth hlt] at h
          exact h
        have HW6 := Lib.hid (lwL_nth (zs := zs) (ls := ls) (q := q) hlt)
        have HM7 := Lib.hid (lmL_nth (zs := zs) (ls := ls) (q := q) hlt)
        have g6l := HR.out.ws.lt
        have g7l := HR.out.ms.lt
        have HO := Lib.hid HR.out.own
        have HAr := Lib.hid HR.out.arch
        have HWs := Lib.hid HR.out.ws
        have HMs := Lib.hid HR.out.ms
        have HBl := Lib.hid HR.out.below
        clear hq HR
        generalize leftW zs ls q k = lw at *
        generalize leftM zs ls q k = lm at *
        generalize nth zs (k * 4) = ix at *
        generalize nth zs (k * 4 + 1) = iy at *
        generalize nth zs (k * 4 + 2) = ox at *
        generalize nth zs (k * 4 + 3) = oy at *
        have hbl : b < wr.heap.size := by omega
        have HU := Lib.hid (show Below (w.heap.size + 1) wr ((wr.alloc (.cells #[.int .i64 ix, .int .i64 iy] 65)).alloc (.cells #[.int .i64 ox, .int .i64 oy] 65)) from ((Below.refl (w.heap.size + 1) wr).alloc (by omega) _).alloc (by simp; omega) _)
        have p0 := (rowC_new2 wr ix iy 65).alloc (.cells #[.int .i64 ox, .int .i64 oy] 65)
        have p1 : RowF ((wr.alloc (.cells #[.int .i64 ix, .int .i64 iy] 65)).alloc (.cells #[.int .i64 ox, .int .i64 oy] 65)) (wr.heap.size + 1) 65 2 (ints [ox, oy]) := by
          have h := rowC_new2 (wr.alloc (.cells #[.int .i64 ix, .int .i64 iy] 65)) ox oy 65
          rw [World.size_alloc] at h
          exact h
        have P0 := Lib.hid p0
        have P1 := Lib.hid p1
        have HOA := Lib.hid ((HO.out.alloc (.cells #[.int .i64 ix, .int .i64 iy] 65)).alloc (.cells #[.int .i64 ox, .int .i64 oy] 65))
        have HAA := Lib.hid ((HAr.out.alloc (.cells #[.int .i64 ix, .int .i64 iy] 65)).alloc (.cells #[.int .i64 ox, .int .i64 oy] 65))
        have HWA := Lib.hid ((HWs.out.alloc (.cells #[.int .i64 ix, .int .i64 iy] 65)).alloc (.cells #[.int .i64 ox, .int .i64 oy] 65))
        have HMA := Lib.hid ((HMs.out.alloc (.cells #[.int .i64 ix, .int .i64 iy] 65)).alloc (.cells #[.int .i64 ox, .int .i64 oy] 65))
        have HBA := Lib.hid (show Below w.heap.size w ((wr.alloc (.cells #[.int .i64 ix, .int .i64 iy] 65)).alloc (.cells #[.int .i64 ox, .int .i64 oy] 65)) from (HBl.out.alloc hz _).alloc (by simp; omega) _)
        have hww : wr.heap.size + 2 = ((wr.alloc (.cells #[.int .i64 ix, .int .i64 iy] 65)).alloc (.cells #[.int .i64 ox, .int .i64 oy] 65)).heap.size := by simp
        have HWW := Lib.hid hww
        clear p0 p1 hww
        have HZ6 := Lib.hid ((show ∀ g i, g < wr.heap.size → ((wr.alloc (.cells #[.int .i64 ix, .int .i64 iy] 65)).alloc (.cells #[.int .i64 ox, .int .i64 oy] 65)).cell? ⟨g, i, none⟩ = wr.cell? ⟨g, i, none⟩ from fun g i hg => World.cell?_of_block (a := ⟨g, i, none⟩) (((Below.refl _ _).alloc (Nat.le_refl _) _).alloc (by simp) _ |>.block g hg)) g6 k g6l |>.trans z6)
        have HZ7 := Lib.hid ((show ∀ g i, g < wr.heap.size → ((wr.alloc (.cells #[.int .i64 ix, .int .i64 iy] 65)).alloc (.cells #[.int .i64 ox, .int .i64 oy] 65)).cell? ⟨g, i, none⟩ = wr.cell? ⟨g, i, none⟩ from fun g i hg => World.cell?_of_block (a := ⟨g, i, none⟩) (((Below.refl _ _).alloc (Nat.le_refl _) _).alloc (by simp) _ |>.block g hg)) g7 k g7l |>.trans z7)
        clear z6 z7
        go_upto_region 10 with fail
        generalize hwx : ((wr.alloc (.cells #[.int .i64 ix, .int .i64 iy] 65)).alloc (.cells #[.int .i64 ox, .int .i64 oy] 65)) = wx at *
        have z6 := HZ6.out
        have z7 := HZ7.out
        have c0 := P0.out.cell (i := 0) (by omega)
        have c1 := P0.out.cell (i := 1) (by omega)
        have d0 := P1.out.cell (i := 0) (by omega)
        have d1 := P1.out.cell (i := 1) (by omega)
        simp only [ints_def] at c0 c1 d0 d1
        have hwz := HWW.out
        clear x0 x1 x2 x3 a0 hwx
        refine wp_region_held_drew (S := fun w' => (w'.cell? ⟨wr.heap.size, 0, none⟩ = some (.int .i64 ix) ∧ w'.cell? ⟨wr.heap.size, 1, none⟩ = some (.int .i64 iy)) ∧ (w'.cell? ⟨wr.heap.size + 1, 0, none⟩ = some (.int .i64 ox) ∧ w'.cell? ⟨wr.heap.size + 1, 1, none⟩ = some (.int .i64 oy)) ∧ w'.cell? ⟨g6, k, none⟩ = some (.int .i64 lw) ∧ w'.cell? ⟨g7, k, none⟩ = some (.int .i64 lm)) (by kernel_rfl) (by exact ⟨⟨c0, c1⟩, ⟨d0, d1⟩, z6, z7⟩) (fun hHeld => ?_)
        refine take_heldS (i := 0) (d := 43) rfl rfl (by kernel_rfl) (by kernel_rfl) (by kernel_rfl) (fun _ _ _ h => h) (by kernel_rfl) (fun w hSw => by (try dsimp only at hSw); go_simp; try rfl) (by assumption) ?_
        try simp only [Act.put, List.setIfInBounds_toArray, List.set_cons_zero, List.set_cons_succ]
        refine take_heldS (i := 1) (d := 44) rfl rfl (by kernel_rfl) (by kernel_rfl) (by kernel_rfl) (fun _ _ _ h => h) (by kernel_rfl) (fun w hSw => by (try dsimp only at hSw); go_simp; try rfl) (by assumption) ?_
        try simp only [Act.put, List.setIfInBounds_toArray, List.set_cons_zero, List.set_cons_succ]
        refine take_heldS (i := 2) (d := 45) rfl rfl (by kernel_rfl) (by kernel_rfl) (by kernel_rfl) (fun _ _ _ h => h) (by kernel_rfl) (fun w hSw => by (try dsimp only at hSw); go_simp; try rfl) (by assumption) ?_
        try simp only [Act.put, List.setIfInBounds_toArray, List.set_cons_zero, List.set_cons_succ]
        refine take_heldS (i := 3) (d := 46) rfl rfl (by kernel_rfl) (by kernel_rfl) (by kernel_rfl) (fun _ _ _ h => h) (by kernel_rfl) (fun w hSw => by (try dsimp only at hSw); go_simp; try rfl) (by assumption) ?_
        try simp only [Act.put, List.setIfInBounds_toArray, List.set_cons_zero, List.set_cons_succ]
        refine take_heldS (i := 4) (d := 47) rfl rfl (by kernel_rfl) (by kernel_rfl) (by kernel_rfl) (fun _ _ _ h => h) (by kernel_rfl) (fun w hSw => by (try dsimp only at hSw); go_simp; try rfl) (by assumption) ?_
        try simp only [Act.put, List.setIfInBounds_toArray, List.set_cons_zero, List.set_cons_succ]
        refine take_heldS (i := 5) (d := 48) rfl rfl (by kernel_rfl) (by kernel_rfl) (by kernel_rfl) (fun _ _ _ h => h) (by kernel_rfl) (fun w hSw => by (try dsimp only at hSw); go_simp; try rfl) (by assumption) ?_
        try simp only [Act.put, List.setIfInBounds_toArray, List.set_cons_zero, List.set_cons_succ]
        refine take_heldS (i := 6) (d := 49) rfl rfl (by kernel_rfl) (by kernel_rfl) (by kernel_rfl) (fun _ _ _ h => h) (by kernel_rfl) (fun w hSw => by (try dsimp only at hSw); go_simp; try rfl) (by assumption) ?_
        try simp only [Act.put, List.setIfInBounds_toArray, List.set_cons_zero, List.set_cons_succ]
        refine take_heldS (i := 7) (d := 50) rfl rfl (by kernel_rfl) (by kernel_rfl) (by kernel_rfl) (fun _ _ _ h => h) (by kernel_rfl) (fun w hSw => by (try dsimp only at hSw); go_simp; try rfl) (by assumption) ?_
        try simp only [Act.put, List.setIfInBounds_toArray, List.set_cons_zero, List.set_cons_succ]
        refine take_heldS (i := 8) (d := 51) rfl rfl (by kernel_rfl) (by kernel_rfl) (by kernel_rfl) (fun _ _ _ h => h) (by kernel_rfl) (fun w hSw => by (try dsimp only at hSw); go_simp; try rfl) (by assumption) ?_
        try simp only [Act.put, List.setIfInBounds_toArray, List.set_cons_zero, List.set_cons_succ]
        refine take_heldS (i := 9) (d := 52) rfl rfl (by kernel_rfl) (by kernel_rfl) (by kernel_rfl) (fun _ _ _ h => h) (by kernel_rfl) (fun w hSw => by (try dsimp only at hSw); go_simp; try rfl) (by assumption) ?_
        try simp only [Act.put, List.setIfInBounds_toArray, List.set_cons_zero, List.set_cons_succ]
        refine take_heldS (i := 10) (d := 53) rfl rfl (by kernel_rfl) (by kernel_rfl) (by kernel_rfl) (fun _ _ _ h => h) (by kernel_rfl) (fun w hSw => by (try dsimp only at hSw); go_simp; try rfl) (by assumption) ?_
        try simp only [Act.put, List.setIfInBounds_toArray, List.set_cons_zero, List.set_cons_succ]
        refine take_heldS (i := 11) (d := 54) rfl rfl (by kernel_rfl) (by kernel_rfl) (by kernel_rfl) (fun _ _ _ h => h) (by kernel_rfl) (fun w hSw => by (try dsimp only at hSw); go_simp; try rfl) (by assumption) ?_
        try simp only [Act.put, List.setIfInBounds_toArray, List.set_cons_zero, List.set_cons_succ]
        refine take_heldS (i := 12) (d := 55) rfl rfl (by kernel_rfl) (by kernel_rfl) (by kernel_rfl) (fun _ _ _ h => h) (by kernel_rfl) (fun w hSw => by (try dsimp only at hSw); go_simp; try rfl) (by assumption) ?_
        try simp only [Act.put, List.setIfInBounds_toArray, List.set_cons_zero, List.set_cons_succ]
        refine take_heldS (i := 13) (d := 56) rfl rfl (by kernel_rfl) (by kernel_rfl) (by kernel_rfl) (fun _ _ _ h => h) (by kernel_rfl) (fun w hSw => by (try dsimp only at hSw); go_simp; try rfl) (by assumption) ?_
        try simp only [Act.put, List.setIfInBounds_toArray, List.set_cons_zero, List.set_cons_succ]
        refine take_heldS (i := 14) (d := 57) rfl rfl (by kernel_rfl) (by kernel_rfl) (by kernel_rfl) (fun _ _ _ h => h) (by kernel_rfl) (fun w hSw => by (try dsimp only at hSw); go_simp; try rfl) (by assumption) ?_
        try simp only [Act.put, List.setIfInBounds_toArray, List.set_cons_zero, List.set_cons_succ]
        refine take_heldS (i := 15) (d := 58) rfl rfl (by kernel_rfl) (by kernel_rfl) (by kernel_rfl) (fun _ _ _ h => h) (by kernel_rfl) (fun w hSw => by (try dsimp only at hSw); go_simp; try rfl) (by assumption) ?_
        try simp only [Act.put, List.setIfInBounds_toArray, List.set_cons_zero, List.set_cons_succ]
        refine take_heldS (i := 16) (d := 59) rfl rfl (by kernel_rfl) (by kernel_rfl) (by kernel_rfl) (fun _ _ _ h => h) (by kernel_rfl) (fun w hSw => by (try dsimp only at hSw); go_simp; try rfl) (by assumption) ?_
        try simp only [Act.put, List.setIfInBounds_toArray, List.set_cons_zero, List.set_cons_succ]
        refine take_heldS (i := 17) (d := 60) rfl rfl (by kernel_rfl) (by kernel_rfl) (by kernel_rfl) (fun _ _ _ h => h) (by kernel_rfl) (fun w hSw => by (try dsimp only at hSw); go_simp; try rfl) (by assumption) ?_
        try simp only [Act.put, List.setIfInBounds_toArray, List.set_cons_zero, List.set_cons_succ]
        refine take_heldS (i := 18) (d := 61) rfl rfl (by kernel_rfl) (by kernel_rfl) (by kernel_rfl) (fun _ _ _ h => h) (by kernel_rfl) (fun w hSw => by (try dsimp only at hSw); go_simp; try rfl) (by assumption) ?_
        try simp only [Act.put, List.setIfInBounds_toArray, List.set_cons_zero, List.set_cons_succ]
        refine take_heldS (i := 19) (d := 62) rfl rfl (by kernel_rfl) (by kernel_rfl) (by kernel_rfl) (fun _ _ _ h => h) (by kernel_rfl) (fun w hSw => by (try dsimp only at hSw); go_simp; try rfl) (by assumption) ?_
        try simp only [Act.put, List.setIfInBounds_toArray, List.set_cons_zero, List.set_cons_succ]
        refine take_heldS (i := 20) (d := 63) rfl rfl (by kernel_rfl) (by kernel_rfl) (by kernel_rfl) (fun _ _ _ h => h) (by kernel_rfl) (fun w hSw => by (try dsimp only at hSw); go_simp; try rfl) (by assumption) ?_
        try simp only [Act.put, List.setIfInBounds_toArray, List.set_cons_zero, List.set_cons_succ]
        refine take_heldS (i := 21) (d := 64) rfl rfl (by kernel_rfl) (by kernel_rfl) (by kernel_rfl) (fun _ _ _ h => h) (by kernel_rfl) (fun w hSw => by (try dsimp only at hSw); go_simp; try rfl) (by assumption) ?_
        try simp only [Act.put, List.setIfInBounds_toArray, List.set_cons_zero, List.set_cons_succ]
        refine take_heldS (i := 22) (d := 65) rfl rfl (by kernel_rfl) (by kernel_rfl) (by kernel_rfl) (fun _ _ _ h => h) (by kernel_rfl) (fun w hSw => by (try dsimp only at hSw); go_simp; try rfl) (by assumption) ?_
        try simp only [Act.put, List.setIfInBounds_toArray, List.set_cons_zero, List.set_cons_succ]
        refine take_heldS (i := 23) (d := 66) rfl rfl (by kernel_rfl) (by kernel_rfl) (by kernel_rfl) (fun _ _ _ h => h) (by kernel_rfl) (fun w hSw => by (try dsimp only at hSw); go_simp; try rfl) (by assumption) ?_
        try simp only [Act.put, List.setIfInBounds_toArray, List.set_cons_zero, List.set_cons_succ]
        refine take_heldS (i := 24) (d := 67) rfl rfl (by kernel_rfl) (by kernel_rfl) (by kernel_rfl) (fun _ _ _ h => h) (by kernel_rfl) (fun w hSw => by (try dsimp only at hSw); go_simp; try rfl) (by assumption) ?_
        try simp only [Act.put, List.setIfInBounds_toArray, List.set_cons_zero, List.set_cons_succ]
        refine take_heldS (i := 25) (d := 68) rfl rfl (by kernel_rfl) (by kernel_rfl) (by kernel_rfl) (fun _ _ _ h => h) (by kernel_rfl) (fun w hSw => by (try dsimp only at hSw); go_simp; try rfl) (by assumption) ?_
        try simp only [Act.put, List.setIfInBounds_toArray, List.set_cons_zero, List.set_cons_succ]
        refine take_heldS (i := 26) (d := 69) rfl rfl (by kernel_rfl) (by kernel_rfl) (by kernel_rfl) (fun _ _ _ h => h) (by kernel_rfl) (fun w hSw => by (try dsimp only at hSw); go_simp; try rfl) (by assumption) ?_
        try simp only [Act.put, List.setIfInBounds_toArray, List.set_cons_zero, List.set_cons_succ]
        refine take_heldS (i := 27) (d := 70) rfl rfl (by kernel_rfl) (by kernel_rfl) (by kernel_rfl) (fun _ _ _ h => h) (by kernel_rfl) (fun w hSw => by (try dsimp only at hSw); go_simp; try rfl) (by assumption) ?_
        try simp only [Act.put, List.setIfInBounds_toArray, List.set_cons_zero, List.set_cons_succ]
        refine take_heldS (i := 28) (d := 71) rfl rfl (by kernel_rfl) (by kernel_rfl) (by kernel_rfl) (fun _ _ _ h => h) (by kernel_rfl) (fun w hSw => by (try dsimp only at hSw); go_simp; try rfl) (by assumption) ?_
        try simp only [Act.put, List.setIfInBounds_toArray, List.set_cons_zero, List.set_cons_succ]
        refine take_heldS (i := 29) (d := 72) rfl rfl (by kernel_rfl) (by kernel_rfl) (by kernel_rfl) (fun _ _ _ h => h) (by kernel_rfl) (fun w hSw => by (try dsimp only at hSw); go_simp; try rfl) (by assumption) ?_
        try simp only [Act.put, List.setIfInBounds_toArray, List.set_cons_zero, List.set_cons_succ]
        refine take_heldS (i := 30) (d := 73) rfl rfl (by kernel_rfl) (by kernel_rfl) (by kernel_rfl) (fun _ _ _ h => h) (by kernel_rfl) (fun w hSw => by (try dsimp only at hSw); go_simp; try rfl) (by assumption) ?_
        try simp only [Act.put, List.setIfInBounds_toArray, List.set_cons_zero, List.set_cons_succ]
        refine take_heldS (i := 31) (d := 74) rfl rfl (by kernel_rfl) (by kernel_rfl) (by kernel_rfl) (fun _ _ _ h => h) (by kernel_rfl) (fun w hSw => by (try dsimp only at hSw); go_simp; try rfl) (by assumption) ?_
        try simp only [Act.put, List.setIfInBounds_toArray, List.set_cons_zero, List.set_cons_succ]
        refine take_heldS (i := 32) (d := 75) rfl rfl (by kernel_rfl) (by kernel_rfl) (by kernel_rfl) (fun _ _ _ h => h) (by kernel_rfl) (fun w hSw => by (try dsimp only at hSw); go_simp; try rfl) (by assumption) ?_
        try simp only [Act.put, List.setIfInBounds_toArray, List.set_cons_zero, List.set_cons_succ]
        refine take_heldS (i := 33) (d := 76) rfl rfl (by kernel_rfl) (by kernel_rfl) (by kernel_rfl) (fun _ _ _ h => h) (by kernel_rfl) (fun w hSw => by (try dsimp only at hSw); go_simp; try rfl) (by assumption) ?_
        try simp only [Act.put, List.setIfInBounds_toArray, List.set_cons_zero, List.set_cons_succ]
        refine take_heldS (i := 34) (d := 77) rfl rfl (by kernel_rfl) (by kernel_rfl) (by kernel_rfl) (fun _ _ _ h => h) (by kernel_rfl) (fun w hSw => by (try dsimp only at hSw); go_simp; try rfl) (by assumption) ?_
        try simp only [Act.put, List.setIfInBounds_toArray, List.set_cons_zero, List.set_cons_succ]
        refine take_heldS (i := 35) (d := 78) rfl rfl (by kernel_rfl) (by kernel_rfl) (by kernel_rfl) (fun _ _ _ h => h) (by kernel_rfl) (fun w hSw => by (try dsimp only at hSw); go_simp; try rfl) (by assumption) ?_
        try simp only [Act.put, List.setIfInBounds_toArray, List.set_cons_zero, List.set_cons_succ]
        refine take_heldS (i := 36) (d := 79) rfl rfl (by kernel_rfl) (by kernel_rfl) (by kernel_rfl) (fun _ _ _ h => h) (by kernel_rfl) (fun w hSw => by (try dsimp only at hSw); go_simp; try rfl) (by assumption) ?_
        try simp only [Act.put, List.setIfInBounds_toArray, List.set_cons_zero, List.set_cons_succ]
        refine wpAnyH_ready (rs := [37]) (by kernel_rfl) (by simp) ?_
        refine AllReadyH.cons rfl (fun K hK => ?_) AllReadyH.nil
        go_simp
        skip
        refine hK.out _ _ (by exact ⟨⟨(P0.out.drew.alloc _).cell (i := 0) (by omega), (P0.out.drew.alloc _).cell (i := 1) (by omega)⟩, ⟨(P1.out.drew.alloc _).cell (i := 0) (by omega), (P1.out.drew.alloc _).cell (i := 1) (by omega)⟩, (World.cell?_alloc_lt wx.drew _ ⟨g6, k, none⟩ (by simp; omega)).trans z6, (World.cell?_alloc_lt wx.drew _ ⟨g7, k, none⟩ (by simp; omega)).trans z7⟩) (fun hHeld => ?_)
        clear hK K
        try simp only [Act.put, List.setIfInBounds_toArray, List.set_cons_zero, List.set_cons_succ]
        refine wpAnyH_ready (rs := [38]) (by kernel_rfl) (by simp) ?_
        refine AllReadyH.cons rfl (fun K hK => ?_) AllReadyH.nil
        refine step_appRT rfl (.tmp 43) (.tmp 80) 82 rfl (w.heap.size + 1) 117 4 32 #[.int .i64 0, .int .i64 0, .int .i64 0, .int .i64 0] Try.underlying82 infoRow rfl (by decide) (by decide) _ (k * 2) _ rfl (by exact HOA.out.drewN 1 |>.alloc _) wx.heap.size 2 2 [iy, -ix, 1, lm - ix * lw, -oy, ox, -1, ox * lw - lm] rfl rfl (by exact fun i hi => (rowC_new8 wx.drew iy (-ix) 1 (lm - ix * lw) (-oy) ox (-1) (ox * lw - lm) 117).cell hi) (by omega) (w.heap.size + 1) wr (by exact (HU.out.drew).alloc (by simp; omega) _) (by omega) (by simp; omega) _ HX.out (by omega) ?_; intro g' cap' w3 hown3 hb3 hrow3; have y6 : w3.cell? ⟨g6, k, none⟩ = some (.int .i64 lw) := (by have h := (hrow3 _ _ _ _ (by decide) (HWA.out.drew.alloc _)).cell hlt; rw [ints_def, HW6.out] at h; exact h); have y7 : w3.cell? ⟨g7, k, none⟩ = some (.int .i64 lm) := (by have h := (hrow3 _ _ _ _ (by decide) (HMA.out.drew.alloc _)).cell hlt; rw [ints_def, HM7.out] at h; exact h)
        refine hK.out _ _ (by exact ⟨⟨(hrow3 _ _ _ _ (by decide) (P0.out.drew.alloc _)).cell (i := 0) (by omega), (hrow3 _ _ _ _ (by decide) (P0.out.drew.alloc _)).cell (i := 1) (by omega)⟩, ⟨(hrow3 _ _ _ _ (by decide) (P1.out.drew.alloc _)).cell (i := 0) (by omega), (hrow3 _ _ _ _ (by decide) (P1.out.drew.alloc _)).cell (i := 1) (by omega)⟩, y6, y7⟩) (fun hHeld => ?_)
        clear hK K
        try simp only [Act.put, List.setIfInBounds_toArray, List.set_cons_zero, List.set_cons_succ]
        refine take_heldS (i := 39) (d := 5) rfl rfl (by kernel_rfl) (by kernel_rfl) (by kernel_rfl) (fun _ _ _ h => h) (by kernel_rfl) (fun w hSw => by (try dsimp only at hSw); go_simp; try rfl) (by assumption) ?_
        try simp only [Act.put, List.setIfInBounds_toArray, List.set_cons_zero, List.set_cons_succ]
        refine wpAnyH_done (by kernel_rfl) ?_ _
        have HR3 : Hid (RSp w w3 (.slice (some ⟨b, off, none⟩) n c) g6 g7 zs ls q n (k + 1) (.slice (some ⟨g', 0, none⟩) (k * 2 + 2) cap')) :=
          ⟨HAr.out.below hb3 (by omega), hrow3 _ _ _ _ (by decide) (HWA.out.drew.alloc _), hrow3 _ _ _ _ (by decide) (HMA.out.drew.alloc _), by rw [show (k + 1) * 2 = k * 2 + 2 by omega]; exact hown3, HBl.out.trans (hb3.mono (by omega))⟩
        clear hown3 hb3 hrow3 y6 y7
        go_wp2
        go_roundw
        case rel => exact ⟨k + 1, by omega, by go_num, HR3⟩
        case measure => simp [intOf]; omega
      · obtain rfl : n = k := by omega
        have HU : Hid (rowTo zs (leftW zs ls q) (leftM zs ls q) n ++ [-1, 0, 0, 0] = rowsL zs (leftW zs ls q) (leftM zs ls q) n) := rfl
        have HO := Lib.hid (HR.out.own.alloc (.cells #[.int .i64 (-1), .int .i64 0, .int .i64 0, .int .i64 0] 117))
        have HBA := Lib.hid (HR.out.below.alloc hz (.cells #[.int .i64 (-1), .int .i64 0, .int .i64 0, .int .i64 0] 117))
        have HCN : Hid (∀ i, i < 1 * 4 → (wr.alloc (.cells #[.int .i64 (-1), .int .i64 0, .int .i64 0, .int .i64 0] 117)).cell? ⟨wr.heap.size, i, none⟩ = some (.int .i64 (nth [-1, 0, 0, 0] i))) := fun i hi => (rowC_new4 wr (-1) 0 0 0 117).cell hi
        go_wp2_with (at_builtin; refine wpList_appR _ rfl (.tmp 82) (.tmp 84) 82 rfl (w.heap.size + 1) 117 4 32 #[.int .i64 0, .int .i64 0, .int .i64 0, .int .i64 0] Try.underlying82 infoRow rfl (by decide) (by decide) _ (n * 2) _ rfl (by exact HO.out) wr.heap.size 1 1 [-1, 0, 0, 0] rfl rfl (by exact HCN.out) (by omega) w.heap.size w (by exact HBA.out) (by omega) (by simp; omega) _ HU.out ?_ (by omega); intro g' cap' w3 hown3 hb3)
        have HO3 := Lib.hid hown3
        have HB3 := Lib.hid hb3
        generalize hrs : rowsL zs (leftW zs ls q) (leftM zs ls q) n = rs at *
        have HRS := Lib.hid hrs
        clear hown3 hb3 HU HO HBA HCN HR a0 hrs
        go_wp2
        go_loopw [11] (fun v11 wr => ∃ (j : Nat), j ≤ n * 2 + 1 ∧ v11 = .int .i64 j ∧ Hid (OwnR wr (w.heap.size + 1) 117 4 (.slice (some ⟨g', 0, none⟩) (n * 2 + 1) cap') (n * 2 + 1) rs) ∧ Hid (Below w.heap.size w wr)) (fun v11 _ => n * 2 + 1 - (intOf v11).toNat)
        case atStart => exact ⟨0, Nat.zero_le _, rfl, HO3, HB3⟩
        case round =>
          clear HO3 HB3
          obtain ⟨j, hj, rfl, HO, HB⟩ := hrel
          by_cases hjl : j < n * 2 + 1
          · obtain ⟨b', off', e, hbl', hc⟩ := HO.out.recs.2 (by omega)
            simp at e
            obtain ⟨rfl, rfl⟩ := e
            obtain ⟨x0, x1, x2, x3⟩ := rwCells hc hjl
            simp only [Nat.zero_add] at x0 x1 x2 x3
            have hok : rowB (nth rs (j * 4)) (nth rs (j * 4 + 1)) (nth rs (j * 4 + 2)) (nth rs (j * 4 + 3)) = true := HOK.out j hjl
            have ji : (j : Int) < (((n * 2 + 1 : Nat)) : Int) := by omega
            have j0 : (0 : Int) ≤ (j : Int) := by omega
            clear hc
            generalize nth rs (j * 4) = y0 at *
            generalize nth rs (j * 4 + 1) = y1 at *
            generalize nth rs (j * 4 + 2) = y2 at *
            generalize nth rs (j * 4 + 3) = y3 at *
            go_wp2_with fail
            refine (sRowOk_any _ _ _ _ _).mono ?_
            rw [hok]
            rintro e w4 ⟨rfl, hb4⟩
            have HO4 := Lib.hid (HO.out.below hb4)
            have HB4 := Lib.hid (HB.out.trans (hb4.mono HB.out.size))
            clear hb4
            go_wp2
            go_roundw
            case rel => exact ⟨j + 1, by omega, by go_num, HO4, HB4⟩
            case measure => first | (simp [intOf]; done) | (simp [intOf]; omega)
          · obtain rfl : j = n * 2 + 1 := by omega
            go_wp2
            go_ret
            exact ⟨_, rfl, by rw [HT.out.1, HT.out.2]; exact HO.out.weaken (by omega), HB.out⟩
end Go.Proofs.Ytdjhiegolojoaaa
end

section
/-
  Contracts: RowsOf in the program; StandsWith in the program and in the reference.
-/
namespace Go.Proofs.Ytdjhiegolojoaaa
open Go.RowKit
set_option linter.unusedSimpArgs false

theorem sum_wm (zs ls : List Int) (q : Nat) {m : Nat} : ∀ k, k ≤ m → sumW (wmL zs ls q m) k = leftW zs ls q k ∧ sumM (wmL zs ls q m) k = leftM zs ls q k
  | 0, _ => ⟨rfl, rfl⟩
  | k + 1, hk => by
    have ih := sum_wm zs ls q (m := m) k (by omega)
    have h := wmL_nth zs ls q (m := m) (k := k) (by omega)
    simp only [sumW, sumM, leftW, leftM, ih.1, ih.2, h.1, h.2]
    exact ⟨trivial, trivial⟩
/-- A thrust passes all joints. -/
def stB (zs : List Int) (n : Nat) (ls : List Int) (q : Nat) (H V M D : Int) : Bool := fulAll (rowsZ zs n ls q) (rowsN zs n ls q) H V M D
theorem rowsN_le (zs : List Int) (n : Nat) (ls : List Int) (q : Nat) : rowsN zs n ls q ≤ 17 := by
  unfold rowsN
  split
  · rename_i h
    have := (archB_out (loadsB_out h).1).1
    omega
  · omega

end Go.Proofs.Ytdjhiegolojoaaa
end

section
/-
  Contracts: the middle of two thrusts (the reference's; weak: a thrust and a word come back).
-/
namespace Go.Proofs.Ytdjhiegolojoaaa
open Go.RowKit
set_option linter.unusedSimpArgs false
set_option linter.unusedVariables false

/-- Some thrust and some word. -/
def SomeThr (e : Ending) : Prop := ∃ (h v m d : Int) (b : Bool), e = .returned (.tuple #[.agg #[.int .i64 h, .int .i64 v, .int .i64 m, .int .i64 d], .bool b])
theorem sMake_weak (h v m d : Int) (w : World) :
    Calls Try.prog 71 #[.int .i64 h, .int .i64 v, .int .i64 m, .int .i64 d] w fun e w' => SomeThr e ∧ Below w.heap.size w w' :=
  (sMake_any h v m d w).mono (by rintro e w' ⟨rfl, hb⟩; exact ⟨⟨_, _, _, _, _, rfl⟩, hb⟩)

structure MX (w wr : World) (a0 a1 a2 a3 b0 b1 b2 b3 : Int) : Prop where
  a : Box4 wr w.heap.size a0 a1 a2 a3
  b : Box4 wr (w.heap.size + 1) b0 b1 b2 b3
  r : RowF wr (w.heap.size + 1 + 1) 46 4 (fun _ => .int .i64 0)
  below : Below w.heap.size w wr
theorem MX.after {w wr w1 : World} {a0 a1 a2 a3 b0 b1 b2 b3 : Int} (h : MX w wr a0 a1 a2 a3 b0 b1 b2 b3) (hb : Below wr.heap.size wr w1) : MX w w1 a0 a1 a2 a3 b0 b1 b2 b3 := ⟨h.a.after hb, h.b.after hb, h.r.after hb, h.below.trans (hb.mono h.below.size)⟩
theorem MX.start (w : World) (a0 a1 a2 a3 b0 b1 b2 b3 : Int) (T : TypeId) : MX w (((w.alloc (.cells #[.int .i64 a0, .int .i64 a1, .int .i64 a2, .int .i64 a3] T)).alloc (.cells #[.int .i64 b0, .int .i64 b1, .int .i64 b2, .int .i64 b3] T)).alloc (.cells #[.int .i64 0, .int .i64 0, .int .i64 0, .int .i64 0] 46)) a0 a1 a2 a3 b0 b1 b2 b3 := by
  have h2 := Box4.new (w.alloc (.cells #[.int .i64 a0, .int .i64 a1, .int .i64 a2, .int .i64 a3] T)) b0 b1 b2 b3 T
  have h3 : RowF _ _ 46 4 (fun _ => .int .i64 0) := RowF.of_row (World.rowIs_alloc ((w.alloc (.cells #[.int .i64 a0, .int .i64 a1, .int .i64 a2, .int .i64 a3] T)).alloc (.cells #[.int .i64 b0, .int .i64 b1, .int .i64 b2, .int .i64 b3] T)) #[.int .i64 0, .int .i64 0, .int .i64 0, .int .i64 0] 46 (fun _ => .int .i64 0) (fun i hi => by simp at hi; match i, hi with | 0, _ => rfl | 1, _ => rfl | 2, _ => rfl | 3, _ => rfl))
  simp only [World.size_alloc] at h2 h3
  exact ⟨((Box4.new w a0 a1 a2 a3 T).after ((Below.refl _ _).alloc (Nat.le_refl _) _)).after ((Below.refl _ _).alloc (Nat.le_refl _) _), h2.after ((Below.refl _ _).alloc (Nat.le_refl _) _), h3, (((Below.refl _ _).alloc (Nat.le_refl _) _).alloc (by simp) _).alloc (by simp; omega) _⟩

set_option maxRecDepth 100000 in
set_option maxHeartbeats 3200000 in
theorem sMix_any (a0 a1 a2 a3 b0 b1 b2 b3 : Int) (w : World) :
    Calls Try.prog 43 #[.agg #[.int .i64 a0, .int .i64 a1, .int .i64 a2, .int .i64 a3], .agg #[.int .i64 b0, .int .i64 b1, .int .i64 b2, .int .i64 b3]] w fun e w' => SomeThr e ∧ Below w.heap.size w w' := by
  have HM := Lib.hid (MX.start w a0 a1 a2 a3 b0 b1 b2 b3 46)
  have key : ∀ (wr : World), MX w wr a0 a1 a2 a3 b0 b1 b2 b3 → True := fun _ _ => trivial
  clear key
  cases h1 : thrB a0 a1 a2 a3
  · go_enter Try.func43, Try.ntmps43
    go_wp2_with fail
    refine (sThrustOk_any _ _ _ _ _).mono ?_
    rw [h1]
    rintro e w1 ⟨rfl, hb1⟩
    have HM1 := Lib.hid (HM.out.after hb1)
    clear hb1 HM
    have y0 : w1.cell? ⟨w.heap.size + 1 + 1, 0, none⟩ = some (.int .i64 0) := HM1.out.r.cell (i := 0) (by omega)
    have y1 : w1.cell? ⟨w.heap.size + 1 + 1, 1, none⟩ = some (.int .i64 0) := HM1.out.r.cell (i := 1) (by omega)
    have y2 : w1.cell? ⟨w.heap.size + 1 + 1, 2, none⟩ = some (.int .i64 0) := HM1.out.r.cell (i := 2) (by omega)
    have y3 : w1.cell? ⟨w.heap.size + 1 + 1, 3, none⟩ = some (.int .i64 0) := HM1.out.r.cell (i := 3) (by omega)
    have f0 := HM1.out.r.frozen 0
    have f1 := HM1.out.r.frozen 1
    have f2 := HM1.out.r.frozen 2
    have f3 := HM1.out.r.frozen 3
    have hs := RowF.lt HM1.out.r
    go_wp2
    refine bodyPost_ret (v := thrV 0 0 0 0 false) (by simp [thrV, results, Try.results43, go_sem, *]) rfl ?_
    exact ⟨⟨_, _, _, _, _, rfl⟩, below_set4 HM1.out.below (by omega) _ _ _ _⟩
  cases h2 : thrB b0 b1 b2 b3
  · go_enter Try.func43, Try.ntmps43
    go_wp2_with fail
    refine (sThrustOk_any _ _ _ _ _).mono ?_
    rw [h1]
    rintro e w1 ⟨rfl, hb1⟩
    have HM1 := Lib.hid (HM.out.after hb1)
    clear hb1 HM
    obtain ⟨c0, c1, c2, c3⟩ := HM1.out.b.1
    go_wp2_with fail
    refine (sThrustOk_any _ _ _ _ _).mono ?_
    rw [h2]
    rintro e w2 ⟨rfl, hb2⟩
    have HM2 := Lib.hid (HM1.out.after hb2)
    clear hb2 HM1 c0 c1 c2 c3
    have y0 : w2.cell? ⟨w.heap.size + 1 + 1, 0, none⟩ = some (.int .i64 0) := HM2.out.r.cell (i := 0) (by omega)
    have y1 : w2.cell? ⟨w.heap.size + 1 + 1, 1, none⟩ = some (.int .i64 0) := HM2.out.r.cell (i := 1) (by omega)
    have y2 : w2.cell? ⟨w.heap.size + 1 + 1, 2, none⟩ = some (.int .i64 0) := HM2.out.r.cell (i := 2) (by omega)
    have y3 : w2.cell? ⟨w.heap.size + 1 + 1, 3, none⟩ = some (.int .i64 0) := HM2.out.r.cell (i := 3) (by omega)
    have f0 := HM2.out.r.frozen 0
    have f1 := HM2.out.r.frozen 1
    have f2 := HM2.out.r.frozen 2
    have f3 := HM2.out.r.frozen 3
    have hs := RowF.lt HM2.out.r
    go_wp2
    refine bodyPost_ret (v := thrV 0 0 0 0 false) (by simp [thrV, results, Try.results43, go_sem, *]) rfl ?_
    exact ⟨⟨_, _, _, _, _, rfl⟩, below_set4 HM2.out.below (by omega) _ _ _ _⟩
  by_cases h3 : 1000 < a3
  · go_enter Try.func43, Try.ntmps43
    go_wp2_with fail
    refine (sThrustOk_any _ _ _ _ _).mono ?_
    rw [h1]
    rintro e w1 ⟨rfl, hb1⟩
    have HM1 := Lib.hid (HM.out.after hb1)
    clear hb1 HM
    obtain ⟨c0, c1, c2, c3⟩ := HM1.out.b.1
    go_wp2_with fail
    refine (sThrustOk_any _ _ _ _ _).mono ?_
    rw [h2]
    rintro e w2 ⟨rfl, hb2⟩
    have HM2 := Lib.hid (HM1.out.after hb2)
    clear hb2 HM1 c0 c1 c2 c3
    obtain ⟨d0, d1, d2, d3⟩ := HM2.out.a.1
    have y0 : w2.cell? ⟨w.heap.size + 1 + 1, 0, none⟩ = some (.int .i64 0) := HM2.out.r.cell (i := 0) (by omega)
    have y1 : w2.cell? ⟨w.heap.size + 1 + 1, 1, none⟩ = some (.int .i64 0) := HM2.out.r.cell (i := 1) (by omega)
    have y2 : w2.cell? ⟨w.heap.size + 1 + 1, 2, none⟩ = some (.int .i64 0) := HM2.out.r.cell (i := 2) (by omega)
    have y3 : w2.cell? ⟨w.heap.size + 1 + 1, 3, none⟩ = some (.int .i64 0) := HM2.out.r.cell (i := 3) (by omega)
    have f0 := HM2.out.r.frozen 0
    have f1 := HM2.out.r.frozen 1
    have f2 := HM2.out.r.frozen 2
    have f3 := HM2.out.r.frozen 3
    have hs := RowF.lt HM2.out.r
    go_wp2
    refine bodyPost_ret (v := thrV 0 0 0 0 false) (by simp [thrV, results, Try.results43, go_sem, *]) rfl ?_
    exact ⟨⟨_, _, _, _, _, rfl⟩, below_set4 HM2.out.below (by omega) _ _ _ _⟩
  by_cases h4 : 1000 < b3
  · go_enter Try.func43, Try.ntmps43
    go_wp2_with fail
    refine (sThrustOk_any _ _ _ _ _).mono ?_
    rw [h1]
    rintro e w1 ⟨rfl, hb1⟩
    have HM1 := Lib.hid (HM.out.after hb1)
    clear hb1 HM
    obtain ⟨c0, c1, c2, c3⟩ := HM1.out.b.1
    go_wp2_with fail
    refine (sThrustOk_any _ _ _ _ _).mono ?_
    rw [h2]
    rintro e w2 ⟨rfl, hb2⟩
    have HM2 := Lib.hid (HM1.out.after hb2)
    clear hb2 HM1 c0 c1 c2 c3
    obtain ⟨d0, d1, d2, d3⟩ := HM2.out.a.1
    obtain ⟨c0, c1, c2, c3⟩ := HM2.out.b.1
    have y0 : w2.cell? ⟨w.heap.size + 1 + 1, 0, none⟩ = some (.int .i64 0) := HM2.out.r.cell (i := 0) (by omega)
    have y1 : w2.cell? ⟨w.heap.size + 1 + 1, 1, none⟩ = some (.int .i64 0) := HM2.out.r.cell (i := 1) (by omega)
    have y2 : w2.cell? ⟨w.heap.size + 1 + 1, 2, none⟩ = some (.int .i64 0) := HM2.out.r.cell (i := 2) (by omega)
    have y3 : w2.cell? ⟨w.heap.size + 1 + 1, 3, none⟩ = some (.int .i64 0) := HM2.out.r.cell (i := 3) (by omega)
    have f0 := HM2.out.r.frozen 0
    have f1 := HM2.out.r.frozen 1
    have f2 := HM2.out.r.frozen 2
    have f3 := HM2.out.r.frozen 3
    have hs := RowF.lt HM2.out.r
    go_wp2
    refine bodyPost_ret (v := thrV 0 0 0 0 false) (by simp [thrV, results, Try.results43, go_sem, *]) rfl ?_
    exact ⟨⟨_, _, _, _, _, rfl⟩, below_set4 HM2.out.below (by omega) _ _ _ _⟩
  go_enter Try.func43, Try.ntmps43
  go_wp2_with fail
  refine (sThrustOk_any _ _ _ _ _).mono ?_
  rw [h1]
  rintro e w1 ⟨rfl, hb1⟩
  have HM1 := Lib.hid (HM.out.after hb1)
  clear hb1 HM
  obtain ⟨c0, c1, c2, c3⟩ := HM1.out.b.1
  go_wp2_with fail
  refine (sThrustOk_any _ _ _ _ _).mono ?_
  rw [h2]
  rintro e w2 ⟨rfl, hb2⟩
  have HM2 := Lib.hid (HM1.out.after hb2)
  clear hb2 HM1 c0 c1 c2 c3
  obtain ⟨d0, d1, d2, d3⟩ := HM2.out.a.1
  obtain ⟨c0, c1, c2, c3⟩ := HM2.out.b.1
  go_wp2_with fail
  refine (sMake_weak _ _ _ _ _).mono ?_
  rintro e w3 ⟨⟨h', v', m', d', bb, rfl⟩, hb3⟩
  have HM3 := Lib.hid (HM2.out.after hb3)
  clear hb3 HM2 c0 c1 c2 c3 d0 d1 d2 d3
  have y0 : w3.cell? ⟨w.heap.size + 1 + 1, 0, none⟩ = some (.int .i64 0) := HM3.out.r.cell (i := 0) (by omega)
  have y1 : w3.cell? ⟨w.heap.size + 1 + 1, 1, none⟩ = some (.int .i64 0) := HM3.out.r.cell (i := 1) (by omega)
  have y2 : w3.cell? ⟨w.heap.size + 1 + 1, 2, none⟩ = some (.int .i64 0) := HM3.out.r.cell (i := 2) (by omega)
  have y3 : w3.cell? ⟨w.heap.size + 1 + 1, 3, none⟩ = some (.int .i64 0) := HM3.out.r.cell (i := 3) (by omega)
  have f0 := HM3.out.r.frozen 0
  have f1 := HM3.out.r.frozen 1
  have f2 := HM3.out.r.frozen 2
  have f3 := HM3.out.r.frozen 3
  have hs := RowF.lt HM3.out.r
  go_wp2
  refine bodyPost_ret (v := thrV h' v' m' d' bb) (by simp [thrV, results, Try.results43, go_sem, *]) rfl ?_
  exact ⟨⟨_, _, _, _, _, rfl⟩, below_set4 HM3.out.below (by omega) _ _ _ _⟩
end Go.Proofs.Ytdjhiegolojoaaa
end

section
/-
  Contracts: whether a thrust just meets a condition, and how many conditions it just meets (the reference's; weak: that they return).
-/
namespace Go.Proofs.Ytdjhiegolojoaaa
open Go.RowKit
set_option linter.unusedSimpArgs false
set_option linter.unusedVariables false

theorem ret_boolE (b : Bool) : ∃ x : Bool, Ending.returned (.bool b) = .returned (.bool x) := ⟨b, rfl⟩
set_option maxRecDepth 100000 in
set_option maxHeartbeats 1600000 in
theorem sIsJust_any (a b c d H V M D : Int) (w : World) :
    Calls Try.prog 72 #[.agg #[.int .i64 H, .int .i64 V, .int .i64 M, .int .i64 D], .agg #[.int .i64 a, .int .i64 b, .int .i64 c, .int .i64 d]] w fun e w' => (∃ x : Bool, e = .returned (.bool x)) ∧ Below w.heap.size w w' := by
  have HT := Lib.hid (TRs.start w a b c d H V M D 46 117)
  cases hT : thrB H V M D
  · go_enter Try.func72, Try.ntmps72
    go_wp2_with fail
    refine (sThrustOk_any _ _ _ _ _).mono ?_
    rw [hT]
    rintro e w1 ⟨rfl, hb1⟩
    have HT1 := Lib.hid (HT.out.after hb1)
    clear hb1
    go_wp2
    go_ret
    exact ⟨ret_boolE _, HT1.out.below⟩
  cases hR : rowB a b c d
  · go_enter Try.func72, Try.ntmps72
    go_wp2_with fail
    refine (sThrustOk_any _ _ _ _ _).mono ?_
    rw [hT]
    rintro e w1 ⟨rfl, hb1⟩
    have HT1 := Lib.hid (HT.out.after hb1)
    obtain ⟨c0, c1, c2, c3⟩ := HT1.out.row.1
    clear hb1
    go_wp2_with fail
    refine (sRowOk_any _ _ _ _ _).mono ?_
    rw [hR]
    rintro e w2 ⟨rfl, hb2⟩
    have HT2 := Lib.hid (HT1.out.after hb2)
    clear hb2
    go_wp2
    go_ret
    exact ⟨ret_boolE _, HT2.out.below⟩
  have HS := Lib.hid (sideBd hT hR)
  go_enter Try.func72, Try.ntmps72
  go_wp2_with fail
  refine (sThrustOk_any _ _ _ _ _).mono ?_
  rw [hT]
  rintro e w1 ⟨rfl, hb1⟩
  have HT1 := Lib.hid (HT.out.after hb1)
  obtain ⟨c0, c1, c2, c3⟩ := HT1.out.row.1
  clear hb1
  go_wp2_with fail
  refine (sRowOk_any _ _ _ _ _).mono ?_
  rw [hR]
  rintro e w2 ⟨rfl, hb2⟩
  have HT2 := Lib.hid (HT1.out.after hb2)
  clear c0 c1 c2 c3 hb2
  obtain ⟨c0, c1, c2, c3⟩ := HT2.out.row.1
  obtain ⟨d0, d1, d2, d3⟩ := HT2.out.thr.1
  obtain ⟨s1, s2, s3, s4⟩ := HS.out
  go_wp2_with fail
  all_goals (try go_quiet (fail))
  go_wp2
  go_ret
  exact ⟨ret_boolE _, by first | exact HT2.out.below | exact below_drewN HT2.out.below _⟩
theorem Box4.low {w w' : World} {b B : Nat} {x y z u : Int} (h : Box4 w b x y z u) (hb : Below B w w') (hB : b < B) : Box4 w' b x y z u := by
  obtain ⟨⟨h0, h1, h2, h3⟩, hl⟩ := h
  exact ⟨⟨(hb.cell (by exact hB)).trans h0, (hb.cell (by exact hB)).trans h1, (hb.cell (by exact hB)).trans h2, (hb.cell (by exact hB)).trans h3⟩, Nat.lt_of_lt_of_le hl hb.size⟩
/-- Some slice of ints. -/
def SomeInts (e : Ending) : Prop := ∃ (A : Option Addr) (k c : Nat), e = .returned (.slice A k c)
set_option maxRecDepth 100000 in
set_option maxHeartbeats 3200000 in
theorem sJustBy_any (A : Option Addr) (n c : Nat) (rs : List Int) (H V M D : Int) (w : World) (h : RecsAt w w.heap.size 4 A n rs) (hn : n ≤ 1048576) :
    Calls Try.prog 44 #[.agg #[.int .i64 H, .int .i64 V, .int .i64 M, .int .i64 D], .slice A n c] w fun e w' => SomeInts e ∧ Below w.heap.size w w' := by
  have HL := Lib.hid h
  have HB0 := Lib.hid (((Below.refl w.heap.size w).alloc (Nat.le_refl _) (.cells #[.int .i64 H, .int .i64 V, .int .i64 M, .int .i64 D] 46)).alloc (by simp) (.cells #[] 3))
  have HX0 := Lib.hid ((Box4.new w H V M D 46).after ((Below.refl _ _).alloc (Nat.le_refl _) (.cells #[] 3)))
  have HO0 : Hid (OwnV ((w.alloc (.cells #[.int .i64 H, .int .i64 V, .int .i64 M, .int .i64 D] 46)).alloc (.cells #[] 3)) (w.heap.size + 1) 3 (.slice (some ⟨w.heap.size + 1, 0, none⟩) 0 0) []) := Lib.hid (by
    have h := (OwnI.new (w.alloc (.cells #[.int .i64 H, .int .i64 V, .int .i64 M, .int .i64 D] 46)) 3).toV
    rw [World.size_alloc] at h
    exact h)
  clear h
  go_enter Try.func44, Try.ntmps44
  go_wp2
  go_loopw [5, 6] (fun v5 v6 wr => ∃ (k j : Nat) (L : List Int) (A' : Option Addr) (cp : Nat), v5 = .slice A' j cp ∧ v6 = .int .i64 k ∧ k ≤ n ∧ j ≤ k ∧ L.length = j ∧ Hid (OwnV wr (w.heap.size + 1) 3 v5 L) ∧ Hid (Box4 wr w.heap.size H V M D) ∧ Hid (Below w.heap.size w wr)) (fun _ v6 _ => n - (intOf v6).toNat)
  case atStart => exact ⟨0, 0, [], _, _, rfl, rfl, Nat.zero_le _, Nat.le_refl _, rfl, HO0, HX0, HB0⟩
  case round =>
    clear HO0 HX0 HB0
    obtain ⟨k, j, L, A', cp, rfl, rfl, hk, hj, hl, HO, HX, HB⟩ := hrel
    by_cases hlt : k < n
    · obtain ⟨b, off, rfl, hbB, hc⟩ := HL.out.2 (by omega)
      obtain ⟨x0, x1, x2, x3⟩ := rwCells (fun i hi => (HB.out.cell (by exact hbB)).trans (hc i hi)) hlt
      have hz := HB.out.size
      clear hc
      generalize nth rs (k * 4) = y0 at *
      generalize nth rs (k * 4 + 1) = y1 at *
      generalize nth rs (k * 4 + 2) = y2 at *
      generalize nth rs (k * 4 + 3) = y3 at *
      have HBA := HB
      have HXA := HX
      obtain ⟨c0, c1, c2, c3⟩ := HXA.out.1
      have ki : (k : Int) < (n : Int) := by omega
      have k0 : (0 : Int) ≤ (k : Int) := by omega
      have hwl : w.heap.size < wr.heap.size := HX.out.2
      have hbl : b < wr.heap.size := by omega
      go_wp2
      go_region_held3 (fun w' => (w'.cell? ⟨w.heap.size, 0, none⟩ = some (.int .i64 H) ∧ w'.cell? ⟨w.heap.size, 1, none⟩ = some (.int .i64 V) ∧ w'.cell? ⟨w.heap.size, 2, none⟩ = some (.int .i64 M) ∧ w'.cell? ⟨w.heap.size, 3, none⟩ = some (.int .i64 D)) ∧ (w'.cell? ⟨b, off + k * 4, none⟩ = some (.int .i64 y0) ∧ w'.cell? ⟨b, off + k * 4 + 1, none⟩ = some (.int .i64 y1) ∧ w'.cell? ⟨b, off + k * 4 + 2, none⟩ = some (.int .i64 y2) ∧ w'.cell? ⟨b, off + k * 4 + 3, none⟩ = some (.int .i64 y3))) (first | exact ⟨⟨c0, c1, c2, c3⟩, ⟨x0, x1, x2, x3⟩⟩ | (refine ⟨⟨?_, ?_, ?_, ?_⟩, ⟨?_, ?_, ?_, ?_⟩⟩ <;> (rw [hcc _ _ (by first | omega | (simp <;> omega))]; assumption)))
        ((go_at_call 72; refine (sIsJust_any _ _ _ _ _ _ _ _ _).mono ?_; rintro e w1 ⟨⟨bb, rfl⟩, hb1⟩; obtain ⟨hcc, hff⟩ := bcell hb1))
      have HB1 := Lib.hid (HBA.out.drew.trans (hb1.mono (by first | (simp; omega) | omega)))
      have HX1 : Hid (Box4 w1 w.heap.size H V M D) := (show Box4 wr.drew _ _ _ _ _ from HXA.out).after hb1
      have HO1 : Hid (OwnV w1 (w.heap.size + 1) 3 (.slice A' j cp) L) := Lib.hid (OwnV.below (show OwnV wr.drew _ _ _ _ from HO.out) hb1)
      have hs1 := hb1.size
      clear hb1 c0 c1 c2 c3 hcc hff HX HB HO
      cases bb
      · go_wp2
        go_roundw
        case rel => exact ⟨k + 1, j, L, A', cp, rfl, by go_num, by omega, by omega, hl, HO1, HX1, HB1⟩
        case measure => simp [intOf]; omega
      · have HBG : Hid (Below (w.heap.size + 1) w1 (w1.alloc (.cells #[.int .i64 (k : Int)] 3))) := Lib.hid ((Below.refl _ _).alloc (by simp at hs1; omega) _)
        go_wp2_with (at_builtin; refine wpList_app _ rfl (.tmp 20) (.tmp 22) 53 rfl (w.heap.size + 1) 3 Try.underlying53 infoInt _ L rfl (by exact HO1.out.alloc _) w1.heap.size 1 (k : Int) rfl (by exact cell_new1 _ _ _) (w.heap.size + 1) w1 (by exact HBG.out) (Nat.le_refl _) (by simp; simp at hs1; omega) j hl (by omega) _ rfl ?_; intro g' cap' w4 hown4 hb4)
        have HO4 := Lib.hid hown4
        have HB4 : Hid (Below w.heap.size w w4) := Lib.hid (HB1.out.trans (hb4.mono (by omega)))
        have HX4 : Hid (Box4 w4 w.heap.size H V M D) := Lib.hid (HX1.out.low hb4 (by omega))
        clear hown4 hb4 HBG HO1 HB1 HX1
        go_wp2
        go_roundw
        case rel => exact ⟨k + 1, j + 1, _, _, cap', rfl, by go_num, by omega, by omega, by simp [hl], HO4, HX4, HB4⟩
        case measure => simp [intOf]; omega
    · obtain rfl : n = k := by omega
      have nn : ¬ (n : Int) < (n : Int) := by omega
      go_wp2
      go_ret
      exact ⟨⟨_, _, _, rfl⟩, HB.out⟩
end Go.Proofs.Ytdjhiegolojoaaa
end

section
/-
  Contracts: the thrusts of an arch in the reference, and the central one (weak: a thrust and a word; none where there is no thrust).
-/
namespace Go.Proofs.Ytdjhiegolojoaaa
open Go.RowKit
set_option linter.unusedSimpArgs false
set_option linter.unusedVariables false

/-! ### How many corners there can be -/
def cK (n i : Nat) : Nat → Nat
  | 0 => 0
  | t + 1 => cK n i t + (n - (i + 1 + t + 1))
def cI (n : Nat) : Nat → Nat
  | 0 => 0
  | t + 1 => cI n t + cK n t (n - (t + 1))
theorem cI_le : ∀ n, n < 18 → cI n n ≤ 680 := by decide
section
variable {rs : List Int} {n : Nat}
theorem corK_cnt {i : Nat} {acc : List Int} {q b : Nat} (h : CorAcc acc q b) : ∀ t, ∃ q', CorAcc (corK rs n i acc t) q' (b + cK n i t)
  | 0 => ⟨q, h⟩
  | t + 1 => by
    obtain ⟨q', h'⟩ := corK_cnt h t
    obtain ⟨q2, h2⟩ := corM_acc (rs := rs) (n := n) (i := i) (k := i + 1 + t) h' (n - (i + 1 + t + 1))
    rw [corK_s]
    exact ⟨q2, h2.len, by have := h2.few; simp only [cK]; omega⟩
theorem corI_cnt : ∀ t, ∃ q', CorAcc (corI rs n t) q' (cI n t)
  | 0 => ⟨0, rfl, Nat.le_refl _⟩
  | t + 1 => by
    obtain ⟨q', h'⟩ := corI_cnt t
    obtain ⟨q2, h2⟩ := corK_cnt (rs := rs) (n := n) (i := t) h' (n - (t + 1))
    rw [corI_s]
    exact ⟨q2, h2.len, by have := h2.few; simp only [cI]; omega⟩
end
theorem corn_few (rs : List Int) {n : Nat} (hn : n ≤ 17) : cornN rs n ≤ 680 := by
  cases e : cornB rs n
  · rw [cornN, cornL_f e]; simp
  · obtain ⟨q, h⟩ := corI_cnt (rs := rs) (n := n) n
    have := cI_le n (by omega)
    have h1 := h.len
    have h2 := h.few
    rw [cornN, cornL_t e]
    omega

/-! ### The thrusts -/
def ThrsPost (w : World) (m : Nat) (L : List Int) (e : Ending) (w' : World) : Prop :=
  ∃ v, e = .returned v ∧ OwnR w' w.heap.size 46 4 v m L ∧ Below w.heap.size w w'
set_option maxRecDepth 100000 in
set_option maxHeartbeats 1600000 in
theorem sThrusts_any (A : Option Addr) (n c : Nat) (zs : List Int) (B : Option Addr) (q d : Nat) (ls : List Int) (w : World) (h : RecsAt w w.heap.size 4 A n zs) (hn : n ≤ 1048576) (hl : RecsAt w w.heap.size 3 B q ls) (hq : q ≤ 1048576) :
    Calls Try.prog 41 #[.agg #[.slice A n c], .slice B q d] w (ThrsPost w (cornN (rowsZ zs n ls q) (rowsN zs n ls q)) (cornL (rowsZ zs n ls q) (rowsN zs n ls q))) := by
  have b0 : Below w.heap.size w (w.alloc (.cells #[.slice A n c] 41)) := (Below.refl _ _).alloc (Nat.le_refl _) _
  have h1 := h.after b0
  have l1 := hl.after b0
  have hr17 := rowsN_le zs n ls q
  have HB0 := Lib.hid b0
  clear b0 h hl
  go_enter Try.func41, Try.ntmps41
  go_wp2_with fail
  refine (sRowsOf_any _ _ _ zs _ _ _ ls _ h1 hn l1 hq).mono ?_
  rintro e w2 ⟨v2, rfl, ho2, hb2⟩
  obtain ⟨A2, c2, rfl, _⟩ := ho2.slice
  have r2 := ho2.recs
  have HB2 := Lib.hid (HB0.out.trans (hb2.mono HB0.out.size))
  clear hb2 ho2
  go_wp2_with fail
  refine (sCorners_any _ _ _ _ _ r2 (by omega)).mono ?_
  rintro e w3 ⟨v3, rfl, ho3, hb3⟩
  have HO3 := Lib.hid (ho3.weaken HB2.out.size)
  have HB3 := Lib.hid (HB2.out.trans (hb3.mono HB2.out.size))
  obtain ⟨A3, c3, rfl, _⟩ := ho3.slice
  clear hb3 ho3 r2
  generalize cornN (rowsZ zs n ls q) (rowsN zs n ls q) = N at *
  generalize cornL (rowsZ zs n ls q) (rowsN zs n ls q) = L at *
  go_wp2
  go_ret
  exact ⟨.slice A3 N c3, rfl, HO3.out, HB3.out⟩
set_option maxRecDepth 100000 in
set_option maxHeartbeats 1600000 in
theorem sStands_any (A : Option Addr) (n c : Nat) (zs : List Int) (B : Option Addr) (q d : Nat) (ls : List Int) (w : World) (h : RecsAt w w.heap.size 4 A n zs) (hn : n ≤ 1048576) (hl : RecsAt w w.heap.size 3 B q ls) (hq : q ≤ 1048576) :
    Calls Try.prog 65 #[.agg #[.slice A n c], .slice B q d] w fun e w' => e = .returned (.bool (decide (0 < (cornN (rowsZ zs n ls q) (rowsN zs n ls q) : Int)))) ∧ Below w.heap.size w w' := by
  have b0 : Below w.heap.size w (w.alloc (.cells #[.slice A n c] 41)) := (Below.refl _ _).alloc (Nat.le_refl _) _
  have h1 := h.after b0
  have l1 := hl.after b0
  have HB0 := Lib.hid b0
  clear b0 h hl
  go_enter Try.func65, Try.ntmps65
  go_wp2_with fail
  refine (sThrusts_any _ _ _ zs _ _ _ ls _ h1 hn l1 hq).mono ?_
  rintro e w2 ⟨v2, rfl, ho2, hb2⟩
  obtain ⟨A2, c2, rfl, _⟩ := ho2.slice
  have HB2 := Lib.hid (HB0.out.trans (hb2.mono HB0.out.size))
  clear hb2 ho2
  obtain ⟨N, hN⟩ : ∃ N, cornN (rowsZ zs n ls q) (rowsN zs n ls q) = N := ⟨_, rfl⟩
  have HN : Hid (decide (0 < N) = decide (0 < (cornN (rowsZ zs n ls q) (rowsN zs n ls q) : Int))) := Lib.hid (by rw [hN]; simp)
  rw [hN]
  clear hN
  go_wp2
  go_ret
  exact ⟨ret_bool HN.out, HB2.out⟩

theorem keep8 {w1 w2 : World} {b c x0 x1 x2 x3 y0 y1 y2 y3 : Nat} {v0 v1 v2 v3 u0 u1 u2 u3 : Value}
    (h : (w1.cell? ⟨b, x0, none⟩ = some v0 ∧ w1.cell? ⟨b, x1, none⟩ = some v1 ∧ w1.cell? ⟨b, x2, none⟩ = some v2 ∧ w1.cell? ⟨b, x3, none⟩ = some v3) ∧ (w1.cell? ⟨c, y0, none⟩ = some u0 ∧ w1.cell? ⟨c, y1, none⟩ = some u1 ∧ w1.cell? ⟨c, y2, none⟩ = some u2 ∧ w1.cell? ⟨c, y3, none⟩ = some u3))
    (e : ∀ x, w2.cell? ⟨b, x, none⟩ = w1.cell? ⟨b, x, none⟩) (e' : ∀ x, w2.cell? ⟨c, x, none⟩ = w1.cell? ⟨c, x, none⟩) :
    (w2.cell? ⟨b, x0, none⟩ = some v0 ∧ w2.cell? ⟨b, x1, none⟩ = some v1 ∧ w2.cell? ⟨b, x2, none⟩ = some v2 ∧ w2.cell? ⟨b, x3, none⟩ = some v3) ∧ (w2.cell? ⟨c, y0, none⟩ = some u0 ∧ w2.cell? ⟨c, y1, none⟩ = some u1 ∧ w2.cell? ⟨c, y2, none⟩ = some u2 ∧ w2.cell? ⟨c, y3, none⟩ = some u3) := by
  simp only [e, e']
  exact h
theorem rowF_put4 {w : World} {X : Nat} {T : TypeId} {f : Nat → Value} (h : RowF w X T 4 f) (a b c d : Int) : RowF ((((w.setCell ⟨X, 0, none⟩ (.int .i64 a)).setCell ⟨X, 1, none⟩ (.int .i64 b)).setCell ⟨X, 2, none⟩ (.int .i64 c)).setCell ⟨X, 3, none⟩ (.int .i64 d)) X T 4 (ints [a, b, c, d]) :=
  ((((h.set 0 (.int .i64 a)).set 1 (.int .i64 b)).set 2 (.int .i64 c)).set 3 (.int .i64 d)).congr (fun j hj => by
    match j, hj with
    | 0, _ => rfl
    | 1, _ => rfl
    | 2, _ => rfl
    | 3, _ => rfl)
theorem RowF.below2 {w w' : World} {g M B : Nat} {T : TypeId} {f : Nat → Value} (h : RowF w g T M f) (hb : Below B w w') (hg : g < B) : RowF w' g T M f := RowF.below h hb hg
/-- Rows of records that stay: none, or a row of the call's own. -/
def RowsSt (w : World) (m : Nat) (A : Option Addr) (L : List Int) : Prop := L.length = m * 4 ∧ (m = 0 ∨ ∃ g, A = some ⟨g, 0, none⟩ ∧ RowF w g 117 (m * 4) (ints L))
theorem RowsSt.of {w : World} {base m c : Nat} {A : Option Addr} {L : List Int} (h : OwnR w base 117 4 (.slice A m c) m L) : RowsSt w m A L := by
  refine ⟨h.2, ?_⟩
  rcases h.form with ⟨_, h2, _⟩ | ⟨g, cap, e, _, _, hr⟩
  · exact .inl h2
  · simp at e
    exact .inr ⟨g, e.1, hr⟩
theorem RowsSt.recs {w : World} {m : Nat} {A : Option Addr} {L : List Int} (h : RowsSt w m A L) : RecsAt w w.heap.size 4 A m L := by
  refine ⟨h.1, fun hm => ?_⟩
  rcases h.2 with h2 | ⟨g, rfl, hr⟩
  · omega
  · exact ⟨g, 0, rfl, RowF.lt hr, fun i hi => by rw [Nat.zero_add]; exact hr.cell hi⟩
theorem RowsSt.after {w w' : World} {m : Nat} {A : Option Addr} {L : List Int} (h : RowsSt w m A L) (hb : Below w.heap.size w w') : RowsSt w' m A L :=
  ⟨h.1, h.2.imp id fun ⟨g, e, hr⟩ => ⟨g, e, RowF.after hr hb⟩⟩
theorem RowsSt.keep {w w' : World} {m : Nat} {A : Option Addr} {L : List Int} (h : RowsSt w m A L) (hk : ∀ g2 T m2 f, T ≠ 46 → RowF w g2 T m2 f → RowF w' g2 T m2 f) : RowsSt w' m A L :=
  ⟨h.1, h.2.imp id fun ⟨g, e, hr⟩ => ⟨g, e, hk _ _ _ _ (by decide) hr⟩⟩
/-- What CentralThrust knows in its loops: the result's cell, the rows, the thrusts. -/
structure CtSt (w wr : World) (m2 : Nat) (A2 : Option Addr) (rz : List Int) (v6 : Value) (q : Nat) (L : List Int) : Prop where
  res : RowF wr (w.heap.size + 1) 46 4 (fun _ => .int .i64 0)
  rows : RowsSt wr m2 A2 rz
  own : OwnR wr (w.heap.size + 2) 46 4 v6 q L
  below : Below w.heap.size w wr
theorem CtSt.after {w wr w' : World} {m2 : Nat} {A2 : Option Addr} {rz : List Int} {v6 : Value} {q : Nat} {L : List Int} (h : CtSt w wr m2 A2 rz v6 q L) (hb : Below wr.heap.size wr w') : CtSt w w' m2 A2 rz v6 q L :=
  ⟨h.res.after hb, h.rows.after hb, h.own.below hb, h.below.trans (hb.mono h.below.size)⟩
/-- Some thrust and some word; no thrust where the word is no. -/
def CentE (e : Ending) : Prop := ∃ (h v m d : Int) (b : Bool), e = .returned (thrV h v m d b) ∧ (b = false → h = 0 ∧ v = 0 ∧ m = 0 ∧ d = 0)
theorem recs_at {w : World} {B m : Nat} {A : Option Addr} {L : List Int} (h : RecsAt w B 4 A m L) {k : Nat} (hk : k < m) : ∃ b off, A = some ⟨b, off, none⟩ ∧ b < B ∧ ∀ i, i < m * 4 → w.cell? ⟨b, off + i, none⟩ = some (.int .i64 (nth L i)) := h.2 (by omega)

set_option maxRecDepth 100000 in
set_option maxHeartbeats 6400000 in
theorem sCentral_any (A : Option Addr) (n c : Nat) (zs : List Int) (B : Option Addr) (q d : Nat) (ls : List Int) (w : World) (h : RecsAt w w.heap.size 4 A n zs) (hn : n ≤ 1048576) (hl : RecsAt w w.heap.size 3 B q ls) (hq : q ≤ 1048576) :
    Calls Try.prog 14 #[.agg #[.slice A n c], .slice B q d] w fun e w' => CentE e ∧ Below w.heap.size w w' := by
  have b0 : Below w.heap.size w ((w.alloc (.cells #[.slice A n c] 41)).alloc (.cells #[.int .i64 0, .int .i64 0, .int .i64 0, .int .i64 0] 46)) := ((Below.refl _ _).alloc (Nat.le_refl _) _).alloc (by simp) _
  have h1 := h.after b0
  have l1 := hl.after b0
  have HH0 := Lib.hid h
  have HL0 := Lib.hid hl
  have HA0 := Lib.hid ((rowF_new1S w (.slice A n c) 41).alloc (.cells #[.int .i64 0, .int .i64 0, .int .i64 0, .int .i64 0] 46))
  have HR0 : Hid (RowF ((w.alloc (.cells #[.slice A n c] 41)).alloc (.cells #[.int .i64 0, .int .i64 0, .int .i64 0, .int .i64 0] 46)) (w.heap.size + 1) 46 4 (fun _ => .int .i64 0)) := Lib.hid (by
    have h := RowF.of_row (World.rowIs_alloc (w.alloc (.cells #[.slice A n c] 41)) #[.int .i64 0, .int .i64 0, .int .i64 0, .int .i64 0] 46 (fun _ => .int .i64 0) (fun i hi => by simp at hi; match i, hi with | 0, _ => rfl | 1, _ => rfl | 2, _ => rfl | 3, _ => rfl))
    rw [World.size_alloc] at h
    exact h)
  have HB0 := Lib.hid b0
  have hr17 := rowsN_le zs n ls q
  have hs0 : ((w.alloc (.cells #[.slice A n c] 41)).alloc (.cells #[.int .i64 0, .int .i64 0, .int .i64 0, .int .i64 0] 46)).heap.size = w.heap.size + 2 := by simp
  have HS0 := Lib.hid hs0
  clear b0 h hl hs0
  go_enter Try.func14, Try.ntmps14
  go_wp2_with fail
  refine (sThrusts_any _ _ _ zs _ _ _ ls _ h1 hn l1 hq).mono ?_
  rintro e w1 ⟨v1, rfl, ho1, hb1⟩
  have hN := corn_few (rowsZ zs n ls q) hr17
  have HO1 := Lib.hid (ho1.weaken (Nat.le_of_eq HS0.out.symm))
  have HA1 := Lib.hid (HA0.out.after hb1)
  have HR1 := Lib.hid (HR0.out.after hb1)
  have HB1 := Lib.hid (below_then HB0.out hb1)
  have h2 := HH0.out.after HB1.out
  have l2 := HL0.out.after HB1.out
  have a1 : w1.cell? ⟨w.heap.size, 0, none⟩ = some (.slice A n c) := HA1.out.cell (i := 0) (by omega)
  obtain ⟨A1, c1, rfl, hc1⟩ := HO1.out.slice
  clear hb1 ho1 h1 l1 HA0 HR0 HB0 HS0
  generalize cornN (rowsZ zs n ls q) (rowsN zs n ls q) = N at *
  generalize cornL (rowsZ zs n ls q) (rowsN zs n ls q) = L0 at *
  go_wp2_with fail
  refine (sRowsOf_any _ _ _ zs _ _ _ ls _ h2 hn l2 hq).mono ?_
  rintro e w2 ⟨v2, rfl, ho2, hb2⟩
  obtain ⟨A2, c2, rfl, _⟩ := ho2.slice
  have HC2 : Hid (CtSt w w2 (rowsN zs n ls q) A2 (rowsZ zs n ls q) (.slice A1 N c1) N L0) := Lib.hid ⟨HR1.out.after hb2, RowsSt.of ho2, HO1.out.below hb2, below_then HB1.out hb2⟩
  generalize rowsN zs n ls q = m2 at *
  generalize rowsZ zs n ls q = rz at *
  have hm2 : m2 ≤ 1048576 := by omega
  clear hb2 ho2 h2 l2 HA1 HR1 HB1 HO1 a1 HH0 HL0
  go_wp2
  go_loopw [6, 9] (fun v6 v9 wr => ∃ (k q1 : Nat) (L : List Int) (A6 : Option Addr) (c6 : Nat), v6 = .slice A6 q1 c6 ∧ v9 = .int .i64 k ∧ k ≤ N ∧ N ≤ q1 ∧ q1 ≤ 680 + k * 680 ∧ Hid (CtSt w wr m2 A2 rz (.slice A6 q1 c6) q1 L)) (fun _ v9 _ => N - (intOf v9).toNat)
  case atStart => exact ⟨0, N, L0, _, _, rfl, rfl, Nat.zero_le _, Nat.le_refl _, by omega, HC2⟩
  case round =>
    clear HC2
    obtain ⟨k, q1, L, A6, c6, rfl, rfl, hk, hq1, hq2, HC⟩ := hrel
    by_cases hlt : k < N
    · have kk : (k : Int) < (N : Int) := by omega
      have ek : IntKind.i64.wrap ((k : Int) + 1) = (k : Int) + 1 := IntWalk.i64_in _ (by omega)
      go_wp2
      go_loopw [6, 10] (fun v6 v10 wr => ∃ (i q1 : Nat) (L : List Int) (A6 : Option Addr) (c6 : Nat), v6 = .slice A6 q1 c6 ∧ v10 = .int .i64 i ∧ k + 1 ≤ i ∧ i ≤ N ∧ N ≤ q1 ∧ q1 ≤ 680 + k * 680 + i ∧ Hid (CtSt w wr m2 A2 rz (.slice A6 q1 c6) q1 L)) (fun _ v10 _ => N - (intOf v10).toNat)
      case atStart => exact ⟨k + 1, q1, L, _, _, rfl, by go_num, Nat.le_refl _, by omega, hq1, by omega, HC⟩
      case round =>
        clear HC hq1 hq2
        obtain ⟨i, q1, L, A6, c6, rfl, rfl, hi, hiN, hq1, hq2, HC⟩ := hrel
        by_cases hli : i < N
        · have ii : (i : Int) < (N : Int) := by omega
          have ei : IntKind.i64.wrap ((i : Int) + 1) = (i : Int) + 1 := IntWalk.i64_in _ (by omega)
          have kq : (k : Int) < (q1 : Int) := by omega
          have iq : (i : Int) < (q1 : Int) := by omega
          obtain ⟨b, off, rfl, hbB, hc⟩ := recs_at HC.out.own.recs (k := k) (by omega)
          obtain ⟨x0, x1, x2, x3⟩ := rwCells hc (show k < q1 by omega)
          obtain ⟨y0, y1, y2, y3⟩ := rwCells hc (show i < q1 by omega)
          have hbk : b < wr.heap.size := hbB
          clear hc
          generalize nth L (k * 4) = pa at *
          generalize nth L (k * 4 + 1) = pb at *
          generalize nth L (k * 4 + 2) = pc at *
          generalize nth L (k * 4 + 3) = pd at *
          generalize nth L (i * 4) = qa at *
          generalize nth L (i * 4 + 1) = qb at *
          generalize nth L (i * 4 + 2) = qc at *
          generalize nth L (i * 4 + 3) = qd at *
          obtain ⟨wk, rfl⟩ : ∃ wk : World, wk = wr := ⟨_, rfl⟩
          go_upto_region 10 with fail
          go_cut [11, 12] (fun s11 s12 wx => ∃ (g : Nat) (H V M D : Int) (B : Bool), s11 = .pointer (some ⟨g, 0, none⟩) ∧ s12 = .bool B ∧ wk.heap.size ≤ g ∧ Hid (Box4 wx g H V M D) ∧ Hid (Below wk.heap.size wk wx))
          case first =>
            refine wp_region_held_drew (S := fun w' => (w'.cell? ⟨b, off + k * 4, none⟩ = some (.int .i64 pa) ∧ w'.cell? ⟨b, off + k * 4 + 1, none⟩ = some (.int .i64 pb) ∧ w'.cell? ⟨b, off + k * 4 + 2, none⟩ = some (.int .i64 pc) ∧ w'.cell? ⟨b, off + k * 4 + 3, none⟩ = some (.int .i64 pd)) ∧ (w'.cell? ⟨b, off + i * 4, none⟩ = some (.int .i64 qa) ∧ w'.cell? ⟨b, off + i * 4 + 1, none⟩ = some (.int .i64 qb) ∧ w'.cell? ⟨b, off + i * 4 + 2, none⟩ = some (.int .i64 qc) ∧ w'.cell? ⟨b, off + i * 4 + 3, none⟩ = some (.int .i64 qd))) (by kernel_rfl) (by exact ⟨⟨x0, x1, x2, x3⟩, ⟨y0, y1, y2, y3⟩⟩) (fun hHeld => ?_)
            refine take_heldS (i := 0) (d := 36) rfl rfl (by kernel_rfl) (by kernel_rfl) (by kernel_rfl) (fun _ _ _ h => h) (by kernel_rfl) (fun w hSw => by (try dsimp only at hSw); go_simp; try rfl) (by assumption) ?_
            try simp only [Act.put, List.setIfInBounds_toArray, List.set_cons_zero, List.set_cons_succ]
            refine take_heldS (i := 1) (d := 37) rfl rfl (by kernel_rfl) (by kernel_rfl) (by kernel_rfl) (fun _ _ _ h => h) (by kernel_rfl) (fun w hSw => by (try dsimp only at hSw); go_simp; try rfl) (by assumption) ?_
            try simp only [Act.put, List.setIfInBounds_toArray, List.set_cons_zero, List.set_cons_succ]
            refine take_heldS (i := 2) (d := 38) rfl rfl (by kernel_rfl) (by kernel_rfl) (by kernel_rfl) (fun _ _ _ h => h) (by kernel_rfl) (fun w hSw => by (try dsimp only at hSw); go_simp; try rfl) (by assumption) ?_
            try simp only [Act.put, List.setIfInBounds_toArray, List.set_cons_zero, List.set_cons_succ]
            refine take_heldS (i := 3) (d := 39) rfl rfl (by kernel_rfl) (by kernel_rfl) (by kernel_rfl) (fun _ _ _ h => h) (by kernel_rfl) (fun w hSw => by (try dsimp only at hSw); go_simp; try rfl) (by assumption) ?_
            try simp only [Act.put, List.setIfInBounds_toArray, List.set_cons_zero, List.set_cons_succ]
            refine take_heldS (i := 4) (d := 40) rfl rfl (by kernel_rfl) (by kernel_rfl) (by kernel_rfl) (fun _ _ _ h => h) (by kernel_rfl) (fun w hSw => by (try dsimp only at hSw); go_simp; try rfl) (by assumption) ?_
            try simp only [Act.put, List.setIfInBounds_toArray, List.set_cons_zero, List.set_cons_succ]
            refine take_heldS (i := 5) (d := 41) rfl rfl (by kernel_rfl) (by kernel_rfl) (by kernel_rfl) (fun _ _ _ h => h) (by kernel_rfl) (fun w hSw => by (try dsimp only at hSw); go_simp; try rfl) (by assumption) ?_
            try simp only [Act.put, List.setIfInBounds_toArray, List.set_cons_zero, List.set_cons_succ]
            refine take_heldS (i := 6) (d := 42) rfl rfl (by kernel_rfl) (by kernel_rfl) (by kernel_rfl) (fun _ _ _ h => h) (by kernel_rfl) (fun w hSw => by (try dsimp only at hSw); go_simp; try rfl) (by assumption) ?_
            try simp only [Act.put, List.setIfInBounds_toArray, List.set_cons_zero, List.set_cons_succ]
            refine take_heldS (i := 7) (d := 43) rfl rfl (by kernel_rfl) (by kernel_rfl) (by kernel_rfl) (fun _ _ _ h => h) (by kernel_rfl) (fun w hSw => by (try dsimp only at hSw); go_simp; try rfl) (by assumption) ?_
            try simp only [Act.put, List.setIfInBounds_toArray, List.set_cons_zero, List.set_cons_succ]
            refine wpAnyH_ready (rs := [8, 12]) (by kernel_rfl) (by simp) ?_
            refine AllReadyH.cons rfl (fun K hK => ?_) (AllReadyH.cons rfl (fun K hK => ?_) AllReadyH.nil)
            · go_simp
              (with_reducible refine (sMix_any _ _ _ _ _ _ _ _ _).mono ?_)
              rintro e w1 ⟨⟨H, V, M, D, B, rfl⟩, hb1⟩
              refine hK.out _ _ (by exact keep8 (by assumption) (fun x => hb1.cell (p := ⟨b, x, none⟩) (by first | exact hbk | (simp; omega))) (fun x => hb1.cell (p := ⟨b, x, none⟩) (by first | exact hbk | (simp; omega)))) (fun hHeld => ?_)
              clear hK K
              try simp only [Act.put, List.setIfInBounds_toArray, List.set_cons_zero, List.set_cons_succ]
              refine take_heldS (i := 9) (d := 35) rfl rfl (by kernel_rfl) (by kernel_rfl) (by kernel_rfl) (fun _ _ _ h => h) (by kernel_rfl) (fun w hSw => by (try dsimp only at hSw); go_simp; try rfl) (by assumption) ?_
              try simp only [Act.put, List.setIfInBounds_toArray, List.set_cons_zero, List.set_cons_succ]
              refine take_heldS (i := 10) (d := 45) rfl rfl (by kernel_rfl) (by kernel_rfl) (by kernel_rfl) (fun _ _ _ h => h) (by kernel_rfl) (fun w hSw => by (try dsimp only at hSw); go_simp; try rfl) (by assumption) ?_
              try simp only [Act.put, List.setIfInBounds_toArray, List.set_cons_zero, List.set_cons_succ]
              refine take_heldS (i := 11) (d := 46) rfl rfl (by kernel_rfl) (by kernel_rfl) (by kernel_rfl) (fun _ _ _ h => h) (by kernel_rfl) (fun w hSw => by (try dsimp only at hSw); go_simp; try rfl) (by assumption) ?_
              try simp only [Act.put, List.setIfInBounds_toArray, List.set_cons_zero, List.set_cons_succ]
              refine wpAnyH_ready (rs := [12]) (by kernel_rfl) (by simp) ?_
              refine AllReadyH.cons rfl (fun K hK => ?_) AllReadyH.nil
              go_simp
              refine hK.out _ _ (by exact keep8 (by assumption) (fun x => cell_alloc_lt (by have := hb1.size; simp at this; omega)) (fun x => cell_alloc_lt (by have := hb1.size; simp at this; omega))) (fun hHeld => ?_)
              clear hK K
              try simp only [Act.put, List.setIfInBounds_toArray, List.set_cons_zero, List.set_cons_succ]
              refine wpAnyH_ready (rs := [13]) (by kernel_rfl) (by simp) ?_
              refine AllReadyH.cons rfl (fun K hK => ?_) AllReadyH.nil
              go_simp
              refine hK.out _ _ (by exact keep8 (by assumption) (fun x => (cell_alloc_lt (by have := hb1.size; simp at this; omega)).trans (cell_alloc_lt (by have := hb1.size; simp at this; omega)).symm) (fun x => (cell_alloc_lt (by have := hb1.size; simp at this; omega)).trans (cell_alloc_lt (by have := hb1.size; simp at this; omega)).symm)) (fun hHeld => ?_)
              clear hK K
              try simp only [Act.put, List.setIfInBounds_toArray, List.set_cons_zero, List.set_cons_succ]
              refine take_heldS (i := 14) (d := 12) rfl rfl (by kernel_rfl) (by kernel_rfl) (by kernel_rfl) (fun _ _ _ h => h) (by kernel_rfl) (fun w hSw => by (try dsimp only at hSw); go_simp; try rfl) (by assumption) ?_
              try simp only [Act.put, List.setIfInBounds_toArray, List.set_cons_zero, List.set_cons_succ]
              refine wpAnyH_done (by kernel_rfl) ?_ _
              go_wp2_with fail
              go_meet
              have hz1 := hb1.size
              simp at hz1
              exact ⟨w1.heap.size, H, V, M, D, B, rfl, rfl, by omega, Lib.hid (Box4.new _ _ _ _ _ _), Lib.hid (((below_drewN (Below.refl wk.heap.size wk) 1).trans (hb1.mono (by simp))).alloc (by omega) _)⟩
            · go_simp
              refine hK.out _ _ (by exact keep8 (by assumption) (fun x => cell_alloc_lt (by exact hbk)) (fun x => cell_alloc_lt (by exact hbk))) (fun hHeld => ?_)
              clear hK K
              try simp only [Act.put, List.setIfInBounds_toArray, List.set_cons_zero, List.set_cons_succ]
              refine wpAnyH_ready (rs := [8]) (by kernel_rfl) (by simp) ?_
              refine AllReadyH.cons rfl (fun K hK => ?_) AllReadyH.nil
              go_simp
              (with_reducible refine (sMix_any _ _ _ _ _ _ _ _ _).mono ?_)
              rintro e w1 ⟨⟨H, V, M, D, B, rfl⟩, hb1⟩
              have HVW : Hid (RowF w1 wk.heap.size 46 4 (fun _ => .int .i64 0)) := Lib.hid ((show RowF _ wk.heap.size 46 4 (fun _ => .int .i64 0) from RowF.of_row (World.rowIs_alloc wk.drew #[.int .i64 0, .int .i64 0, .int .i64 0, .int .i64 0] 46 (fun _ => .int .i64 0) (fun i hi => by simp at hi; match i, hi with | 0, _ => rfl | 1, _ => rfl | 2, _ => rfl | 3, _ => rfl))).after hb1)
              refine hK.out _ _ (by exact keep8 (by assumption) (fun x => hb1.cell (p := ⟨b, x, none⟩) (by simp; omega)) (fun x => hb1.cell (p := ⟨b, x, none⟩) (by simp; omega))) (fun hHeld => ?_)
              clear hK K
              try simp only [Act.put, List.setIfInBounds_toArray, List.set_cons_zero, List.set_cons_succ]
              refine take_heldS (i := 9) (d := 35) rfl rfl (by kernel_rfl) (by kernel_rfl) (by kernel_rfl) (fun _ _ _ h => h) (by kernel_rfl) (fun w hSw => by (try dsimp only at hSw); go_simp; try rfl) (by assumption) ?_
              try simp only [Act.put, List.setIfInBounds_toArray, List.set_cons_zero, List.set_cons_succ]
              refine take_heldS (i := 10) (d := 45) rfl rfl (by kernel_rfl) (by kernel_rfl) (by kernel_rfl) (fun _ _ _ h => h) (by kernel_rfl) (fun w hSw => by (try dsimp only at hSw); go_simp; try rfl) (by assumption) ?_
              try simp only [Act.put, List.setIfInBounds_toArray, List.set_cons_zero, List.set_cons_succ]
              refine take_heldS (i := 11) (d := 46) rfl rfl (by kernel_rfl) (by kernel_rfl) (by kernel_rfl) (fun _ _ _ h => h) (by kernel_rfl) (fun w hSw => by (try dsimp only at hSw); go_simp; try rfl) (by assumption) ?_
              try simp only [Act.put, List.setIfInBounds_toArray, List.set_cons_zero, List.set_cons_succ]
              have u0 : w1.cell? ⟨wk.heap.size, 0, none⟩ = some (.int .i64 0) := HVW.out.cell (i := 0) (by omega)
              have u1 : w1.cell? ⟨wk.heap.size, 1, none⟩ = some (.int .i64 0) := HVW.out.cell (i := 1) (by omega)
              have u2 : w1.cell? ⟨wk.heap.size, 2, none⟩ = some (.int .i64 0) := HVW.out.cell (i := 2) (by omega)
              have u3 : w1.cell? ⟨wk.heap.size, 3, none⟩ = some (.int .i64 0) := HVW.out.cell (i := 3) (by omega)
              have f0 := HVW.out.frozen 0
              have f1 := HVW.out.frozen 1
              have f2 := HVW.out.frozen 2
              have f3 := HVW.out.frozen 3
              have hs := RowF.lt HVW.out
              have hz1 := hb1.size
              simp at hz1
              refine wpAnyH_ready (rs := [13]) (by kernel_rfl) (by simp) ?_
              refine AllReadyH.cons rfl (fun K hK => ?_) AllReadyH.nil
              go_simp
              refine hK.out _ _ (by exact keep8 (by assumption) (fun x => (World.cell?_setCell_far _ _ _ _ (by first | (simp; done) | (simp; omega) | omega)).trans ((World.cell?_setCell_far _ _ _ _ (by first | (simp; done) | (simp; omega) | omega)).trans ((World.cell?_setCell_far _ _ _ _ (by first | (simp; done) | (simp; omega) | omega)).trans ((World.cell?_setCell_far _ _ _ _ (by first | (simp; done) | (simp; omega) | omega)).trans (rfl))))) (fun x => (World.cell?_setCell_far _ _ _ _ (by first | (simp; done) | (simp; omega) | omega)).trans ((World.cell?_setCell_far _ _ _ _ (by first | (simp; done) | (simp; omega) | omega)).trans ((World.cell?_setCell_far _ _ _ _ (by first | (simp; done) | (simp; omega) | omega)).trans ((World.cell?_setCell_far _ _ _ _ (by first | (simp; done) | (simp; omega) | omega)).trans (rfl)))))) (fun hHeld => ?_)
              clear hK K
              try simp only [Act.put, List.setIfInBounds_toArray, List.set_cons_zero, List.set_cons_succ]
              refine take_heldS (i := 14) (d := 12) rfl rfl (by kernel_rfl) (by kernel_rfl) (by kernel_rfl) (fun _ _ _ h => h) (by kernel_rfl) (fun w hSw => by (try dsimp only at hSw); go_simp; try rfl) (by assumption) ?_
              try simp only [Act.put, List.setIfInBounds_toArray, List.set_cons_zero, List.set_cons_succ]
              refine wpAnyH_done (by kernel_rfl) ?_ _
              go_wp2_with fail
              go_meet
              have HV4 := Lib.hid (((HVW.out.set 0 (.int .i64 H)).set 1 (.int .i64 V)).set 2 (.int .i64 M) |>.set 3 (.int .i64 D))
              exact ⟨wk.heap.size, H, V, M, D, B, rfl, rfl, Nat.le_refl _, Lib.hid ⟨⟨HV4.out.cell (i := 0) (by omega), HV4.out.cell (i := 1) (by omega), HV4.out.cell (i := 2) (by omega), HV4.out.cell (i := 3) (by omega)⟩, by simpa using hs⟩, Lib.hid (below_set4 (((below_drewN (Below.refl wk.heap.size wk) 1).alloc (Nat.le_refl _) _).trans (hb1.mono (by simp))) (Nat.le_refl _) _ _ _ _)⟩
          case rest =>
          rename World => wc
          obtain ⟨g, H, V, M, D, B, rfl, rfl, hg, HBX, HBW⟩ := hcut
          have HCW := Lib.hid (HC.out.after HBW.out)
          have hwk := HC.out.below.size
          clear x0 x1 x2 x3 y0 y1 y2 y3 hbk HC HBW
          cases B
          · go_wp2
            go_roundw
            case rel => exact ⟨i + 1, q1, L, _, _, rfl, by go_num, by omega, by omega, hq1, by omega, HCW⟩
            case measure => simp [intOf]; omega
          · obtain ⟨t0, t1, t2, t3⟩ := HBX.out.1
            have hcn : ∀ y, y < 1 * 4 → (wc.alloc (.cells #[.int .i64 H, .int .i64 V, .int .i64 M, .int .i64 D] 46)).cell? ⟨wc.heap.size, y, none⟩ = some (.int .i64 (nth [H, V, M, D] y)) := fun y hy =>
              World.rowIs.cell (World.rowIs_alloc wc #[.int .i64 H, .int .i64 V, .int .i64 M, .int .i64 D] 46 (ints [H, V, M, D]) (fun i hi => by simp at hi; match i, hi with | 0, _ => rfl | 1, _ => rfl | 2, _ => rfl | 3, _ => rfl)) (by simpa using hy)
            have HCN := Lib.hid hcn
            have hsz := HCW.out.below.size
            have hrl := RowF.lt HCW.out.res
            have HBA : Hid (Below (w.heap.size + 2) wc (wc.alloc (.cells #[.int .i64 H, .int .i64 V, .int .i64 M, .int .i64 D] 46))) := Lib.hid ((Below.refl _ _).alloc (by omega) _)
            have HBL : Hid (Below wc.heap.size wc (wc.alloc (.cells #[.int .i64 H, .int .i64 V, .int .i64 M, .int .i64 D] 46))) := Lib.hid ((Below.refl _ _).alloc (Nat.le_refl _) _)
            have hW0 : w.heap.size + 2 ≤ (wc.alloc (.cells #[.int .i64 H, .int .i64 V, .int .i64 M, .int .i64 D] 46)).heap.size := by simp; omega
            clear hcn
            go_wp2_with (at_builtin; refine wpList_appR2 _ rfl (.tmp 48) (.tmp 50) 80 rfl (w.heap.size + 2) 46 4 32 #[.int .i64 0, .int .i64 0, .int .i64 0, .int .i64 0] Try.underlying80 infoThr rfl (by decide) (by decide) _ q1 L rfl (by exact HCW.out.own.alloc _) wc.heap.size 1 1 [H, V, M, D] rfl rfl (by exact HCN.out) (by omega) (w.heap.size + 2) wc (by exact HBA.out) (Nat.le_refl _) hW0 _ rfl (.slice none 0 0) 0 [] (OwnR.nil _ _ _ _) (ApartV.nil' _) ?_ (by omega); intro g' cap' w7 hown7 hb7 _ _ hkp7)
            have HC7 : Hid (CtSt w w7 m2 A2 rz (.slice (some ⟨g', 0, none⟩) (q1 + 1) cap') (q1 + 1) (L ++ [H, V, M, D])) := Lib.hid ⟨HCW.out.res.below2 hb7 (by omega), (HCW.out.rows.after HBL.out).keep hkp7, hown7, HCW.out.below.trans (hb7.mono (by omega))⟩
            clear hown7 hb7 hkp7 HBA HBL HCN HCW
            go_roundw
            case rel => exact ⟨i + 1, q1 + 1, _, _, cap', rfl, by go_num, by omega, by omega, by omega, by omega, HC7⟩
            case measure => simp [intOf]; omega
        · obtain rfl : N = i := by omega
          have nn : ¬ (N : Int) < (N : Int) := by omega
          go_wp2
          go_roundw
          case rel => exact ⟨k + 1, q1, L, _, _, rfl, by go_num, by omega, hq1, by omega, HC⟩
          case measure => simp [intOf]; omega
    · obtain rfl : N = k := by omega
      have nn : ¬ (N : Int) < (N : Int) := by omega
      by_cases hN0 : N = 0
      · have hz : ((N : Int) == 0) = true := by simp [hN0]
        have y0 : wr.cell? ⟨w.heap.size + 1, 0, none⟩ = some (.int .i64 0) := HC.out.res.cell (i := 0) (by omega)
        have y1 : wr.cell? ⟨w.heap.size + 1, 1, none⟩ = some (.int .i64 0) := HC.out.res.cell (i := 1) (by omega)
        have y2 : wr.cell? ⟨w.heap.size + 1, 2, none⟩ = some (.int .i64 0) := HC.out.res.cell (i := 2) (by omega)
        have y3 : wr.cell? ⟨w.heap.size + 1, 3, none⟩ = some (.int .i64 0) := HC.out.res.cell (i := 3) (by omega)
        have f0 := HC.out.res.frozen 0
        have f1 := HC.out.res.frozen 1
        have f2 := HC.out.res.frozen 2
        have f3 := HC.out.res.frozen 3
        have hs := RowF.lt HC.out.res
        go_wp2
        refine bodyPost_ret (v := thrV 0 0 0 0 false) (by simp [thrV, results, Try.results14, go_sem, *]) rfl ?_
        exact ⟨⟨_, _, _, _, _, rfl, fun _ => ⟨rfl, rfl, rfl, rfl⟩⟩, below_set4 HC.out.below (by omega) _ _ _ _⟩
      · have hz : ((N : Int) == 0) = false := by simp; omega
        have q0 : (0 : Int) < (q1 : Int) := by omega
        obtain ⟨b, off, rfl, hbB, hc⟩ := recs_at HC.out.own.recs (k := 0) (by omega)
        obtain ⟨x0, x1, x2, x3⟩ := rwCells hc (show 0 < q1 by omega)
        clear hc
        generalize nth L (0 * 4) = pa at *
        generalize nth L (0 * 4 + 1) = pb at *
        generalize nth L (0 * 4 + 2) = pc at *
        generalize nth L (0 * 4 + 3) = pd at *
        rw [Nat.zero_mul, Nat.add_zero] at x0 x1 x2 x3
        obtain ⟨w9, rfl⟩ : ∃ w9 : World, w9 = wr := ⟨_, rfl⟩
        have hs9 := HC.out.below.size
        have hl9 := RowF.lt HC.out.res
        have HX0 : Hid (RowF (w9.alloc (.cells #[.int .i64 pa, .int .i64 pb, .int .i64 pc, .int .i64 pd] 46)) w9.heap.size 46 4 (ints [pa, pb, pc, pd])) :=
          Lib.hid (RowF.of_row (World.rowIs_alloc w9 #[.int .i64 pa, .int .i64 pb, .int .i64 pc, .int .i64 pd] 46 (ints [pa, pb, pc, pd]) (fun i hi => by simp at hi; match i, hi with | 0, _ => rfl | 1, _ => rfl | 2, _ => rfl | 3, _ => rfl)))
        have HB0 : Hid (Below w9.heap.size w9 (w9.alloc (.cells #[.int .i64 pa, .int .i64 pb, .int .i64 pc, .int .i64 pd] 46))) := Lib.hid ((Below.refl _ _).alloc (Nat.le_refl _) _)
        go_wp2
        clear x0 x1 x2 x3
        obtain ⟨X, hX⟩ : ∃ X, w9.heap.size = X := ⟨_, rfl⟩
        rw [hX] at HX0 HB0 hbB hs9 hl9 ⊢
        have HXE := Lib.hid hX
        clear hX
        go_loopw [14] (fun v14 wr => ∃ (k : Nat) (ha va ma da : Int), v14 = .int .i64 k ∧ 1 ≤ k ∧ k ≤ q1 ∧ Hid (RowF wr X 46 4 (ints [ha, va, ma, da])) ∧ Hid (Below X w9 wr)) (fun v14 _ => q1 - (intOf v14).toNat)
        case atStart => exact ⟨1, pa, pb, pc, pd, rfl, Nat.le_refl _, by omega, HX0, HB0⟩
        case round =>
          clear HX0 HB0
          obtain ⟨k, qa, qb, qc, qd, rfl, hk1, hk, HX, HB⟩ := hrel
          have HCR := Lib.hid (HC.out.after (by rw [HXE.out]; exact HB.out))
          have HRW1 := Lib.hid HCR.out.rows.recs
          have y0 : wr.cell? ⟨X, 0, none⟩ = some (.int .i64 qa) := HX.out.cell (i := 0) (by omega)
          have y1 : wr.cell? ⟨X, 1, none⟩ = some (.int .i64 qb) := HX.out.cell (i := 1) (by omega)
          have y2 : wr.cell? ⟨X, 2, none⟩ = some (.int .i64 qc) := HX.out.cell (i := 2) (by omega)
          have y3 : wr.cell? ⟨X, 3, none⟩ = some (.int .i64 qd) := HX.out.cell (i := 3) (by omega)
          have hXk : X < wr.heap.size := RowF.lt HX.out
          by_cases hlk : k < q1
          · have kk : (k : Int) < (q1 : Int) := by omega
            have k0 : (0 : Int) ≤ (k : Int) := by omega
            have ek : IntKind.i64.wrap ((k : Int) + 1) = (k : Int) + 1 := IntWalk.i64_in _ (by have := HC.out.own.recs.1; omega)
            obtain ⟨b', off', e', _, hc⟩ := recs_at HCR.out.own.recs (k := k) hlk
            simp only [Option.some.injEq, Addr.mk.injEq, and_true] at e'
            obtain ⟨rfl, rfl⟩ := e'
            obtain ⟨x0, x1, x2, x3⟩ := rwCells hc hlk
            have hbk : b < wr.heap.size := by omega
            clear hc
            generalize nth L (k * 4) = pa at *
            generalize nth L (k * 4 + 1) = pb at *
            generalize nth L (k * 4 + 2) = pc at *
            generalize nth L (k * 4 + 3) = pd at *
            obtain ⟨wk, rfl⟩ : ∃ wk : World, wk = wr := ⟨_, rfl⟩
            go_upto_region 19 with fail
            go_cut [75] (fun s75 wx => ∃ bb : Bool, s75 = .bool bb ∧ Hid (Below wk.heap.size wk wx))
            case first =>
              refine wp_region_held_drew (S := fun w' => (w'.cell? ⟨b, off + k * 4, none⟩ = some (.int .i64 pa) ∧ w'.cell? ⟨b, off + k * 4 + 1, none⟩ = some (.int .i64 pb) ∧ w'.cell? ⟨b, off + k * 4 + 2, none⟩ = some (.int .i64 pc) ∧ w'.cell? ⟨b, off + k * 4 + 3, none⟩ = some (.int .i64 pd)) ∧ (w'.cell? ⟨X, 0, none⟩ = some (.int .i64 qa) ∧ w'.cell? ⟨X, 1, none⟩ = some (.int .i64 qb) ∧ w'.cell? ⟨X, 2, none⟩ = some (.int .i64 qc) ∧ w'.cell? ⟨X, 3, none⟩ = some (.int .i64 qd))) (by kernel_rfl) (by exact ⟨⟨x0, x1, x2, x3⟩, ⟨y0, y1, y2, y3⟩⟩) (fun hHeld => ?_)
              refine take_heldS (i := 0) (d := 64) rfl rfl (by kernel_rfl) (by kernel_rfl) (by kernel_rfl) (fun _ _ _ h => h) (by kernel_rfl) (fun w hSw => by (try dsimp only at hSw); go_simp; try rfl) (by assumption) ?_
              try simp only [Act.put, List.setIfInBounds_toArray, List.set_cons_zero, List.set_cons_succ]
              refine take_heldS (i := 1) (d := 65) rfl rfl (by kernel_rfl) (by kernel_rfl) (by kernel_rfl) (fun _ _ _ h => h) (by kernel_rfl) (fun w hSw => by (try dsimp only at hSw); go_simp; try rfl) (by assumption) ?_
              try simp only [Act.put, List.setIfInBounds_toArray, List.set_cons_zero, List.set_cons_succ]
              refine take_heldS (i := 2) (d := 66) rfl rfl (by kernel_rfl) (by kernel_rfl) (by kernel_rfl) (fun _ _ _ h => h) (by kernel_rfl) (fun w hSw => by (try dsimp only at hSw); go_simp; try rfl) (by assumption) ?_
              try simp only [Act.put, List.setIfInBounds_toArray, List.set_cons_zero, List.set_cons_succ]
              refine take_heldS (i := 3) (d := 67) rfl rfl (by kernel_rfl) (by kernel_rfl) (by kernel_rfl) (fun _ _ _ h => h) (by kernel_rfl) (fun w hSw => by (try dsimp only at hSw); go_simp; try rfl) (by assumption) ?_
              try simp only [Act.put, List.setIfInBounds_toArray, List.set_cons_zero, List.set_cons_succ]
              refine take_heldS (i := 4) (d := 68) rfl rfl (by kernel_rfl) (by kernel_rfl) (by kernel_rfl) (fun _ _ _ h => h) (by kernel_rfl) (fun w hSw => by (try dsimp only at hSw); go_simp; try rfl) (by assumption) ?_
              try simp only [Act.put, List.setIfInBounds_toArray, List.set_cons_zero, List.set_cons_succ]
              refine take_heldS (i := 7) (d := 71) rfl rfl (by kernel_rfl) (by kernel_rfl) (by kernel_rfl) (fun _ _ _ h => h) (by kernel_rfl) (fun w hSw => by (try dsimp only at hSw); go_simp; try rfl) (by assumption) ?_
              try simp only [Act.put, List.setIfInBounds_toArray, List.set_cons_zero, List.set_cons_succ]
              refine take_heldS (i := 8) (d := 72) rfl rfl (by kernel_rfl) (by kernel_rfl) (by kernel_rfl) (fun _ _ _ h => h) (by kernel_rfl) (fun w hSw => by (try dsimp only at hSw); go_simp; try rfl) (by assumption) ?_
              try simp only [Act.put, List.setIfInBounds_toArray, List.set_cons_zero, List.set_cons_succ]
              have hrd1 : RecsAt wk.drew wk.drew.heap.size 4 A2 m2 rz := HRW1.out
              refine wpAnyH_ready (rs := [5]) (by kernel_rfl) (by simp) ?_
              refine AllReadyH.cons rfl (fun K hK => ?_) AllReadyH.nil
              go_simp
              (with_reducible refine (sJustBy_any _ _ _ rz _ _ _ _ _ hrd1 hm2).mono ?_)
              rintro e w1 ⟨⟨A1', k1', c1', rfl⟩, hb1⟩
              have hrd2 : RecsAt w1 w1.heap.size 4 A2 m2 rz := hrd1.after hb1
              refine hK.out _ _ (by exact keep8 (by assumption) (fun x => hb1.cell (p := ⟨b, x, none⟩) (by first | exact hbk | (simp; omega))) (fun x => hb1.cell (p := ⟨X, x, none⟩) (by first | exact hXk | (simp; omega)))) (fun hHeld => ?_)
              clear hK K
              try simp only [Act.put, List.setIfInBounds_toArray, List.set_cons_zero, List.set_cons_succ]
              refine take_heldS (i := 6) (d := 70) rfl rfl (by kernel_rfl) (by kernel_rfl) (by kernel_rfl) (fun _ _ _ h => h) (by kernel_rfl) (fun w hSw => by (try dsimp only at hSw); go_simp; try rfl) (by assumption) ?_
              try simp only [Act.put, List.setIfInBounds_toArray, List.set_cons_zero, List.set_cons_succ]
              refine wpAnyH_ready (rs := [9]) (by kernel_rfl) (by simp) ?_
              refine AllReadyH.cons rfl (fun K hK => ?_) AllReadyH.nil
              go_simp
              (with_reducible refine (sJustBy_any _ _ _ rz _ _ _ _ _ hrd2 hm2).mono ?_)
              rintro e w2 ⟨⟨A2', k2', c2', rfl⟩, hb2⟩
              refine hK.out _ _ (by exact keep8 (by assumption) (fun x => hb2.cell (p := ⟨b, x, none⟩) (by have := hb1.size; simp at this; first | omega | (simp; omega))) (fun x => hb2.cell (p := ⟨X, x, none⟩) (by have := hb1.size; simp at this; first | omega | (simp; omega)))) (fun hHeld => ?_)
              clear hK K
              try simp only [Act.put, List.setIfInBounds_toArray, List.set_cons_zero, List.set_cons_succ]
              refine take_heldS (i := 10) (d := 74) rfl rfl (by kernel_rfl) (by kernel_rfl) (by kernel_rfl) (fun _ _ _ h => h) (by kernel_rfl) (fun w hSw => by (try dsimp only at hSw); go_simp; try rfl) (by assumption) ?_
              try simp only [Act.put, List.setIfInBounds_toArray, List.set_cons_zero, List.set_cons_succ]
              refine take_heldS (i := 11) (d := 75) rfl rfl (by kernel_rfl) (by kernel_rfl) (by kernel_rfl) (fun _ _ _ h => h) (by kernel_rfl) (fun w hSw => by (try dsimp only at hSw); go_simp; try rfl) (by assumption) ?_
              try simp only [Act.put, List.setIfInBounds_toArray, List.set_cons_zero, List.set_cons_succ]
              refine wpAnyH_done (by kernel_rfl) ?_ _
              go_wp2_with fail
              go_meet
              have hz1 := hb1.size
              simp at hz1
              exact ⟨_, rfl, Lib.hid (((below_drewN (Below.refl wk.heap.size wk) 1).trans (hb1.mono (by simp))).trans (hb2.mono (by omega)))⟩
            case rest =>
            obtain ⟨bb, rfl, HBW⟩ := hcut
            have HBR := Lib.hid (HB.out.trans (HBW.out.mono (by omega)))
            have HXR := Lib.hid (HX.out.after HBW.out)
            have z0 := (HBW.out.cell (p := ⟨b, off + k * 4, none⟩) (by exact hbk)).trans x0
            have z1 := (HBW.out.cell (p := ⟨b, off + k * 4 + 1, none⟩) (by exact hbk)).trans x1
            have z2 := (HBW.out.cell (p := ⟨b, off + k * 4 + 2, none⟩) (by exact hbk)).trans x2
            have z3 := (HBW.out.cell (p := ⟨b, off + k * 4 + 3, none⟩) (by exact hbk)).trans x3
            have v0 := (HBW.out.cell (p := ⟨X, 0, none⟩) (by exact hXk)).trans y0
            have v1 := (HBW.out.cell (p := ⟨X, 1, none⟩) (by exact hXk)).trans y1
            have v2 := (HBW.out.cell (p := ⟨X, 2, none⟩) (by exact hXk)).trans y2
            have v3 := (HBW.out.cell (p := ⟨X, 3, none⟩) (by exact hXk)).trans y3
            have f0 := HXR.out.frozen 0
            have f1 := HXR.out.frozen 1
            have f2 := HXR.out.frozen 2
            have f3 := HXR.out.frozen 3
            have hs := RowF.lt HXR.out
            clear x0 x1 x2 x3 y0 y1 y2 y3 HB HX HBW HRW1 HCR
            cases bb
            · go_wp2
              go_roundw
              case rel => exact ⟨k + 1, qa, qb, qc, qd, by go_num, by omega, by omega, HXR, HBR⟩
              case measure => simp [intOf]; omega
            · go_wp2
              go_roundw
              case rel => exact ⟨k + 1, pa, pb, pc, pd, by go_num, by omega, by omega, Lib.hid (rowF_put4 HXR.out _ _ _ _), Lib.hid (below_set4 HBR.out (Nat.le_refl _) _ _ _ _)⟩
              case measure => simp [intOf]; omega
          · obtain rfl : q1 = k := by omega
            have kk : ¬ (q1 : Int) < (q1 : Int) := by omega
            have u0 : wr.cell? ⟨w.heap.size + 1, 0, none⟩ = some (.int .i64 0) := HCR.out.res.cell (i := 0) (by omega)
            have u1 : wr.cell? ⟨w.heap.size + 1, 1, none⟩ = some (.int .i64 0) := HCR.out.res.cell (i := 1) (by omega)
            have u2 : wr.cell? ⟨w.heap.size + 1, 2, none⟩ = some (.int .i64 0) := HCR.out.res.cell (i := 2) (by omega)
            have u3 : wr.cell? ⟨w.heap.size + 1, 3, none⟩ = some (.int .i64 0) := HCR.out.res.cell (i := 3) (by omega)
            have f0 := HCR.out.res.frozen 0
            have f1 := HCR.out.res.frozen 1
            have f2 := HCR.out.res.frozen 2
            have f3 := HCR.out.res.frozen 3
            have hs := RowF.lt HCR.out.res
            go_wp2
            refine bodyPost_ret (v := thrV qa qb qc qd true) (by simp [thrV, results, Try.results14, go_sem, *]) rfl ?_
            exact ⟨⟨_, _, _, _, _, rfl, fun e => absurd e (by simp)⟩, below_set4 HCR.out.below (by omega) _ _ _ _⟩
end Go.Proofs.Ytdjhiegolojoaaa
end

section
/-
  Contracts of the laws' helpers for records 'Load'.
-/
namespace Go.Proofs.Ytdjhiegolojoaaa
open Go.RowKit

theorem infoLoad : (Try.prog.info? 69).map (fun i => (i.zero, i.size, i.bytes)) = some (some (.agg #[.int .i64 0, .int .i64 0, .int .i64 0]), 3, 24) := by kernel_rfl

set_option maxHeartbeats 400000 in
theorem toLoad_any (x0 x1 x2 : Int) (w : World) : Calls Try.prog 78 #[.agg #[.int .i64 x0, .int .i64 x1, .int .i64 x2]] w fun e w' => e = .returned (.agg #[.int .i64 x0, .int .i64 x1, .int .i64 x2]) ∧ Below w.heap.size w w' := by
  go_enter Try.func78, Try.ntmps78
  go_wp2
  exact bodyPost_ret (v := .agg #[.int .i64 x0, .int .i64 x1, .int .i64 x2]) (by simp [results, Try.results78, go_sem]) rfl ⟨rfl, (((Below.refl _ _).alloc (Nat.le_refl _) _).alloc (by simp) _).alloc (by simp; omega) _⟩

set_option maxHeartbeats 800000 in
theorem toLoadS_any (A : Option Addr) (n c : Nat) (zs : List Int) (w : World) (h : RecsAt w w.heap.size 3 A n zs) (hn : n ≤ 1048576) :
    Calls Try.prog 53 #[.slice A n c] w fun e w' => e = .returned (.slice (some ⟨w.heap.size, 0, none⟩) n n) ∧ w'.rowIs w.heap.size 69 (n * 3) (ints zs) ∧ Below w.heap.size w w' := by
  have H := Lib.hid h
  clear h
  have hmk := fun W => run_make_recs (P := Try.prog) 42 69 3 24 #[.int .i64 0, .int .i64 0, .int .i64 0] Try.underlying42 infoLoad n (by omega) hn W
  go_enter Try.func53, Try.ntmps53
  go_wp2
  clear hmk
  go_loopw [4] (fun i wr => ∃ k : Nat, k ≤ n ∧ i = .int .i64 k ∧ wr.rowIs w.heap.size 69 (n * 3) (fill zs (k * 3)) ∧ Below w.heap.size w wr) (fun i _ => n - (intOf i).toNat)
  case atStart => exact ⟨0, Nat.zero_le _, rfl, by rw [Nat.zero_mul]; exact rowIs_made0 w _ _ _ (fun j hj => by simp at hj; match j, hj with | 0, _ => rfl | 1, _ => rfl | 2, _ => rfl) (by simp) zs, (Below.refl _ _).alloc (Nat.le_refl _) _⟩
  case round =>
    obtain ⟨k, hk, rfl, hrow, hb⟩ := hrel
    by_cases hlt : k < n
    · obtain ⟨b, off, rfl, hbB, hc⟩ := H.out.2 (by omega)
      have hgl := hrow.lt
      have hx0 : wr.cell? ⟨b, off + k * 3, none⟩ = some (.int .i64 (nth zs (k * 3))) := (hb.cell (by exact hbB)).trans (hc (k * 3) (by omega))
      have hx1 : wr.cell? ⟨b, off + k * 3 + 1, none⟩ = some (.int .i64 (nth zs (k * 3 + 1))) := (hb.cell (by exact hbB)).trans (by have := hc (k * 3 + 1) (by omega); rwa [← Nat.add_assoc] at this)
      have hx2 : wr.cell? ⟨b, off + k * 3 + 2, none⟩ = some (.int .i64 (nth zs (k * 3 + 2))) := (hb.cell (by exact hbB)).trans (by have := hc (k * 3 + 2) (by omega); rwa [← Nat.add_assoc] at this)
      have HR := Lib.hid hrow
      have HB := Lib.hid hb
      clear hrow hb hc
      go_wp2_with fail
      refine (toLoad_any _ _ _ _).mono ?_
      rintro e w1 ⟨rfl, hb1⟩
      have HR1 := Lib.hid (below_row hb1 HR.out hgl)
      have HB1 := Lib.hid (HB.out.trans (hb1.mono HB.out.size))
      clear hb1
      have hy0 : w1.cell? ⟨w.heap.size, k * 3, none⟩ = some (.int .i64 0) := by rw [HR1.out.cell (by omega), fill_at zs (by omega)]
      have hf0 : w1.frozen? ⟨w.heap.size, k * 3, none⟩ = false := HR1.out.frozen _
      have hy1 : w1.cell? ⟨w.heap.size, k * 3 + 1, none⟩ = some (.int .i64 0) := by rw [HR1.out.cell (by omega), fill_at zs (by omega)]
      have hf1 : w1.frozen? ⟨w.heap.size, k * 3 + 1, none⟩ = false := HR1.out.frozen _
      have hy2 : w1.cell? ⟨w.heap.size, k * 3 + 2, none⟩ = some (.int .i64 0) := by rw [HR1.out.cell (by omega), fill_at zs (by omega)]
      have hf2 : w1.frozen? ⟨w.heap.size, k * 3 + 2, none⟩ = false := HR1.out.frozen _
      go_wp2
      go_roundw
      case rel => exact ⟨k + 1, by omega, by go_num, by rw [Nat.add_mul, Nat.one_mul]; exact World.rowIs.congr (World.rowIs.set (World.rowIs.set (World.rowIs.set HR1.out (k * 3) _) (k * 3 + 1) _) (k * 3 + 2) _) (fun j _ => fill_step3 zs (k * 3) j), (((HB1.out.setCell (Nat.le_refl _) _).setCell (Nat.le_refl _) _).setCell (Nat.le_refl _) _)⟩
      case measure => simp [intOf]; omega
    · have hkn : k = n := by omega
      subst hkn
      have HR := Lib.hid hrow
      have HB := Lib.hid hb
      clear hrow hb
      go_wp2
      go_ret
      exact ⟨rfl, HR.out.congr (fun j hj => fill_end zs hj), HB.out⟩

theorem szLoadS_ok (A : Option Addr) (n c : Nat) (l : Int) (w : World) (h0 : 0 ≤ l) (h1 : l ≤ 1048576) (hn : n ≤ 9223372036854775807) (h : (n : Int) ≤ l) : Calls Try.prog 49 #[.slice A n c, .int .i64 l] w fun e w' => e = .returned (.int .i64 (l - n)) ∧ w = w' := by
  have ht : ¬ l - (n : Int) < 0 := by omega
  go_enter Try.func49, Try.ntmps49
  go_wp2
  go_ret
  exact ⟨rfl, rfl⟩
theorem szLoadS_no (A : Option Addr) (n c : Nat) (l : Int) (w : World) (h0 : 0 ≤ l) (h1 : l ≤ 1048576) (hn : n ≤ 9223372036854775807) (h : l < (n : Int)) : Calls Try.prog 49 #[.slice A n c, .int .i64 l] w fun e w' => e = .returned (.int .i64 (-1)) ∧ w = w' := by
  have ht : l - (n : Int) < 0 := by omega
  go_enter Try.func49, Try.ntmps49
  go_wp2
  go_ret
  exact ⟨rfl, rfl⟩

set_option maxHeartbeats 400000 in
theorem eqLoad_same (x0 x1 x2 : Int) (w : World) : Calls Try.prog 83 #[.agg #[.int .i64 x0, .int .i64 x1, .int .i64 x2], .agg #[.int .i64 x0, .int .i64 x1, .int .i64 x2]] w fun e w' => e = .returned (.bool true) ∧ Below w.heap.size w w' := by
  have t0 : (x0 != x0) = false := by simp
  have t1 : (x1 != x1) = false := by simp
  have t2 : (x2 != x2) = false := by simp
  go_enter Try.func83, Try.ntmps83
  go_wp2
  go_ret
  exact ⟨rfl, ((Below.refl _ _).alloc (Nat.le_refl _) _).alloc (by simp) _⟩

set_option maxHeartbeats 800000 in
theorem eqLoadS_same (A A' : Option Addr) (n c c' : Nat) (zs : List Int) (w : World) (hx : RecsAt w w.heap.size 3 A n zs) (hy : RecsAt w w.heap.size 3 A' n zs) (hn : n ≤ 1048576) :
    Calls Try.prog 58 #[.slice A n c, .slice A' n c'] w fun e w' => e = .returned (.bool true) ∧ Below w.heap.size w w' := by
  have HX := Lib.hid hx
  have HY := Lib.hid hy
  clear hx hy
  have ht : ((n : Int) != (n : Int)) = false := by simp
  go_enter Try.func58, Try.ntmps58
  go_wp2
  go_loopw [5] (fun i wr => ∃ k : Nat, k ≤ n ∧ i = .int .i64 k ∧ Below w.heap.size w wr) (fun i _ => n - (intOf i).toNat)
  case atStart => exact ⟨0, Nat.zero_le _, rfl, Below.refl _ _⟩
  case round =>
    obtain ⟨k, hk, rfl, hb⟩ := hrel
    have HB := Lib.hid hb
    by_cases hlt : k < n
    · obtain ⟨b, off, rfl, hbB, hc⟩ := HX.out.2 (by omega)
      obtain ⟨b', off', rfl, hbB', hc'⟩ := HY.out.2 (by omega)
      have hz := hb.size
      have cx0 : wr.cell? ⟨b, off + k * 3, none⟩ = some (.int .i64 (nth zs (k * 3))) := (hb.cell (by exact hbB)).trans (hc (k * 3) (by omega))
      have cy0 : wr.cell? ⟨b', off' + k * 3, none⟩ = some (.int .i64 (nth zs (k * 3))) := (hb.cell (by exact hbB')).trans (hc' (k * 3) (by omega))
      have cx1 : wr.cell? ⟨b, off + k * 3 + 1, none⟩ = some (.int .i64 (nth zs (k * 3 + 1))) := (hb.cell (by exact hbB)).trans (by have := hc (k * 3 + 1) (by omega); rwa [← Nat.add_assoc] at this)
      have cy1 : wr.cell? ⟨b', off' + k * 3 + 1, none⟩ = some (.int .i64 (nth zs (k * 3 + 1))) := (hb.cell (by exact hbB')).trans (by have := hc' (k * 3 + 1) (by omega); rwa [← Nat.add_assoc] at this)
      have cx2 : wr.cell? ⟨b, off + k * 3 + 2, none⟩ = some (.int .i64 (nth zs (k * 3 + 2))) := (hb.cell (by exact hbB)).trans (by have := hc (k * 3 + 2) (by omega); rwa [← Nat.add_assoc] at this)
      have cy2 : wr.cell? ⟨b', off' + k * 3 + 2, none⟩ = some (.int .i64 (nth zs (k * 3 + 2))) := (hb.cell (by exact hbB')).trans (by have := hc' (k * 3 + 2) (by omega); rwa [← Nat.add_assoc] at this)
      generalize nth zs (k * 3) = u0 at *
      generalize nth zs (k * 3 + 1) = u1 at *
      generalize nth zs (k * 3 + 2) = u2 at *
      have ki : (k : Int) < (n : Int) := by omega
      have k0 : (0 : Int) ≤ (k : Int) := by omega
      clear hc hc' hb
      go_wp2
      go_region_held3 (fun w' => w'.cell? ⟨b, off + k * 3, none⟩ = some (.int .i64 u0) ∧ w'.cell? ⟨b, off + k * 3 + 1, none⟩ = some (.int .i64 u1) ∧ w'.cell? ⟨b, off + k * 3 + 2, none⟩ = some (.int .i64 u2) ∧ w'.cell? ⟨b', off' + k * 3, none⟩ = some (.int .i64 u0) ∧ w'.cell? ⟨b', off' + k * 3 + 1, none⟩ = some (.int .i64 u1) ∧ w'.cell? ⟨b', off' + k * 3 + 2, none⟩ = some (.int .i64 u2)) (first | (go_keep; done) | (refine ⟨?_, ?_, ?_, ?_, ?_, ?_⟩ <;> (rw [hcc _ _ (by simp <;> omega)]; go_keep))) ((go_at_call 83; refine (eqLoad_same _ _ _ _).mono ?_; rintro e w1 ⟨rfl, hb1⟩; obtain ⟨hcc, hff⟩ := bcell hb1))
      have HB1 := Lib.hid (HB.out.drew.trans (hb1.mono (by have := HB.out.size; simp; omega)))
      clear hcc hff hb1
      go_wp2
      go_roundw
      case rel => exact ⟨k + 1, by omega, by go_num, HB1.out⟩
      case measure => simp [intOf]; omega
    · have hkn : k = n := by omega
      subst hkn
      clear hb
      go_wp2
      go_ret
      exact ⟨rfl, HB.out⟩

set_option maxHeartbeats 800000 in
theorem markLoadS_any (g n c : Nat) (f : Nat → Value) (k0 : Int) (w : World) (h : w.rowIs g 69 (n * 3) f) (hf : IntRow f) (hn : n ≤ 1048576) (h0 : 0 ≤ k0) (h1 : k0 ≤ 1000000000) :
    Calls Try.prog 60 #[.slice (some ⟨g, 0, none⟩) n c, .int .i64 k0] w fun e w' => e = .returned (.int .i64 (k0 + (n * 3 : Nat))) ∧ w'.rowIs g 69 (n * 3) (marks f k0 (n * 3)) ∧ Only g w w' := by
  have H := Lib.hid h
  have HFI := Lib.hid hf
  clear h hf
  go_enter Try.func60, Try.ntmps60
  go_wp2
  go_loopw [1, 5] (fun m i wr => ∃ k : Nat, k ≤ n ∧ i = .int .i64 k ∧ m = .int .i64 (k0 + (k * 3 : Nat)) ∧ wr.rowIs g 69 (n * 3) (marks f k0 (k * 3)) ∧ Only g w wr) (fun _ i _ => n - (intOf i).toNat)
  case atStart => exact ⟨0, Nat.zero_le _, rfl, by simp, by rw [Nat.zero_mul]; exact H.out.congr (fun j _ => (marks_0 f k0 j).symm), Only.refl _ _⟩
  case round =>
    obtain ⟨k, hk, rfl, rfl, hrow, ho⟩ := hrel
    have HR := Lib.hid hrow
    have HO := Lib.hid ho
    by_cases hlt : k < n
    ·
      obtain ⟨v0, e0⟩ : ∃ z : Int, marks f k0 (k * 3) (k * 3) = .int .i64 z := by
        obtain ⟨z, e⟩ := HFI.out (k * 3)
        exact ⟨z, by rw [marks, if_neg (by omega)]; exact e⟩
      have hc0 : wr.cell? ⟨g, k * 3, none⟩ = some (.int .i64 v0) := by rw [HR.out.cell (by omega), e0]
      have hf0 : wr.frozen? ⟨g, k * 3, none⟩ = false := HR.out.frozen _
      clear e0
      obtain ⟨v1, e1⟩ : ∃ z : Int, marks f k0 (k * 3) (k * 3 + 1) = .int .i64 z := by
        obtain ⟨z, e⟩ := HFI.out (k * 3 + 1)
        exact ⟨z, by rw [marks, if_neg (by omega)]; exact e⟩
      have hc1 : wr.cell? ⟨g, k * 3 + 1, none⟩ = some (.int .i64 v1) := by rw [HR.out.cell (by omega), e1]
      have hf1 : wr.frozen? ⟨g, k * 3 + 1, none⟩ = false := HR.out.frozen _
      clear e1
      obtain ⟨v2, e2⟩ : ∃ z : Int, marks f k0 (k * 3) (k * 3 + 2) = .int .i64 z := by
        obtain ⟨z, e⟩ := HFI.out (k * 3 + 2)
        exact ⟨z, by rw [marks, if_neg (by omega)]; exact e⟩
      have hc2 : wr.cell? ⟨g, k * 3 + 2, none⟩ = some (.int .i64 v2) := by rw [HR.out.cell (by omega), e2]
      have hf2 : wr.frozen? ⟨g, k * 3 + 2, none⟩ = false := HR.out.frozen _
      clear e2
      clear hrow ho
      have hkk : (((k * 3 : Nat) : Nat) : Int) ≤ 1073741824 := by omega
      go_wp2
      go_roundw
      case rel =>
        refine ⟨k + 1, by omega, by go_num, by go_num, ?_, (((HO.out.setCell _ _).setCell _ _).setCell _ _)⟩
        have hs := (World.rowIs.congr (World.rowIs.set (World.rowIs.congr (World.rowIs.set (World.rowIs.congr (World.rowIs.set HR.out (k * 3) (.int .i64 (k0 + ((k * 3 : Nat) : Int)))) (fun j _ => marks_step f k0 (k * 3) j)) (k * 3 + 1) (.int .i64 (k0 + ((k * 3 + 1 : Nat) : Int)))) (fun j _ => marks_step f k0 (k * 3 + 1) j)) (k * 3 + 2) (.int .i64 (k0 + ((k * 3 + 2 : Nat) : Int)))) (fun j _ => marks_step f k0 (k * 3 + 2) j))
        rw [Nat.add_mul, Nat.one_mul]
        simpa [Int.add_assoc] using hs
      case measure => simp [intOf]; omega
    · have hkn : k = n := by omega
      subst hkn
      clear hrow ho
      go_wp2
      go_ret
      exact ⟨rfl, HR.out, HO.out⟩

end Go.Proofs.Ytdjhiegolojoaaa
end

section
/-
  Contracts: the draw of an arch with loads that stands, most times.
-/
namespace Go.Proofs.Ytdjhiegolojoaaa
open Go.RowKit
set_option linter.unusedSimpArgs false
set_option linter.unusedVariables false

theorem OwnR.onlyB {w w' : World} {g base : Nat} {E : TypeId} {K n : Nat} {v : Value} {xs : List Int} (h : OwnR w base E K v n xs) (ho : Only g w w') (hg : g < base) : OwnR w' base E K v n xs := by
  refine ⟨⟨h.1.1, ?_⟩, h.2⟩
  rcases h.1.2 with h2 | ⟨g', cap, cur, h1, h2, h3, hr⟩
  · exact .inl h2
  · exact .inr ⟨g', cap, cur, h1, h2, (ho.block g' (by omega)).trans h3, hr⟩
/-- A drawn number; only the cursor turns. -/
def PickPost (w : World) (g : Nat) (A : Option Addr) (n c : Nat) (e : Ending) (w' : World) : Prop :=
  ∃ x : Int, e = .returned (.int .i64 x) ∧ CurAt w' g A n c ∧ Only g w w'
set_option maxRecDepth 100000 in
set_option maxHeartbeats 1600000 in
theorem l01PickInt_any (g : Nat) (A : Option Addr) (n c : Nat) (zs : List Int) (p m d : Nat) (L : List Int) (w : World) (h : BytesAt w g A n zs) (hn : n ≤ 1048576) (hc : CurAt w g A n c) (hp : p ≠ g) (hr : RowF w p 3 m (ints L)) (h0 : 0 < m) (h1 : m ≤ 256) :
    Calls Try.prog 86 #[.pointer (some ⟨g, 0, none⟩), .slice (some ⟨p, 0, none⟩) m d] w (PickPost w g A n c) := by
  have HR := Lib.hid hr
  have HP := Lib.hid hp
  clear hr hp
  go_enter Try.func86, Try.ntmps86
  go_wp2_with fail
  refine (l01Below_any g A n c zs (m : Int) _ h hn hc (by omega) (by omega)).mono ?_
  rintro e w1 ⟨x, rfl, x0, x1, hc1, ho1⟩
  obtain ⟨i, rfl⟩ := Int.eq_ofNat_of_zero_le x0
  have y0 : w1.cell? ⟨p, i, none⟩ = some (.int .i64 (nth L i)) := (HR.out.only ho1 HP.out).cell (i := i) (by omega)
  have HC := Lib.hid hc1
  have HO := Lib.hid ho1
  clear hc1 ho1 h hc
  go_wp2
  go_ret
  exact ⟨_, rfl, HC.out, HO.out⟩

/-- What the draw of loads knows at the loop's head. -/
structure LdSt (w wr : World) (g : Nat) (A : Option Addr) (n c : Nat) (zs : List Int) (b m d : Nat) (Z : List Int) (v : Value) (k : Nat) (L : List Int) : Prop where
  box : RowF wr w.heap.size 41 1 (fun _ => .slice (some ⟨b, 0, none⟩) m d)
  row : RowF wr b 67 (m * 4) (ints Z)
  own : OwnR wr (w.heap.size + 1) 69 3 v k L
  far : g < b ∧ b < w.heap.size
  cur : CurAt wr g A n c
  code : BytesAt wr g A n zs
  below : Below g w wr
  keep : KeepB g w.heap.size w wr
section
variable {w wr w' : World} {g : Nat} {A : Option Addr} {n c : Nat} {zs : List Int} {b m d : Nat} {Z : List Int} {v : Value} {k : Nat} {L : List Int}
theorem LdSt.only (h : LdSt w wr g A n c zs b m d Z v k L) (ho : Only g wr w') (hc : CurAt w' g A n c) : LdSt w w' g A n c zs b m d Z v k L :=
  ⟨h.box.only ho (by have := h.far; omega), h.row.only ho (by have := h.far; omega), h.own.onlyB ho (by have := h.far; omega), h.far, hc, h.code.only ho (Nat.le_refl _), h.below.trans (ho.below (Nat.le_refl _)), h.keep.only ho⟩
theorem LdSt.after (h : LdSt w wr g A n c zs b m d Z v k L) (hb : Below wr.heap.size wr w') : LdSt w w' g A n c zs b m d Z v k L :=
  ⟨h.box.after hb, h.row.after hb, h.own.below hb, h.far, h.cur.after hb, h.code.below (hb.mono (by have := h.far; have := h.below.size; omega)), h.below.trans (hb.mono (by have := h.far; have := h.below.size; omega)), h.keep.belowB hb h.below.size⟩
theorem LdSt.drew (h : LdSt w wr g A n c zs b m d Z v k L) : LdSt w wr.drew g A n c zs b m d Z v k L :=
  ⟨h.box, h.row, h.own, h.far, h.cur, h.code, below_drewN h.below 1, h.keep⟩
theorem LdSt.grow {v' : Value} {k' : Nat} {L' : List Int} (h : LdSt w wr g A n c zs b m d Z v k L) (hb : Below (w.heap.size + 1) wr w') (ho : OwnR w' (w.heap.size + 1) 69 3 v' k' L') : LdSt w w' g A n c zs b m d Z v' k' L' := by
  have hf := h.far
  refine ⟨RowF.below h.box hb (by omega), RowF.below h.row hb (by omega), ho, h.far, ?_, h.code.below (hb.mono (by omega)), h.below.trans (hb.mono (by omega)), h.keep.belowB hb (by omega)⟩
  obtain ⟨i, x, hi, hcc⟩ := h.cur
  exact ⟨i, x, hi, RowF.below hcc hb (by omega)⟩
end
/-- Loads come back, in a row of the call's own; only the cursor turns. -/
def LdPost (w : World) (g : Nat) (A : Option Addr) (n c : Nat) (b m : Nat) (Z : List Int) (e : Ending) (w' : World) : Prop :=
  ∃ (v : Value) (k : Nat) (L : List Int), e = .returned v ∧ k ≤ 4 ∧ OwnR w' w.heap.size 69 3 v k L ∧ RowF w' b 67 (m * 4) (ints Z) ∧ CurAt w' g A n c ∧ KeepB g w.heap.size w w' ∧ Below g w w'
theorem rowF_new3L (w : World) (a b c : Int) (T : TypeId) : RowF (w.alloc (.cells #[.int .i64 a, .int .i64 b, .int .i64 c] T)) w.heap.size T 3 (ints [a, b, c]) :=
  RowF.of_row (World.rowIs_alloc w #[.int .i64 a, .int .i64 b, .int .i64 c] T _ (fun j hj => by simp at hj; match j, hj with | 0, _ => rfl | 1, _ => rfl | 2, _ => rfl))

set_option maxRecDepth 100000 in
set_option maxHeartbeats 6400000 in
theorem l07Loads_any (g : Nat) (A : Option Addr) (n c : Nat) (zs : List Int) (b m d : Nat) (Z : List Int) (w : World) (h : BytesAt w g A n zs) (hn : n ≤ 1048576) (hc : CurAt w g A n c) (hg : g < b) (hb : b < w.heap.size) (hr : RowF w b 67 (m * 4) (ints Z)) (hm : m ≤ 8) :
    Calls Try.prog 64 #[.pointer (some ⟨g, 0, none⟩), .agg #[.slice (some ⟨b, 0, none⟩) m d]] w (LdPost w g A n c b m Z) := by
  have HL0 : Hid (LdSt w ((w.alloc (.cells #[.slice (some ⟨b, 0, none⟩) m d] 41)).alloc (.cells #[] 69)) g A n c zs b m d Z (.slice (some ⟨w.heap.size + 1, 0, none⟩) 0 0) 0 []) := Lib.hid (by
    have b1 : Below w.heap.size w (w.alloc (.cells #[.slice (some ⟨b, 0, none⟩) m d] 41)) := (Below.refl _ _).alloc (Nat.le_refl _) _
    have b2 := b1.alloc (o := .cells #[] 69) b1.size
    have ho := OwnR.new (w.alloc (.cells #[.slice (some ⟨b, 0, none⟩) m d] 41)) 69 3
    rw [World.size_alloc] at ho
    exact ⟨(rowF_new1S w _ _).alloc _, hr.after b2, ho, ⟨hg, hb⟩, hc.after b2, h.below (b2.mono (by omega)), b2.mono (by omega), fun k hk _ => b2.block k hk⟩)
  clear h hc hr
  go_enter Try.func64, Try.ntmps64
  go_wp2_with fail
  refine (l01Below_any g A n c zs 4 _ HL0.out.code hn HL0.out.cur (by omega) (by omega)).mono ?_
  rintro e w1 ⟨x, rfl, x0, x1, hc1, ho1⟩
  have HL1 := Lib.hid (HL0.out.only ho1 hc1)
  obtain ⟨q, rfl⟩ := Int.eq_ofNat_of_zero_le x0
  clear hc1 ho1 HL0 x0
  go_wp2
  go_loopw [5, 7] (fun v5 v7 wr => ∃ (k : Nat) (L : List Int) (A5 : Option Addr) (c5 : Nat), v5 = .slice A5 k c5 ∧ v7 = .int .i64 k ∧ k ≤ q ∧ Hid (LdSt w wr g A n c zs b m d Z (.slice A5 k c5) k L)) (fun _ v7 _ => q - (intOf v7).toNat)
  case atStart => exact ⟨0, [], _, _, rfl, rfl, Nat.zero_le _, HL1⟩
  case round =>
    clear HL1
    obtain ⟨k, L, A5, c5, rfl, rfl, hk, HL⟩ := hrel
    have bx : wr.cell? ⟨w.heap.size, 0, none⟩ = some (.slice (some ⟨b, 0, none⟩) m d) := HL.out.box.cell (i := 0) (by omega)
    by_cases hlt : k < q
    · have kq : (k : Int) < (q : Int) := by omega
      by_cases hm1 : 1 < m
      · have m1 : (1 : Int) < (m : Int) := by omega
        have e1 : IntKind.i64.wrap ((m : Int) - 1) = (m : Int) - 1 := IntWalk.i64_in _ (by omega)
        have e2 : IntKind.i64.wrap ((k : Int) + 1) = (k : Int) + 1 := IntWalk.i64_in _ (by omega)
        go_wp2_with fail
        refine (l01Below_any g A n c zs ((m : Int) - 1) _ HL.out.code hn HL.out.cur (by omega) (by omega)).mono ?_
        rintro e w2 ⟨x, rfl, y0, y1, hc2, ho2⟩
        have HL2 := Lib.hid (HL.out.only ho2 hc2)
        obtain ⟨i, rfl⟩ := Int.eq_ofNat_of_zero_le y0
        have hi : i < m := by omega
        clear hc2 ho2 HL bx y0 y1
        have HLA := Lib.hid (HL2.out.after ((Below.refl _ _).alloc (Nat.le_refl _) (.cells #[.int .i64 0, .int .i64 6, .int .i64 20, .int .i64 60, .int .i64 200] 3)))
        have HRA : Hid (RowF (w2.alloc (.cells #[.int .i64 0, .int .i64 6, .int .i64 20, .int .i64 60, .int .i64 200] 3)) w2.heap.size 3 5 (ints [0, 6, 20, 60, 200])) := Lib.hid (rowF_lit w2 3 [0, 6, 20, 60, 200] 5 rfl)
        have hgl : w2.heap.size ≠ g := by have := HL2.out.far; have := HL2.out.below.size; omega
        go_wp2_with fail
        refine (l01PickInt_any g A n c zs _ 5 _ _ _ HLA.out.code hn HLA.out.cur hgl HRA.out (by omega) (by omega)).mono ?_
        rintro e w3 ⟨u, rfl, hc3, ho3⟩
        have HL3 := Lib.hid (HLA.out.only ho3 hc3)
        clear hc3 ho3 HL2 HLA HRA hgl
        have bx : w3.cell? ⟨w.heap.size, 0, none⟩ = some (.slice (some ⟨b, 0, none⟩) m d) := HL3.out.box.cell (i := 0) (by omega)
        have jx : w3.cell? ⟨b, i * 4 + 2, none⟩ = some (.int .i64 (nth Z (i * 4 + 2))) := HL3.out.row.cell (i := i * 4 + 2) (by omega)
        have im : (i : Int) < (m : Int) := by omega
        have i0 : (0 : Int) ≤ (i : Int) := by omega
        generalize nth Z (i * 4 + 2) = jz at *
        go_wp2
        refine wp_region_held_drew (S := fun w' => w'.cell? ⟨w.heap.size, 0, none⟩ = some (.slice (some ⟨b, 0, none⟩) m d) ∧ w'.cell? ⟨b, i * 4 + 2, none⟩ = some (.int .i64 jz)) (by kernel_rfl) (by exact ⟨bx, jx⟩) (fun hHeld => ?_)
        refine take_heldS (i := 0) (d := 33) rfl rfl (by kernel_rfl) (by kernel_rfl) (by kernel_rfl) (fun _ _ _ h => h) (by kernel_rfl) (fun w hSw => by (try dsimp only at hSw); go_simp; try rfl) (by assumption) ?_
        try simp only [Act.put, List.setIfInBounds_toArray, List.set_cons_zero, List.set_cons_succ]
        refine take_heldS (i := 1) (d := 34) rfl rfl (by kernel_rfl) (by kernel_rfl) (by kernel_rfl) (fun _ _ _ h => h) (by kernel_rfl) (fun w hSw => by (try dsimp only at hSw); go_simp; try rfl) (by assumption) ?_
        try simp only [Act.put, List.setIfInBounds_toArray, List.set_cons_zero, List.set_cons_succ]
        refine take_heldS (i := 2) (d := 35) rfl rfl (by kernel_rfl) (by kernel_rfl) (by kernel_rfl) (fun _ _ _ h => h) (by kernel_rfl) (fun w hSw => by (try dsimp only at hSw); go_simp; try rfl) (by assumption) ?_
        try simp only [Act.put, List.setIfInBounds_toArray, List.set_cons_zero, List.set_cons_succ]
        refine take_heldS (i := 3) (d := 36) rfl rfl (by kernel_rfl) (by kernel_rfl) (by kernel_rfl) (fun _ _ _ h => h) (by kernel_rfl) (fun w hSw => by (try dsimp only at hSw); go_simp; try rfl) (by assumption) ?_
        try simp only [Act.put, List.setIfInBounds_toArray, List.set_cons_zero, List.set_cons_succ]
        refine take_heldS (i := 4) (d := 37) rfl rfl (by kernel_rfl) (by kernel_rfl) (by kernel_rfl) (fun _ _ _ h => h) (by kernel_rfl) (fun w hSw => by (try dsimp only at hSw); go_simp; try rfl) (by assumption) ?_
        try simp only [Act.put, List.setIfInBounds_toArray, List.set_cons_zero, List.set_cons_succ]
        refine take_heldS (i := 5) (d := 38) rfl rfl (by kernel_rfl) (by kernel_rfl) (by kernel_rfl) (fun _ _ _ h => h) (by kernel_rfl) (fun w hSw => by (try dsimp only at hSw); go_simp; try rfl) (by assumption) ?_
        try simp only [Act.put, List.setIfInBounds_toArray, List.set_cons_zero, List.set_cons_succ]
        refine take_heldS (i := 6) (d := 39) rfl rfl (by kernel_rfl) (by kernel_rfl) (by kernel_rfl) (fun _ _ _ h => h) (by kernel_rfl) (fun w hSw => by (try dsimp only at hSw); go_simp; try rfl) (by assumption) ?_
        try simp only [Act.put, List.setIfInBounds_toArray, List.set_cons_zero, List.set_cons_succ]
        refine take_heldS (i := 7) (d := 40) rfl rfl (by kernel_rfl) (by kernel_rfl) (by kernel_rfl) (fun _ _ _ h => h) (by kernel_rfl) (fun w hSw => by (try dsimp only at hSw); go_simp; try rfl) (by assumption) ?_
        try simp only [Act.put, List.setIfInBounds_toArray, List.set_cons_zero, List.set_cons_succ]
        refine take_heldS (i := 8) (d := 41) rfl rfl (by kernel_rfl) (by kernel_rfl) (by kernel_rfl) (fun _ _ _ h => h) (by kernel_rfl) (fun w hSw => by (try dsimp only at hSw); go_simp; try rfl) (by assumption) ?_
        try simp only [Act.put, List.setIfInBounds_toArray, List.set_cons_zero, List.set_cons_succ]
        refine take_heldS (i := 9) (d := 42) rfl rfl (by kernel_rfl) (by kernel_rfl) (by kernel_rfl) (fun _ _ _ h => h) (by kernel_rfl) (fun w hSw => by (try dsimp only at hSw); go_simp; try rfl) (by assumption) ?_
        try simp only [Act.put, List.setIfInBounds_toArray, List.set_cons_zero, List.set_cons_succ]
        refine take_heldS (i := 10) (d := 43) rfl rfl (by kernel_rfl) (by kernel_rfl) (by kernel_rfl) (fun _ _ _ h => h) (by kernel_rfl) (fun w hSw => by (try dsimp only at hSw); go_simp; try rfl) (by assumption) ?_
        try simp only [Act.put, List.setIfInBounds_toArray, List.set_cons_zero, List.set_cons_succ]
        refine wpAnyH_ready (rs := [11]) (by kernel_rfl) (by simp) ?_
        refine AllReadyH.cons rfl (fun K hK => ?_) AllReadyH.nil
        go_simp
        refine (l01Below_any g A n c zs 4 _ HL3.out.drew.code hn HL3.out.drew.cur (by omega) (by omega)).mono ?_; rintro e w4 ⟨y, rfl, _, _, hc4, ho4⟩; have HL4 := Lib.hid (HL3.out.drew.only ho4 hc4)
        refine hK.out _ _ (by exact ⟨HL4.out.box.cell (i := 0) (by omega), (ho4.cell (p := ⟨b, i * 4 + 2, none⟩) (by simp; have := HL4.out.far; omega)).trans jx⟩) (fun hHeld => ?_)
        clear hK K
        try simp only [Act.put, List.setIfInBounds_toArray, List.set_cons_zero, List.set_cons_succ]
        refine take_heldS (i := 12) (d := 45) rfl rfl (by kernel_rfl) (by kernel_rfl) (by kernel_rfl) (fun _ _ _ h => h) (by kernel_rfl) (fun w hSw => by (try dsimp only at hSw); go_simp; try rfl) (by assumption) ?_
        try simp only [Act.put, List.setIfInBounds_toArray, List.set_cons_zero, List.set_cons_succ]
        refine take_heldS (i := 13) (d := 46) rfl rfl (by kernel_rfl) (by kernel_rfl) (by kernel_rfl) (fun _ _ _ h => h) (by kernel_rfl) (fun w hSw => by (try dsimp only at hSw); go_simp; try rfl) (by assumption) ?_
        try simp only [Act.put, List.setIfInBounds_toArray, List.set_cons_zero, List.set_cons_succ]
        refine wpAnyH_ready (rs := [14]) (by kernel_rfl) (by simp) ?_
        refine AllReadyH.cons rfl (fun K hK => ?_) AllReadyH.nil
        go_simp
        skip
        refine hK.out _ _ (by exact ⟨(HL4.out.box.alloc _).cell (i := 0) (by omega), (cell_alloc_lt (RowF.lt HL4.out.row)).trans ((ho4.cell (p := ⟨b, i * 4 + 2, none⟩) (by simp; have := HL4.out.far; omega)).trans jx)⟩) (fun hHeld => ?_)
        clear hK K
        try simp only [Act.put, List.setIfInBounds_toArray, List.set_cons_zero, List.set_cons_succ]
        refine wpAnyH_ready (rs := [15]) (by kernel_rfl) (by simp) ?_
        refine AllReadyH.cons rfl (fun K hK => ?_) AllReadyH.nil
        refine step_appR rfl (.tmp 33) (.tmp 47) 42 rfl (w.heap.size + 1) 69 3 24 #[.int .i64 0, .int .i64 0, .int .i64 0] Try.underlying42 infoLoad rfl (by decide) (by decide) _ k L rfl (by exact HL4.out.own.alloc _) w4.heap.size 1 1 [(i : Int), u, IntKind.i64.wrap (jz + y)] rfl rfl (by exact fun j hj => (rowF_new3L w4 _ _ _ _).cell hj) (by omega) (w.heap.size + 1) w4 (by exact (Below.refl _ _).alloc (by have := HL4.out.below.size; have := RowF.lt HL4.out.box; omega) _) (Nat.le_refl _) (by have := RowF.lt HL4.out.box; simp; omega) _ rfl (by omega) ?_; intro g' cap' w5 hown5 hb5; have HL5 := Lib.hid (HL4.out.grow hb5 hown5)
        refine hK.out _ _ (by exact ⟨HL5.out.box.cell (i := 0) (by omega), (hb5.cell (p := ⟨b, i * 4 + 2, none⟩) (by simp; have := HL4.out.far; omega)).trans ((ho4.cell (p := ⟨b, i * 4 + 2, none⟩) (by simp; have := HL4.out.far; omega)).trans jx)⟩) (fun hHeld => ?_)
        clear hK K
        try simp only [Act.put, List.setIfInBounds_toArray, List.set_cons_zero, List.set_cons_succ]
        refine take_heldS (i := 16) (d := 5) rfl rfl (by kernel_rfl) (by kernel_rfl) (by kernel_rfl) (fun _ _ _ h => h) (by kernel_rfl) (fun w hSw => by (try dsimp only at hSw); go_simp; try rfl) (by assumption) ?_
        try simp only [Act.put, List.setIfInBounds_toArray, List.set_cons_zero, List.set_cons_succ]
        refine wpAnyH_done (by kernel_rfl) ?_ _
        clear hc4 ho4 hown5 hb5 bx jx HL3 HL4
        go_wp2
        go_roundw
        case rel => exact ⟨k + 1, _, _, cap', rfl, by go_num, by omega, HL5⟩
        case measure => simp [intOf]; omega
      · have m1 : ¬ (1 : Int) < (m : Int) := by omega
        go_wp2
        go_ret
        exact ⟨.slice A5 k c5, k, L, rfl, by omega, HL.out.own.weaken (by omega), HL.out.row, HL.out.cur, HL.out.keep, HL.out.below⟩
    · have kq : ¬ (k : Int) < (q : Int) := by omega
      go_wp2
      go_ret
      exact ⟨.slice A5 k c5, k, L, rfl, by omega, HL.out.own.weaken (by omega), HL.out.row, HL.out.cur, HL.out.keep, HL.out.below⟩

/-- Records that stay: none, or a row at or above base. -/
def RowX (w : World) (base : Nat) (E : TypeId) (K k : Nat) (A : Option Addr) (L : List Int) : Prop := L.length = k * K ∧ (k = 0 ∨ ∃ g, A = some ⟨g, 0, none⟩ ∧ base ≤ g ∧ RowF w g E (k * K) (ints L))
section
variable {w w' : World} {base : Nat} {E : TypeId} {K k c : Nat} {A : Option Addr} {L : List Int}
theorem RowX.of (h : OwnR w base E K (.slice A k c) k L) : RowX w base E K k A L := by
  refine ⟨h.2, ?_⟩
  rcases h.form with ⟨_, h2, _⟩ | ⟨g, cap, e, hb, _, hr⟩
  · exact .inl h2
  · simp at e
    exact .inr ⟨g, e.1, hb, hr⟩
theorem RowX.recs (h : RowX w base E K k A L) : RecsAt w w.heap.size K A k L := by
  refine ⟨h.1, fun hm => ?_⟩
  rcases h.2 with h2 | ⟨g, rfl, _, hr⟩
  · omega
  · exact ⟨g, 0, rfl, RowF.lt hr, fun i hi => by rw [Nat.zero_add]; exact hr.cell hi⟩
theorem RowX.after (h : RowX w base E K k A L) (hb : Below w.heap.size w w') : RowX w' base E K k A L :=
  ⟨h.1, h.2.imp id fun ⟨g, e, h2, hr⟩ => ⟨g, e, h2, RowF.after hr hb⟩⟩
theorem RowX.set (h : RowX w base E K k A L) {p : Addr} (hp : p.block < base) (u : Value) : RowX (w.setCell p u) base E K k A L :=
  ⟨h.1, h.2.imp id fun ⟨g, e, h2, hr⟩ => ⟨g, e, h2, hr.set_other (by omega) u⟩⟩
theorem RowX.mono {base' : Nat} (h : RowX w base E K k A L) (hb : base' ≤ base) : RowX w base' E K k A L :=
  ⟨h.1, h.2.imp id fun ⟨g, e, h2, hr⟩ => ⟨g, e, by omega, hr⟩⟩
end
theorem rowRecs {w : World} {b K m : Nat} {E : TypeId} {Z : List Int} (h : RowF w b E (m * K) (ints Z)) (hl : Z.length = m * K) : RecsAt w w.heap.size K (some ⟨b, 0, none⟩) m Z :=
  ⟨hl, fun _ => ⟨b, 0, rfl, RowF.lt h, fun i hi => by rw [Nat.zero_add]; exact h.cell hi⟩⟩
/-- An arch with loads comes back; only blocks from B on turn. -/
def StPost (B base : Nat) (w : World) (e : Ending) (w' : World) : Prop :=
  ∃ (b m d : Nat) (Z : List Int) (A' : Option Addr) (q cp : Nat) (L : List Int), e = .returned (.tuple #[.agg #[.slice (some ⟨b, 0, none⟩) m d], .slice A' q cp]) ∧ m ≤ 8 ∧ q ≤ 4 ∧ base < b ∧ Z.length = m * 4 ∧ archB Z m = true ∧ RowF w' b 67 (m * 4) (ints Z) ∧ RowX w' (base + 1) 69 3 q A' L ∧ Below B w w'
/-- What the loop knows: the result's cell, the cursor, the bytes. -/
structure SdSt (w wr : World) (g : Nat) (A : Option Addr) (n c : Nat) (zs : List Int) : Prop where
  res : RowF wr w.heap.size 41 1 (fun _ => .slice none 0 0)
  cur : CurAt wr g A n c
  code : BytesAt wr g A n zs
  below : Below g w wr
theorem SdSt.after {w wr w' : World} {g : Nat} {A : Option Addr} {n c : Nat} {zs : List Int} (h : SdSt w wr g A n c zs) (hg : g < w.heap.size) (hb : Below wr.heap.size wr w') : SdSt w w' g A n c zs :=
  ⟨h.res.after hb, h.cur.after hb, h.code.below (hb.mono (by have := h.below.size; omega)), h.below.trans (hb.mono (by have := h.below.size; omega))⟩
/-- .. behind a draw: blocks from g on turn, but the result's cell does not. -/
theorem SdSt.next {w wr w' : World} {g : Nat} {A : Option Addr} {n c : Nat} {zs : List Int} (h : SdSt w wr g A n c zs) (hr : RowF w' w.heap.size 41 1 (fun _ => .slice none 0 0)) (hc : CurAt w' g A n c) (hb : Below g wr w') : SdSt w w' g A n c zs :=
  ⟨hr, hc, h.code.below hb, h.below.trans hb⟩

set_option maxRecDepth 100000 in
set_option maxHeartbeats 6400000 in
theorem l12Standing_any (g : Nat) (A : Option Addr) (n c : Nat) (zs : List Int) (w : World) (h : BytesAt w g A n zs) (hn : n ≤ 1048576) (hc : CurAt w g A n c) (hg : g < w.heap.size) :
    Calls Try.prog 39 #[.pointer (some ⟨g, 0, none⟩)] w (StPost g w.heap.size w) := by
  have HG := Lib.hid hg
  have HS0 : Hid (SdSt w (w.alloc (.cells #[.slice none 0 0] 41)) g A n c zs) := Lib.hid (by
    have b1 : Below w.heap.size w (w.alloc (.cells #[.slice none 0 0] 41)) := (Below.refl _ _).alloc (Nat.le_refl _) _
    exact ⟨rowF_new1S _ _ _, hc.after b1, h.below (b1.mono (by omega)), b1.mono (by omega)⟩)
  clear h hc
  go_enter Try.func39, Try.ntmps39
  go_wp2
  go_loopw [4] (fun v4 wr => ∃ k : Nat, v4 = .int .i64 k ∧ k ≤ 5 ∧ Hid (SdSt w wr g A n c zs)) (fun v4 _ => 5 - (intOf v4).toNat)
  case atStart => exact ⟨0, rfl, Nat.zero_le _, HS0⟩
  case round =>
    clear HS0
    obtain ⟨k, rfl, hk, HS⟩ := hrel
    by_cases hlt : k < 5
    · have k5 : (k : Int) < 5 := by omega
      have e2 : IntKind.i64.wrap ((k : Int) + 1) = (k : Int) + 1 := IntWalk.i64_in _ (by omega)
      have hgl : g < wr.heap.size := by have := HS.out.below.size; omega
      have hwl : w.heap.size < wr.heap.size := RowF.lt HS.out.res
      go_wp2_with fail
      refine (l06Arch_keep g A n c zs _ HS.out.code hn HS.out.cur hgl).mono ?_
      rintro e w1 ⟨b, m, d, Z, rfl, hb, hmd, hr, hl, ho, hcc, hkp, hb1⟩
      have HS1 := Lib.hid (HS.out.next (hkp.row HS.out.res hwl (by omega)) hcc hb1)
      have hm8 := (archB_out ho).1
      have hgb : g < b := by omega
      have hs1 := hb1.size
      have ba : Below w1.heap.size w1 (w1.alloc (.cells #[.slice (some ⟨b, 0, none⟩) m d] 41)) := (Below.refl _ _).alloc (Nat.le_refl _) _
      have HS2 := Lib.hid (HS1.out.after HG.out ba)
      have HR2 := Lib.hid (hr.after ba)
      have HX2 := Lib.hid (rowF_new1S w1 (.slice (some ⟨b, 0, none⟩) m d) 41)
      have hbl : b < w1.heap.size := RowF.lt hr
      have hrz : Hid (Z.length = m * 4 ∧ archB Z m = true) := Lib.hid ⟨hl, ho⟩
      obtain ⟨X, hX⟩ : ∃ X, w1.heap.size = X := ⟨_, rfl⟩
      have hs2 : (w1.alloc (.cells #[.slice (some ⟨b, 0, none⟩) m d] 41)).heap.size = X + 1 := by simp [hX]
      have HZ2 := Lib.hid hs2
      rw [hX] at HX2 hbl hs1
      have HXE := Lib.hid hX
      clear hr hl ho hcc hkp hb1 ba HS HS1 hs2 hX
      go_wp2_with fail
      refine (l07Loads_any g A n c zs b m d Z _ HS2.out.code hn HS2.out.cur hgb (by rw [HZ2.out]; omega) HR2.out hm8.2).mono ?_
      rintro e w3 ⟨v, q, L, rfl, hq, ho3, hr3, hc3, hk3, hb3⟩
      have HS3 := Lib.hid (HS2.out.next (hk3.row HS2.out.res (by rw [HZ2.out]; omega) (by omega)) hc3 hb3)
      have HX3 := Lib.hid (hk3.row HX2.out (by rw [HZ2.out]; omega) (by omega))
      obtain ⟨A', cp, rfl, _⟩ := ho3.slice
      have HL3 : Hid (RowX w3 (w.heap.size + 1) 69 3 q A' L) := Lib.hid ((RowX.of ho3).mono (by rw [HZ2.out]; omega))
      have HR3 := Lib.hid hr3
      have xb : w3.cell? ⟨w1.heap.size, 0, none⟩ = some (.slice (some ⟨b, 0, none⟩) m d) := by rw [HXE.out]; exact HX3.out.cell (i := 0) (by omega)
      clear hc3 hk3 hb3 ho3 hr3 HS2 HX2 HR2
      go_wp2_with fail
      refine (sStands_any _ _ _ Z _ _ _ L _ (rowRecs HR3.out hrz.out.1) (by omega) HL3.out.recs (by omega)).mono ?_
      generalize decide (0 < (cornN (rowsZ Z m L q) (rowsN Z m L q) : Int)) = bb
      rintro e w4 ⟨rfl, hb4⟩
      have HS4 := Lib.hid (HS3.out.after HG.out hb4)
      have HX4 := Lib.hid (HX3.out.after hb4)
      have HR4 := Lib.hid (HR3.out.after hb4)
      have HL4 := Lib.hid (HL3.out.after hb4)
      clear hb4 HS3 HX3 HR3 HL3 xb
      have xb : w4.cell? ⟨w1.heap.size, 0, none⟩ = some (.slice (some ⟨b, 0, none⟩) m d) := by rw [HXE.out]; exact HX4.out.cell (i := 0) (by omega)
      cases bb
      · go_wp2
        go_roundw
        case rel => exact ⟨k + 1, by go_num, by omega, HS4⟩
        case measure => simp [intOf]; omega
      · have d0 : w4.cell? ⟨w.heap.size, 0, none⟩ = some (.slice none 0 0) := HS4.out.res.cell (i := 0) (by omega)
        have f0 := HS4.out.res.frozen 0
        have hs := RowF.lt HS4.out.res
        go_wp2
        refine bodyPost_ret (v := .tuple #[.agg #[.slice (some ⟨b, 0, none⟩) m d], .slice A' q cp]) (by simp [results, Try.results39, go_sem, *]) rfl ?_
        exact ⟨b, m, d, Z, A', q, cp, L, rfl, hm8.2, hq, by omega, hrz.out.1, hrz.out.2, HR4.out.set_other (by simp; omega) _, HL4.out.set (by simp) _, HS4.out.below.setCell (by simp; omega) _⟩
    · obtain rfl : k = 5 := by omega
      have k5 : ¬ ((5 : Nat) : Int) < 5 := by omega
      go_wp2_with fail
      refine (l06Shape_any 1 _ (by omega) (by omega)).mono ?_
      rintro e w1 ⟨b, m, Z, rfl, hb, hr, hl, ho, hb1⟩
      have HS1 := Lib.hid (HS.out.after HG.out hb1)
      have hwl : w.heap.size < wr.heap.size := RowF.lt HS.out.res
      have hm8 := (archB_out ho).1
      have HR1 := Lib.hid hr
      have hrz : Hid (Z.length = m * 4 ∧ archB Z m = true) := Lib.hid ⟨hl, ho⟩
      have hs1 := hb1.size
      have d0 : w1.cell? ⟨w.heap.size, 0, none⟩ = some (.slice none 0 0) := HS1.out.res.cell (i := 0) (by omega)
      have f0 := HS1.out.res.frozen 0
      have hs := RowF.lt HS1.out.res
      clear hr hl ho hb1
      go_wp2
      refine bodyPost_ret (v := .tuple #[.agg #[.slice (some ⟨b, 0, none⟩) m m], .slice (some ⟨w1.heap.size, 0, none⟩) 0 0]) (by simp [results, Try.results39, go_sem, *]) rfl ?_
      exact ⟨b, m, m, Z, _, 0, 0, [], rfl, hm8.2, by omega, by omega, hrz.out.1, hrz.out.2, (HR1.out.set_other (by simp; omega) _).alloc _, ⟨rfl, .inl rfl⟩, (HS1.out.below.setCell (by simp; omega) _).alloc (by have := HG.out; simp; omega) _⟩

set_option maxRecDepth 100000 in
set_option maxHeartbeats 3200000 in
theorem drawStanding_any (A : Option Addr) (n c : Nat) (zs : List Int) (w : World) (h : BytesAt w w.heap.size A n zs) (hn : n ≤ 1048576) :
    Calls Try.prog 13 #[.slice A n c] w (StPost w.heap.size w.heap.size w) := by
  have h0 : BytesAt (w.alloc (.cells #[.slice none 0 0] 41)) (w.alloc (.cells #[.slice none 0 0] 41)).heap.size A n zs := h.after ((Below.refl _ _).alloc (Nat.le_refl _) _)
  have HB0 : Hid (Below w.heap.size w (w.alloc (.cells #[.slice none 0 0] 41))) := Lib.hid ((Below.refl _ _).alloc (Nat.le_refl _) _)
  have HV0 : Hid (RowF (w.alloc (.cells #[.slice none 0 0] 41)) w.heap.size 41 1 (fun _ => .slice none 0 0)) := Lib.hid (rowF_new1S _ _ _)
  go_enter Try.func13, Try.ntmps13
  go_wp2_with fail
  refine (l01New_any _ _ _ zs _ h0 hn).mono ?_
  rintro e w1 ⟨g, rfl, hg, hc, hb1⟩
  have hgl : g < w1.heap.size := by
    obtain ⟨i, x, _, hcc⟩ := hc
    exact RowF.lt hcc
  have h1 : BytesAt w1 g A n zs := (h0.below hb1).mono hg
  have hgw : w.heap.size < g := by simp at hg; omega
  have HB1 := Lib.hid (HB0.out.trans (hb1.mono (by simp)))
  have HV1 := Lib.hid (HV0.out.after hb1)
  clear hb1 h h0
  go_wp2_with fail
  refine (l12Standing_any g _ _ _ zs _ h1 hn hc hgl).mono ?_
  rintro e w2 ⟨b, m, d, Z, A', q, cp, L, rfl, hm8, hq, hb, hl, ho, hr, hx, hb2⟩
  have HV2 := Lib.hid (RowF.of_block HV1.out (hb2.block w.heap.size hgw))
  have HB2 := Lib.hid (HB1.out.trans (hb2.mono (by omega)))
  have HR2 := Lib.hid hr
  have HX2 := Lib.hid (hx.mono (base' := w.heap.size + 1) (by omega))
  have hrz : Hid (Z.length = m * 4 ∧ archB Z m = true) := Lib.hid ⟨hl, ho⟩
  clear hb2 h1 hc hr hx hl ho
  have d0 : w2.cell? ⟨w.heap.size, 0, none⟩ = some (.slice none 0 0) := HV2.out.cell (i := 0) (by omega)
  have f0 := HV2.out.frozen 0
  have hs := RowF.lt HV2.out
  go_wp2
  refine bodyPost_ret (v := .tuple #[.agg #[.slice (some ⟨b, 0, none⟩) m d], .slice A' q cp]) (by simp [results, Try.results13, go_sem, *]) rfl ?_
  exact ⟨b, m, d, Z, A', q, cp, L, rfl, hm8, hq, by omega, hrz.out.1, hrz.out.2, (HR2.out.set_other (by simp; omega) _).alloc _, (HX2.out.set (by simp) _).after ((Below.refl _ _).alloc (Nat.le_refl _) _), (HB2.out.setCell (by simp) _).alloc (by have := HB2.out.size; simp; omega) _⟩
end Go.Proofs.Ytdjhiegolojoaaa
end

section
/-
  Contracts: the laws' small helpers on the code.
-/
namespace Go.Proofs.Ytdjhiegolojoaaa
open Go.RowKit
set_option linter.unusedSimpArgs false

theorem big_any (A : Option Addr) (n c : Nat) (w : World) : Calls Try.prog 12 #[.slice A n c] w fun e w' => e = .returned (.bool (decide ((1048576 : Int) < (n : Int)))) ∧ w = w' := by
  go_enter Try.func12, Try.ntmps12
  go_wp2
  go_ret
  exact ⟨rfl, rfl⟩
/-- What 'at' reads. -/
def atV (zs : List Int) (n : Nat) (i : Int) : Int := if n = 0 then 0 else nth zs ((i * 5 + 1) % (n : Int)).toNat
theorem atV_bd {zs : List Int} (h : ∀ k, 0 ≤ nth zs k ∧ nth zs k ≤ 255) (n : Nat) (i : Int) : 0 ≤ atV zs n i ∧ atV zs n i ≤ 255 := by
  unfold atV
  split
  · omega
  · exact h _
set_option maxHeartbeats 800000 in
theorem at_any (A : Option Addr) (n c : Nat) (zs : List Int) (i : Int) (w : World) (h : BytesAt w w.heap.size A n zs) (hn : n ≤ 1048576) (hi : 0 ≤ i ∧ i ≤ 1000) :
    Calls Try.prog 20 #[.slice A n c, .int .i64 i] w fun e w' => e = .returned (.int .i64 (atV zs n i)) ∧ w = w' := by
  by_cases h0 : n = 0
  · have ht : ((n : Int) == 0) = true := by simp [h0]
    have HV := Lib.hid (show atV zs n i = 0 by simp [atV, h0])
    go_enter Try.func20, Try.ntmps20
    go_wp2
    go_ret
    exact ⟨ret_int HV.out.symm, rfl⟩
  · have ht : ((n : Int) == 0) = false := by simp; omega
    have hn0 : ¬ (n : Int) = 0 := by omega
    have HV := Lib.hid (show atV zs n i = nth zs ((i * 5 + 1) % (n : Int)).toNat by simp [atV, h0])
    obtain ⟨b, off, rfl, hb, hc⟩ := h.2 (by omega)
    have q0 : 0 ≤ (i * 5 + 1) % (n : Int) := Int.emod_nonneg _ hn0
    have q1 : (i * 5 + 1) % (n : Int) < (n : Int) := Int.emod_lt_of_pos _ (by omega)
    obtain ⟨j, hj⟩ := Int.eq_ofNat_of_zero_le q0
    have hx := hc j (by omega)
    rw [hj, Int.toNat_natCast] at HV
    have e5 : IntKind.i64.wrap (i * 5 + 1) = i * 5 + 1 := IntWalk.i64_in _ (by omega)
    have hq : Int.tmod (i * 5 + 1) (n : Int) = (i * 5 + 1) % (n : Int) := Int.tmod_eq_emod_of_nonneg (by omega)
    have HZ := Lib.hid (show wrap64 (nth zs j) = atV zs n i by rw [HV.out]; have := h.1.2 j; exact IntWalk.wrap64_in _ (by omega))
    clear hc h h0
    go_enter Try.func20, Try.ntmps20
    go_wp2
    go_ret
    exact ⟨ret_int HZ.out, rfl⟩
end Go.Proofs.Ytdjhiegolojoaaa
end

section
/-
  The walk of the law FnLines.
-/
namespace Go.Proofs.Ytdjhiegolojoaaa
open Go.RowKit
set_option linter.unusedSimpArgs false
set_option linter.unusedVariables false

theorem hb_ex (L : List Int) : ∀ k, ∃ b, hbTo L (k + 1) = some b
  | 0 => ⟨0, hb_none rfl⟩
  | k + 1 => by
    obtain ⟨b, hb⟩ := hb_ex L k
    cases h : plLess (plU L b) (plV L b) (plU L (k + 1)) (plV L (k + 1))
    · exact ⟨b, hb_f hb h⟩
    · exact ⟨k + 1, hb_t hb h⟩
theorem hb_range (L : List Int) {m : Nat} (hm : 0 < m) : 0 ≤ hbI (hbTo L m) ∧ hbI (hbTo L m) < m := by
  obtain ⟨k, rfl⟩ : ∃ k, m = k + 1 := ⟨m - 1, by omega⟩
  obtain ⟨b, hb⟩ := hb_ex L k
  have := hb_lt hb
  rw [hb]
  simp only [hbI]
  omega
/-- What the law knows of its own boxes. -/
structure LnSt (w wr : World) (X3 X5 b m d : Nat) (Z : List Int) (A' : Option Addr) (q : Nat) (Ld : List Int) (H V M D : Int) (A : Option Addr) (n : Nat) (zs : List Int) : Prop where
  arch : RowF wr X3 41 1 (fun _ => .slice (some ⟨b, 0, none⟩) m d)
  thr : Box4 wr X5 H V M D
  zr : RecsAt wr wr.heap.size 4 (some ⟨b, 0, none⟩) m Z
  lr : RecsAt wr wr.heap.size 3 A' q Ld
  code : BytesAt wr wr.heap.size A n zs
  below : Below w.heap.size w wr
theorem LnSt.after {w wr w' : World} {X3 X5 b m d : Nat} {Z : List Int} {A' : Option Addr} {q : Nat} {Ld : List Int} {H V M D : Int} {A : Option Addr} {n : Nat} {zs : List Int} (h : LnSt w wr X3 X5 b m d Z A' q Ld H V M D A n zs) (hb : Below wr.heap.size wr w') : LnSt w w' X3 X5 b m d Z A' q Ld H V M D A n zs :=
  ⟨h.arch.after hb, h.thr.after hb, h.zr.after hb, h.lr.after hb, h.code.after hb, below_then h.below hb⟩

set_option maxRecDepth 100000 in
set_option maxHeartbeats 12800000 in
theorem lines_walk (A : Option Addr) (n c : Nat) (zs : List Int) (w : World) (h : BytesAt w w.heap.size A n zs) :
    Calls Try.prog 4 #[.slice A n c] w fun e w' => e = .returned (.bool true) ∧ Below w.heap.size w w' := by
  by_cases hbig : (1048576 : Int) < (n : Int)
  · have HB := Lib.hid (show decide ((1048576 : Int) < (n : Int)) = true by simp [hbig])
    clear h
    go_enter Try.func4, Try.ntmps4
    go_wp2_with fail
    refine (big_any _ _ _ _).mono ?_
    rw [HB.out]
    rintro e w1 ⟨rfl, rfl⟩
    go_wp2
    go_ret
    exact ⟨rfl, Below.refl _ _⟩
  · have hn : n ≤ 1048576 := by omega
    have HB := Lib.hid (show decide ((1048576 : Int) < (n : Int)) = false by simp [hbig])
    have HBY := Lib.hid h
    obtain ⟨av, ea⟩ : ∃ r, atV zs n 0 = r := ⟨_, rfl⟩
    have hav : 0 ≤ av ∧ av ≤ 255 := by rw [← ea]; exact atV_bd h.1.2 n 0
    have HAT := Lib.hid ea
    clear hbig h ea
    go_enter Try.func4, Try.ntmps4
    go_wp2_with fail
    refine (big_any _ _ _ _).mono ?_
    rw [HB.out]
    rintro e w1 ⟨rfl, rfl⟩
    go_wp2_with fail
    refine (drawStanding_any A n c zs _ HBY.out hn).mono ?_
    rintro e w2 ⟨b, m, d, Z, A', q, cp, Ld, rfl, hm8, hq, hb, hl, ho, hr, hx, hb2⟩
    have hm3 := (archB_out ho).1.1
    have HR2 := Lib.hid (rowRecs hr hl)
    have HX2 := Lib.hid hx.recs
    have HBY2 := Lib.hid (HBY.out.after hb2)
    have HB2 := Lib.hid hb2
    have ba : Below w2.heap.size w2 (w2.alloc (.cells #[.slice (some ⟨b, 0, none⟩) m d] 41)) := (Below.refl _ _).alloc (Nat.le_refl _) _
    have HA3 := Lib.hid (rowF_new1S w2 (.slice (some ⟨b, 0, none⟩) m d) 41)
    have HR3 := Lib.hid (HR2.out.after ba)
    have HX3 := Lib.hid (HX2.out.after ba)
    have HBY3 := Lib.hid (HBY2.out.after ba)
    have HB3 := Lib.hid (below_then HB2.out ba)
    obtain ⟨X3, hX3⟩ : ∃ X, w2.heap.size = X := ⟨_, rfl⟩
    have HXE := Lib.hid hX3
    clear hr hx hb2 ba HBY HBY2 HB2 HR2 HX2 hX3 hl ho hb
    go_wp2_with fail
    refine (sCentral_any _ _ _ Z _ _ _ Ld _ HR3.out (by omega) HX3.out (by omega)).mono ?_
    rintro e w4 ⟨⟨H, V, M, D, ok, rfl, hz⟩, hb4⟩
    simp only [thrV]
    have ba : Below w4.heap.size w4 (w4.alloc (.cells #[.int .i64 H, .int .i64 V, .int .i64 M, .int .i64 D] 46)) := (Below.refl _ _).alloc (Nat.le_refl _) _
    have HS : Hid (LnSt w (w4.alloc (.cells #[.int .i64 H, .int .i64 V, .int .i64 M, .int .i64 D] 46)) w2.heap.size w4.heap.size b m d Z A' q Ld H V M D A n zs) :=
      Lib.hid ⟨(HA3.out.after hb4).after ba, Box4.new _ _ _ _ _ _, (HR3.out.after hb4).after ba, (HX3.out.after hb4).after ba, (HBY3.out.after hb4).after ba, below_then (below_then HB3.out hb4) ba⟩
    have a0 := HS.out.arch.cell (i := 0) (by omega)
    obtain ⟨t0, t1, t2, t3⟩ := HS.out.thr.1
    clear hb4 ba HA3 HR3 HX3 HBY3 HB3
    cases ok
    · obtain ⟨rfl, rfl, rfl, rfl⟩ := hz rfl
      have HZ := Lib.hid (pkLen_zero Z m Ld q (by omega))
      go_wp2_with fail
      refine (iPlacesOf_any _ _ _ Z _ _ _ Ld _ _ _ _ _ HS.out.zr (by omega) HS.out.lr (by omega)).mono ?_
      rintro e w5 ⟨A5, c5, rfl, _, _, hb5⟩
      have HS5 := Lib.hid (HS.out.after hb5)
      rw [HZ.out]
      clear hb5
      go_wp2
      go_ret
      exact ⟨rfl, HS5.out.below⟩
    · clear hz
      obtain ⟨pl, epl⟩ : ∃ x, pkLs Z m Ld q H V M D = x := ⟨_, rfl⟩
      obtain ⟨pm, epm⟩ : ∃ x, pkLen Z m Ld q H V M D = x := ⟨_, rfl⟩
      have HPL := Lib.hid epl
      have HPM := Lib.hid epm
      have hpk := pk_all (zs := Z) (n := m) (ls := Ld) (q := q) (H := H) (V := V) (M := M) (D := D)
      have hp8 := pkLen_le8 Z m Ld q H V M D
      have hpm : 0 < pkLen Z m Ld q H V M D → pkLen Z m Ld q H V M D = m := fun hp => by
        cases e : allPk Z m Ld q H V M D
        · rw [(pkLen_f e).1] at hp; omega
        · exact (pkLen_t e).1
      rw [epl, epm] at hpk
      rw [epm] at hp8 hpm
      have HPK := Lib.hid hpk
      clear epl epm hpk
      go_wp2_with fail
      refine (iPlacesOf_any _ _ _ Z _ _ _ Ld _ _ _ _ _ HS.out.zr (by omega) HS.out.lr (by omega)).mono ?_
      rw [HPL.out, HPM.out]
      rintro e w5 ⟨A5, c5, rfl, hp5, _, hb5⟩
      have HS5 := Lib.hid (HS.out.after hb5)
      have HP5 := Lib.hid hp5
      clear hb5 hp5 a0 t0 t1 t2 t3 HS
      have a0 := HS5.out.arch.cell (i := 0) (by omega)
      obtain ⟨t0, t1, t2, t3⟩ := HS5.out.thr.1
      go_wp2_with fail
      refine (iMargin_any _ _ _ Z _ _ _ Ld _ _ _ _ _ HS5.out.zr (by omega) HS5.out.lr (by omega)).mono ?_
      rw [HPL.out, HPM.out]
      rintro e w6 ⟨rfl, hb6⟩
      have HS6 := Lib.hid (HS5.out.after hb6)
      have HP6 := Lib.hid (HP5.out.after hb6)
      clear hb6 a0 t0 t1 t2 t3 HS5 HP5
      have a0 := HS6.out.arch.cell (i := 0) (by omega)
      obtain ⟨t0, t1, t2, t3⟩ := HS6.out.thr.1
      go_wp2_with fail
      refine (iTouched_any _ _ _ Z _ _ _ Ld _ _ _ _ _ HS6.out.zr (by omega) HS6.out.lr (by omega)).mono ?_
      rw [HPL.out, HPM.out]
      rintro e w7 ⟨A7, k7, c7, rfl, ho7, hb7⟩
      have HT7 := Lib.hid ho7.intsAt
      have HL7 : Hid ((tchL pl pm).length = k7) := Lib.hid (by have := ho7.len; omega)
      have hk7 : k7 ≤ 8 := by have := HL7.out; have := tchL_len pl pm; omega
      have HS7 := Lib.hid (HS6.out.after hb7)
      have HP7 := Lib.hid (HP6.out.after hb7)
      clear hb7 ho7 a0 t0 t1 t2 t3 HS6 HP6
      have a0 := HS7.out.arch.cell (i := 0) (by omega)
      obtain ⟨t0, t1, t2, t3⟩ := HS7.out.thr.1
      go_wp2_with fail
      refine (iHighest_any _ _ _ Z _ _ _ Ld _ _ _ _ _ HS7.out.zr (by omega) HS7.out.lr (by omega)).mono ?_
      rw [HPL.out, HPM.out]
      rintro e w8 ⟨rfl, hb8⟩
      have HS8 := Lib.hid (HS7.out.after hb8)
      have HP8 := Lib.hid (HP7.out.after hb8)
      have HT8 := Lib.hid (HT7.out.after hb8)
      clear hb8 a0 t0 t1 t2 t3 HS7 HP7 HT7
      by_cases hp0 : pm = 0
      · subst hp0
        have e0 : (decide (0 < 0)) = false := rfl
        have e1 : hbI (hbTo pl 0) = -1 := rfl
        obtain rfl : k7 = 0 := by have := HL7.out; rw [← this]; rfl
        rw [e1]
        go_wp2
        go_ret
        exact ⟨rfl, HS8.out.below⟩
      · have hpp : 0 < pm := by omega
        obtain rfl : pm = m := hpm hpp
        have hbr := hb_range pl hpp
        have hlw := mg_law HPK.out hpp
        have hmb := mg_bd HPK.out hpp
        have HM1 := Lib.hid (fun (k : Int) h2 h9 => mid_mono (k := k) HPK.out hpp h2 h9)
        have HM2 := Lib.hid (mid_100 (L := pl) hpp)
        have HTC := Lib.hid (fun (k : Nat) (hk : k < pm) => has_tch pl hk)
        have hd : decide (0 < pm) = true := decide_eq_true hpp
        rw [hd]
        rw [HL7.out] at HTC
        rw [HL7.out] at hlw
        obtain ⟨hv, ehv⟩ : ∃ x, hbI (hbTo pl pm) = x := ⟨_, rfl⟩
        obtain ⟨mn, emn⟩ : ∃ x, mgN pl pm = x := ⟨_, rfl⟩
        obtain ⟨me, eme⟩ : ∃ x, mgD pl pm = x := ⟨_, rfl⟩
        rw [ehv] at hbr ⊢
        rw [emn, eme] at hlw hmb HM2 ⊢
        clear ehv emn eme hd
        obtain ⟨mh, mz⟩ := hlw
        obtain ⟨⟨mb1, mb2⟩, mb3, mb4⟩ := hmb
        have a0 := HS8.out.arch.cell (i := 0) (by omega)
        have q0 : (0 : Int) < (pm : Int) := by omega
        have q1 : ((pm : Int) != (pm : Int)) = false := by simp
        have q2 : ¬ hv < 0 := by omega
        have q3 : ¬ (pm : Int) ≤ hv := by omega
        have q4 : ¬ me < 1 := by omega
        have q5 : ¬ mn < 0 := by omega
        have q6 : IntKind.i64.wrap (2 * mn) = 2 * mn := IntWalk.i64_in _ (by omega)
        have q7 : ¬ me < 2 * mn := by omega
        have MZ := Lib.hid mz
        clear mz
        go_wp2
        clear q0 q1 q2 q3 q4 q5 q6 q7 a0
        go_loopw [13] (fun v13 wr => ∃ k : Nat, v13 = .int .i64 k ∧ k ≤ pm ∧ Hid (Below w8.heap.size w8 wr)) (fun v13 _ => pm - (intOf v13).toNat)
        case atStart => exact ⟨0, rfl, Nat.zero_le _, Lib.hid (Below.refl _ _)⟩
        case round =>
          obtain ⟨k, rfl, hk, HBW⟩ := hrel
          by_cases hlt : k < pm
          · obtain ⟨b7, off7, rfl, hbl7, hc7⟩ := HP8.out hpp
            obtain ⟨gk, h1, h2, h3, h4⟩ := hc7 k hlt
            have y0 := (HBW.out.cell (p := ⟨b7, off7 + k, none⟩) hbl7).trans h1
            have y1 := (HBW.out.cell (p := ⟨gk, 0, none⟩) h2).trans h3
            have y2 := (HBW.out.cell (p := ⟨gk, 1, none⟩) h2).trans h4
            have hs0 := HTC.out k hlt
            have hdf : tchB pl k = (decide (nth pl (k * 2) = 0) || decide (nth pl (k * 2) = nth pl (k * 2 + 1))) := rfl
            obtain ⟨p1, p2, p3, p4, _⟩ := HPK.out k hlt
            rw [hdf] at hs0
            have HTD : Hid (IntsAt wr.drew wr.drew.heap.size A7 k7 (tchL pl pm)) := Lib.hid (show IntsAt wr wr.heap.size A7 k7 (tchL pl pm) from HT8.out.after HBW.out)
            have HBD := Lib.hid (below_drewN HBW.out 1)
            clear hc7 h1 h2 h3 h4 hdf
            generalize nth pl (k * 2) = N at *
            generalize nth pl (k * 2 + 1) = E at *
            have kk : (k : Int) < (pm : Int) := by omega
            have k0 : (0 : Int) ≤ (k : Int) := by omega
            have ek : IntKind.i64.wrap ((k : Int) + 1) = (k : Int) + 1 := IntWalk.i64_in _ (by omega)
            have p5 : ¬ N < 0 := by omega
            have p6 : ¬ E < N := by omega
            have s2 : ((2 : Int) != 2) = false := by simp
            by_cases hN : N = 0
            · have b1 : (N == 0) = true := by simpa using hN
              have HHS : Hid (hasI (tchL pl pm) (k : Int) k7 = true) := Lib.hid (by rw [hs0, decide_eq_true hN, Bool.true_or])
              clear hN hs0 p1 p2 p3 p4
              go_wp2
              refine wp_region_held_drew (S := fun w' => w'.cell? ⟨b7, off7 + k, none⟩ = some (.slice (some ⟨gk, 0, none⟩) 2 2) ∧ w'.cell? ⟨gk, 0, none⟩ = some (.int .i64 N) ∧ w'.cell? ⟨gk, 1, none⟩ = some (.int .i64 E)) (by kernel_rfl) (by exact ⟨y0, y1, y2⟩) (fun hHeld => ?_)
              refine take_heldS (i := 0) (d := 112) rfl rfl (by kernel_rfl) (by kernel_rfl) (by kernel_rfl) (fun _ _ _ h => h) (by kernel_rfl) (fun w hSw => by (try dsimp only at hSw); go_simp; try rfl) (by assumption) ?_
              try simp only [Act.put, List.setIfInBounds_toArray, List.set_cons_zero, List.set_cons_succ]
              refine take_heldS (i := 1) (d := 113) rfl rfl (by kernel_rfl) (by kernel_rfl) (by kernel_rfl) (fun _ _ _ h => h) (by kernel_rfl) (fun w hSw => by (try dsimp only at hSw); go_simp; try rfl) (by assumption) ?_
              try simp only [Act.put, List.setIfInBounds_toArray, List.set_cons_zero, List.set_cons_succ]
              refine take_heldS (i := 2) (d := 114) rfl rfl (by kernel_rfl) (by kernel_rfl) (by kernel_rfl) (fun _ _ _ h => h) (by kernel_rfl) (fun w hSw => by (try dsimp only at hSw); go_simp; try rfl) (by assumption) ?_
              try simp only [Act.put, List.setIfInBounds_toArray, List.set_cons_zero, List.set_cons_succ]
              refine take_heldS (i := 3) (d := 115) rfl rfl (by kernel_rfl) (by kernel_rfl) (by kernel_rfl) (fun _ _ _ h => h) (by kernel_rfl) (fun w hSw => by (try dsimp only at hSw); go_simp; try rfl) (by assumption) ?_
              try simp only [Act.put, List.setIfInBounds_toArray, List.set_cons_zero, List.set_cons_succ]
              refine take_heldS (i := 4) (d := 116) rfl rfl (by kernel_rfl) (by kernel_rfl) (by kernel_rfl) (fun _ _ _ h => h) (by kernel_rfl) (fun w hSw => by (try dsimp only at hSw); go_simp; try rfl) (by assumption) ?_
              try simp only [Act.put, List.setIfInBounds_toArray, List.set_cons_zero, List.set_cons_succ]
              refine take_heldS (i := 5) (d := 117) (v := (.bool false)) rfl rfl (by kernel_rfl) (by kernel_rfl) (by kernel_rfl) (fun _ _ _ h => h) (by kernel_rfl) (fun w hSw => by (try dsimp only at hSw); go_simp; try rfl) (by assumption) ?_
              try simp only [Act.put, List.setIfInBounds_toArray, List.set_cons_zero, List.set_cons_succ]
              refine take_heldS (i := 6) (d := 118) rfl rfl (by kernel_rfl) (by kernel_rfl) (by kernel_rfl) (fun _ _ _ h => h) (by kernel_rfl) (fun w hSw => by (try dsimp only at hSw); go_simp; try rfl) (by assumption) ?_
              try simp only [Act.put, List.setIfInBounds_toArray, List.set_cons_zero, List.set_cons_succ]
              refine take_heldS (i := 7) (d := 119) rfl rfl (by kernel_rfl) (by kernel_rfl) (by kernel_rfl) (fun _ _ _ h => h) (by kernel_rfl) (fun w hSw => by (try dsimp only at hSw); go_simp; try rfl) (by assumption) ?_
              try simp only [Act.put, List.setIfInBounds_toArray, List.set_cons_zero, List.set_cons_succ]
              refine take_heldS (i := 8) (d := 120) rfl rfl (by kernel_rfl) (by kernel_rfl) (by kernel_rfl) (fun _ _ _ h => h) (by kernel_rfl) (fun w hSw => by (try dsimp only at hSw); go_simp; try rfl) (by assumption) ?_
              try simp only [Act.put, List.setIfInBounds_toArray, List.set_cons_zero, List.set_cons_succ]
              refine take_heldS (i := 9) (d := 121) rfl rfl (by kernel_rfl) (by kernel_rfl) (by kernel_rfl) (fun _ _ _ h => h) (by kernel_rfl) (fun w hSw => by (try dsimp only at hSw); go_simp; try rfl) (by assumption) ?_
              try simp only [Act.put, List.setIfInBounds_toArray, List.set_cons_zero, List.set_cons_succ]
              refine take_heldS (i := 10) (d := 122) rfl rfl (by kernel_rfl) (by kernel_rfl) (by kernel_rfl) (fun _ _ _ h => h) (by kernel_rfl) (fun w hSw => by (try dsimp only at hSw); go_simp; try rfl) (by assumption) ?_
              try simp only [Act.put, List.setIfInBounds_toArray, List.set_cons_zero, List.set_cons_succ]
              refine take_heldS (i := 11) (d := 123) rfl rfl (by kernel_rfl) (by kernel_rfl) (by kernel_rfl) (fun _ _ _ h => h) (by kernel_rfl) (fun w hSw => by (try dsimp only at hSw); go_simp; try rfl) (by assumption) ?_
              try simp only [Act.put, List.setIfInBounds_toArray, List.set_cons_zero, List.set_cons_succ]
              refine take_heldS (i := 12) (d := 124) rfl rfl (by kernel_rfl) (by kernel_rfl) (by kernel_rfl) (fun _ _ _ h => h) (by kernel_rfl) (fun w hSw => by (try dsimp only at hSw); go_simp; try rfl) (by assumption) ?_
              try simp only [Act.put, List.setIfInBounds_toArray, List.set_cons_zero, List.set_cons_succ]
              refine take_heldS (i := 13) (d := 125) (v := (.bool false)) rfl rfl (by kernel_rfl) (by kernel_rfl) (by kernel_rfl) (fun _ _ _ h => h) (by kernel_rfl) (fun w hSw => by (try dsimp only at hSw); go_simp; try rfl) (by assumption) ?_
              try simp only [Act.put, List.setIfInBounds_toArray, List.set_cons_zero, List.set_cons_succ]
              refine take_heldS (i := 14) (d := 126) (v := (.bool false)) rfl rfl (by kernel_rfl) (by kernel_rfl) (by kernel_rfl) (fun _ _ _ h => h) (by kernel_rfl) (fun w hSw => by (try dsimp only at hSw); go_simp; try rfl) (by assumption) ?_
              try simp only [Act.put, List.setIfInBounds_toArray, List.set_cons_zero, List.set_cons_succ]
              refine take_heldS (i := 15) (d := 127) rfl rfl (by kernel_rfl) (by kernel_rfl) (by kernel_rfl) (fun _ _ _ h => h) (by kernel_rfl) (fun w hSw => by (try dsimp only at hSw); go_simp; try rfl) (by assumption) ?_
              try simp only [Act.put, List.setIfInBounds_toArray, List.set_cons_zero, List.set_cons_succ]
              refine take_heldS (i := 16) (d := 128) rfl rfl (by kernel_rfl) (by kernel_rfl) (by kernel_rfl) (fun _ _ _ h => h) (by kernel_rfl) (fun w hSw => by (try dsimp only at hSw); go_simp; try rfl) (by assumption) ?_
              try simp only [Act.put, List.setIfInBounds_toArray, List.set_cons_zero, List.set_cons_succ]
              refine take_heldS (i := 17) (d := 129) rfl rfl (by kernel_rfl) (by kernel_rfl) (by kernel_rfl) (fun _ _ _ h => h) (by kernel_rfl) (fun w hSw => by (try dsimp only at hSw); go_simp; try rfl) (by assumption) ?_
              try simp only [Act.put, List.setIfInBounds_toArray, List.set_cons_zero, List.set_cons_succ]
              refine take_heldS (i := 18) (d := 130) rfl rfl (by kernel_rfl) (by kernel_rfl) (by kernel_rfl) (fun _ _ _ h => h) (by kernel_rfl) (fun w hSw => by (try dsimp only at hSw); go_simp; try rfl) (by assumption) ?_
              try simp only [Act.put, List.setIfInBounds_toArray, List.set_cons_zero, List.set_cons_succ]
              refine take_heldS (i := 19) (d := 131) rfl rfl (by kernel_rfl) (by kernel_rfl) (by kernel_rfl) (fun _ _ _ h => h) (by kernel_rfl) (fun w hSw => by (try dsimp only at hSw); go_simp; try rfl) (by assumption) ?_
              try simp only [Act.put, List.setIfInBounds_toArray, List.set_cons_zero, List.set_cons_succ]
              refine take_heldS (i := 20) (d := 132) rfl rfl (by kernel_rfl) (by kernel_rfl) (by kernel_rfl) (fun _ _ _ h => h) (by kernel_rfl) (fun w hSw => by (try dsimp only at hSw); go_simp; try rfl) (by assumption) ?_
              try simp only [Act.put, List.setIfInBounds_toArray, List.set_cons_zero, List.set_cons_succ]
              refine take_heldS (i := 21) (d := 133) rfl rfl (by kernel_rfl) (by kernel_rfl) (by kernel_rfl) (fun _ _ _ h => h) (by kernel_rfl) (fun w hSw => by (try dsimp only at hSw); go_simp; try rfl) (by assumption) ?_
              try simp only [Act.put, List.setIfInBounds_toArray, List.set_cons_zero, List.set_cons_succ]
              refine take_heldS (i := 22) (d := 134) rfl rfl (by kernel_rfl) (by kernel_rfl) (by kernel_rfl) (fun _ _ _ h => h) (by kernel_rfl) (fun w hSw => by (try dsimp only at hSw); go_simp; try rfl) (by assumption) ?_
              try simp only [Act.put, List.setIfInBounds_toArray, List.set_cons_zero, List.set_cons_succ]
              refine take_heldS (i := 23) (d := 135) rfl rfl (by kernel_rfl) (by kernel_rfl) (by kernel_rfl) (fun _ _ _ h => h) (by kernel_rfl) (fun w hSw => by (try dsimp only at hSw); go_simp; try rfl) (by assumption) ?_
              try simp only [Act.put, List.setIfInBounds_toArray, List.set_cons_zero, List.set_cons_succ]
              refine take_heldS (i := 24) (d := 136) rfl rfl (by kernel_rfl) (by kernel_rfl) (by kernel_rfl) (fun _ _ _ h => h) (by kernel_rfl) (fun w hSw => by (try dsimp only at hSw); go_simp; try rfl) (by assumption) ?_
              try simp only [Act.put, List.setIfInBounds_toArray, List.set_cons_zero, List.set_cons_succ]
              refine take_heldS (i := 25) (d := 137) rfl rfl (by kernel_rfl) (by kernel_rfl) (by kernel_rfl) (fun _ _ _ h => h) (by kernel_rfl) (fun w hSw => by (try dsimp only at hSw); go_simp; try rfl) (by assumption) ?_
              try simp only [Act.put, List.setIfInBounds_toArray, List.set_cons_zero, List.set_cons_succ]
              refine take_heldS (i := 26) (d := 138) rfl rfl (by kernel_rfl) (by kernel_rfl) (by kernel_rfl) (fun _ _ _ h => h) (by kernel_rfl) (fun w hSw => by (try dsimp only at hSw); go_simp; try rfl) (by assumption) ?_
              try simp only [Act.put, List.setIfInBounds_toArray, List.set_cons_zero, List.set_cons_succ]
              refine take_heldS (i := 27) (d := 139) rfl rfl (by kernel_rfl) (by kernel_rfl) (by kernel_rfl) (fun _ _ _ h => h) (by kernel_rfl) (fun w hSw => by (try dsimp only at hSw); go_simp; try rfl) (by assumption) ?_
              try simp only [Act.put, List.setIfInBounds_toArray, List.set_cons_zero, List.set_cons_succ]
              refine take_heldS (i := 28) (d := 140) (v := (.bool false)) rfl rfl (by kernel_rfl) (by kernel_rfl) (by kernel_rfl) (fun _ _ _ h => h) (by kernel_rfl) (fun w hSw => by (try dsimp only at hSw); go_simp; try rfl) (by assumption) ?_
              try simp only [Act.put, List.setIfInBounds_toArray, List.set_cons_zero, List.set_cons_succ]
              refine take_heldS (i := 29) (d := 141) (v := (.bool false)) rfl rfl (by kernel_rfl) (by kernel_rfl) (by kernel_rfl) (fun _ _ _ h => h) (by kernel_rfl) (fun w hSw => by (try dsimp only at hSw); go_simp; try rfl) (by assumption) ?_
              try simp only [Act.put, List.setIfInBounds_toArray, List.set_cons_zero, List.set_cons_succ]
              refine take_heldS (i := 30) (d := 142) rfl rfl (by kernel_rfl) (by kernel_rfl) (by kernel_rfl) (fun _ _ _ h => h) (by kernel_rfl) (fun w hSw => by (try dsimp only at hSw); go_simp; try rfl) (by assumption) ?_
              try simp only [Act.put, List.setIfInBounds_toArray, List.set_cons_zero, List.set_cons_succ]
              refine take_heldS (i := 31) (d := 143) rfl rfl (by kernel_rfl) (by kernel_rfl) (by kernel_rfl) (fun _ _ _ h => h) (by kernel_rfl) (fun w hSw => by (try dsimp only at hSw); go_simp; try rfl) (by assumption) ?_
              try simp only [Act.put, List.setIfInBounds_toArray, List.set_cons_zero, List.set_cons_succ]
              refine take_heldS (i := 32) (d := 144) rfl rfl (by kernel_rfl) (by kernel_rfl) (by kernel_rfl) (fun _ _ _ h => h) (by kernel_rfl) (fun w hSw => by (try dsimp only at hSw); go_simp; try rfl) (by assumption) ?_
              try simp only [Act.put, List.setIfInBounds_toArray, List.set_cons_zero, List.set_cons_succ]
              refine take_heldS (i := 34) (d := 146) rfl rfl (by kernel_rfl) (by kernel_rfl) (by kernel_rfl) (fun _ _ _ h => h) (by kernel_rfl) (fun w hSw => by (try dsimp only at hSw); go_simp; try rfl) (by assumption) ?_
              try simp only [Act.put, List.setIfInBounds_toArray, List.set_cons_zero, List.set_cons_succ]
              refine take_heldS (i := 35) (d := 147) rfl rfl (by kernel_rfl) (by kernel_rfl) (by kernel_rfl) (fun _ _ _ h => h) (by kernel_rfl) (fun w hSw => by (try dsimp only at hSw); go_simp; try rfl) (by assumption) ?_
              try simp only [Act.put, List.setIfInBounds_toArray, List.set_cons_zero, List.set_cons_succ]
              refine take_heldS (i := 36) (d := 148) rfl rfl (by kernel_rfl) (by kernel_rfl) (by kernel_rfl) (fun _ _ _ h => h) (by kernel_rfl) (fun w hSw => by (try dsimp only at hSw); go_simp; try rfl) (by assumption) ?_
              try simp only [Act.put, List.setIfInBounds_toArray, List.set_cons_zero, List.set_cons_succ]
              refine take_heldS (i := 37) (d := 149) rfl rfl (by kernel_rfl) (by kernel_rfl) (by kernel_rfl) (fun _ _ _ h => h) (by kernel_rfl) (fun w hSw => by (try dsimp only at hSw); go_simp; try rfl) (by assumption) ?_
              try simp only [Act.put, List.setIfInBounds_toArray, List.set_cons_zero, List.set_cons_succ]
              refine take_heldS (i := 38) (d := 150) rfl rfl (by kernel_rfl) (by kernel_rfl) (by kernel_rfl) (fun _ _ _ h => h) (by kernel_rfl) (fun w hSw => by (try dsimp only at hSw); go_simp; try rfl) (by assumption) ?_
              try simp only [Act.put, List.setIfInBounds_toArray, List.set_cons_zero, List.set_cons_succ]
              refine take_heldS (i := 39) (d := 151) rfl rfl (by kernel_rfl) (by kernel_rfl) (by kernel_rfl) (fun _ _ _ h => h) (by kernel_rfl) (fun w hSw => by (try dsimp only at hSw); go_simp; try rfl) (by assumption) ?_
              try simp only [Act.put, List.setIfInBounds_toArray, List.set_cons_zero, List.set_cons_succ]
              refine take_heldS (i := 40) (d := 152) (v := (.bool true)) rfl rfl (by kernel_rfl) (by kernel_rfl) (by kernel_rfl) (fun _ _ _ h => h) (by kernel_rfl) (fun w hSw => by (try dsimp only at hSw); go_simp; try rfl) (by assumption) ?_
              try simp only [Act.put, List.setIfInBounds_toArray, List.set_cons_zero, List.set_cons_succ]
              refine wpAnyH_ready (rs := [33]) (by kernel_rfl) (by simp) ?_
              refine AllReadyH.cons rfl (fun K hK => ?_) AllReadyH.nil
              go_simp
              refine (has_any _ _ _ _ _ _ (by exact HTD.out) (by omega)).mono ?_; rintro e w8 ⟨rfl, rfl⟩; rw [HHS.out]
              refine hK.out _ _ (by exact ⟨y0, y1, y2⟩) (fun hHeld => ?_)
              clear hK K
              try simp only [Act.put, List.setIfInBounds_toArray, List.set_cons_zero, List.set_cons_succ]
              refine take_heldS (i := 41) (d := 153) (v := (.bool true)) rfl rfl (by kernel_rfl) (by kernel_rfl) (by kernel_rfl) (fun _ _ _ h => h) (by kernel_rfl) (fun w hSw => by (try dsimp only at hSw); go_simp; try rfl) (by assumption) ?_
              try simp only [Act.put, List.setIfInBounds_toArray, List.set_cons_zero, List.set_cons_succ]
              refine skip_heldS (i := 42) (d := 154) rfl rfl (by kernel_rfl) (by kernel_rfl) (by kernel_rfl) (fun _ _ _ h => h) (by kernel_rfl) (by assumption) ?_
              try simp only [Act.put, List.setIfInBounds_toArray, List.set_cons_zero, List.set_cons_succ]
              refine skip_heldS (i := 43) (d := 155) rfl rfl (by kernel_rfl) (by kernel_rfl) (by kernel_rfl) (fun _ _ _ h => h) (by kernel_rfl) (by assumption) ?_
              try simp only [Act.put, List.setIfInBounds_toArray, List.set_cons_zero, List.set_cons_succ]
              refine skip_heldS (i := 44) (d := 156) rfl rfl (by kernel_rfl) (by kernel_rfl) (by kernel_rfl) (fun _ _ _ h => h) (by kernel_rfl) (by assumption) ?_
              try simp only [Act.put, List.setIfInBounds_toArray, List.set_cons_zero, List.set_cons_succ]
              refine skip_heldS (i := 45) (d := 157) rfl rfl (by kernel_rfl) (by kernel_rfl) (by kernel_rfl) (fun _ _ _ h => h) (by kernel_rfl) (by assumption) ?_
              try simp only [Act.put, List.setIfInBounds_toArray, List.set_cons_zero, List.set_cons_succ]
              refine skip_heldS (i := 46) (d := 158) rfl rfl (by kernel_rfl) (by kernel_rfl) (by kernel_rfl) (fun _ _ _ h => h) (by kernel_rfl) (by assumption) ?_
              try simp only [Act.put, List.setIfInBounds_toArray, List.set_cons_zero, List.set_cons_succ]
              refine skip_heldS (i := 47) (d := 159) rfl rfl (by kernel_rfl) (by kernel_rfl) (by kernel_rfl) (fun _ _ _ h => h) (by kernel_rfl) (by assumption) ?_
              try simp only [Act.put, List.setIfInBounds_toArray, List.set_cons_zero, List.set_cons_succ]
              refine skip_heldS (i := 48) (d := 160) rfl rfl (by kernel_rfl) (by kernel_rfl) (by kernel_rfl) (fun _ _ _ h => h) (by kernel_rfl) (by assumption) ?_
              try simp only [Act.put, List.setIfInBounds_toArray, List.set_cons_zero, List.set_cons_succ]
              refine skip_heldS (i := 49) (d := 161) rfl rfl (by kernel_rfl) (by kernel_rfl) (by kernel_rfl) (fun _ _ _ h => h) (by kernel_rfl) (by assumption) ?_
              try simp only [Act.put, List.setIfInBounds_toArray, List.set_cons_zero, List.set_cons_succ]
              refine skip_heldS (i := 50) (d := 162) rfl rfl (by kernel_rfl) (by kernel_rfl) (by kernel_rfl) (fun _ _ _ h => h) (by kernel_rfl) (by assumption) ?_
              try simp only [Act.put, List.setIfInBounds_toArray, List.set_cons_zero, List.set_cons_succ]
              refine skip_heldS (i := 51) (d := 163) rfl rfl (by kernel_rfl) (by kernel_rfl) (by kernel_rfl) (fun _ _ _ h => h) (by kernel_rfl) (by assumption) ?_
              try simp only [Act.put, List.setIfInBounds_toArray, List.set_cons_zero, List.set_cons_succ]
              refine skip_heldS (i := 52) (d := 164) rfl rfl (by kernel_rfl) (by kernel_rfl) (by kernel_rfl) (fun _ _ _ h => h) (by kernel_rfl) (by assumption) ?_
              try simp only [Act.put, List.setIfInBounds_toArray, List.set_cons_zero, List.set_cons_succ]
              refine skip_heldS (i := 53) (d := 165) rfl rfl (by kernel_rfl) (by kernel_rfl) (by kernel_rfl) (fun _ _ _ h => h) (by kernel_rfl) (by assumption) ?_
              try simp only [Act.put, List.setIfInBounds_toArray, List.set_cons_zero, List.set_cons_succ]
              refine skip_heldS (i := 54) (d := 166) rfl rfl (by kernel_rfl) (by kernel_rfl) (by kernel_rfl) (fun _ _ _ h => h) (by kernel_rfl) (by assumption) ?_
              try simp only [Act.put, List.setIfInBounds_toArray, List.set_cons_zero, List.set_cons_succ]
              refine take_heldS (i := 55) (d := 167) (v := (.bool true)) rfl rfl (by kernel_rfl) (by kernel_rfl) (by kernel_rfl) (fun _ _ _ h => h) (by kernel_rfl) (fun w hSw => by (try dsimp only at hSw); go_simp; try rfl) (by assumption) ?_
              try simp only [Act.put, List.setIfInBounds_toArray, List.set_cons_zero, List.set_cons_succ]
              refine take_heldS (i := 56) (d := 168) (v := (.bool false)) rfl rfl (by kernel_rfl) (by kernel_rfl) (by kernel_rfl) (fun _ _ _ h => h) (by kernel_rfl) (fun w hSw => by (try dsimp only at hSw); go_simp; try rfl) (by assumption) ?_
              try simp only [Act.put, List.setIfInBounds_toArray, List.set_cons_zero, List.set_cons_succ]
              refine take_heldS (i := 57) (d := 169) (v := (.bool false)) rfl rfl (by kernel_rfl) (by kernel_rfl) (by kernel_rfl) (fun _ _ _ h => h) (by kernel_rfl) (fun w hSw => by (try dsimp only at hSw); go_simp; try rfl) (by assumption) ?_
              try simp only [Act.put, List.setIfInBounds_toArray, List.set_cons_zero, List.set_cons_succ]
              refine wpAnyH_done (by kernel_rfl) ?_ _
              clear y0 y1 y2
              go_wp2
              go_roundw
              case rel => exact ⟨k + 1, by go_num, by omega, HBD⟩
              case measure => simp [intOf]; omega
            · have b1 : (N == 0) = false := by simpa using hN
              by_cases hE : N = E
              · have b2 : (N == E) = true := by simpa using hE
                have HHS : Hid (hasI (tchL pl pm) (k : Int) k7 = true) := Lib.hid (by rw [hs0, decide_eq_true hE, Bool.or_true])
                clear hN hE hs0 p1 p2 p3 p4
                go_wp2
                refine wp_region_held_drew (S := fun w' => w'.cell? ⟨b7, off7 + k, none⟩ = some (.slice (some ⟨gk, 0, none⟩) 2 2) ∧ w'.cell? ⟨gk, 0, none⟩ = some (.int .i64 N) ∧ w'.cell? ⟨gk, 1, none⟩ = some (.int .i64 E)) (by kernel_rfl) (by exact ⟨y0, y1, y2⟩) (fun hHeld => ?_)
                refine take_heldS (i := 0) (d := 112) rfl rfl (by kernel_rfl) (by kernel_rfl) (by kernel_rfl) (fun _ _ _ h => h) (by kernel_rfl) (fun w hSw => by (try dsimp only at hSw); go_simp; try rfl) (by assumption) ?_
                try simp only [Act.put, List.setIfInBounds_toArray, List.set_cons_zero, List.set_cons_succ]
                refine take_heldS (i := 1) (d := 113) rfl rfl (by kernel_rfl) (by kernel_rfl) (by kernel_rfl) (fun _ _ _ h => h) (by kernel_rfl) (fun w hSw => by (try dsimp only at hSw); go_simp; try rfl) (by assumption) ?_
                try simp only [Act.put, List.setIfInBounds_toArray, List.set_cons_zero, List.set_cons_succ]
                refine take_heldS (i := 2) (d := 114) rfl rfl (by kernel_rfl) (by kernel_rfl) (by kernel_rfl) (fun _ _ _ h => h) (by kernel_rfl) (fun w hSw => by (try dsimp only at hSw); go_simp; try rfl) (by assumption) ?_
                try simp only [Act.put, List.setIfInBounds_toArray, List.set_cons_zero, List.set_cons_succ]
                refine take_heldS (i := 3) (d := 115) rfl rfl (by kernel_rfl) (by kernel_rfl) (by kernel_rfl) (fun _ _ _ h => h) (by kernel_rfl) (fun w hSw => by (try dsimp only at hSw); go_simp; try rfl) (by assumption) ?_
                try simp only [Act.put, List.setIfInBounds_toArray, List.set_cons_zero, List.set_cons_succ]
                refine take_heldS (i := 4) (d := 116) rfl rfl (by kernel_rfl) (by kernel_rfl) (by kernel_rfl) (fun _ _ _ h => h) (by kernel_rfl) (fun w hSw => by (try dsimp only at hSw); go_simp; try rfl) (by assumption) ?_
                try simp only [Act.put, List.setIfInBounds_toArray, List.set_cons_zero, List.set_cons_succ]
                refine take_heldS (i := 5) (d := 117) (v := (.bool false)) rfl rfl (by kernel_rfl) (by kernel_rfl) (by kernel_rfl) (fun _ _ _ h => h) (by kernel_rfl) (fun w hSw => by (try dsimp only at hSw); go_simp; try rfl) (by assumption) ?_
                try simp only [Act.put, List.setIfInBounds_toArray, List.set_cons_zero, List.set_cons_succ]
                refine take_heldS (i := 6) (d := 118) rfl rfl (by kernel_rfl) (by kernel_rfl) (by kernel_rfl) (fun _ _ _ h => h) (by kernel_rfl) (fun w hSw => by (try dsimp only at hSw); go_simp; try rfl) (by assumption) ?_
                try simp only [Act.put, List.setIfInBounds_toArray, List.set_cons_zero, List.set_cons_succ]
                refine take_heldS (i := 7) (d := 119) rfl rfl (by kernel_rfl) (by kernel_rfl) (by kernel_rfl) (fun _ _ _ h => h) (by kernel_rfl) (fun w hSw => by (try dsimp only at hSw); go_simp; try rfl) (by assumption) ?_
                try simp only [Act.put, List.setIfInBounds_toArray, List.set_cons_zero, List.set_cons_succ]
                refine take_heldS (i := 8) (d := 120) rfl rfl (by kernel_rfl) (by kernel_rfl) (by kernel_rfl) (fun _ _ _ h => h) (by kernel_rfl) (fun w hSw => by (try dsimp only at hSw); go_simp; try rfl) (by assumption) ?_
                try simp only [Act.put, List.setIfInBounds_toArray, List.set_cons_zero, List.set_cons_succ]
                refine take_heldS (i := 9) (d := 121) rfl rfl (by kernel_rfl) (by kernel_rfl) (by kernel_rfl) (fun _ _ _ h => h) (by kernel_rfl) (fun w hSw => by (try dsimp only at hSw); go_simp; try rfl) (by assumption) ?_
                try simp only [Act.put, List.setIfInBounds_toArray, List.set_cons_zero, List.set_cons_succ]
                refine take_heldS (i := 10) (d := 122) rfl rfl (by kernel_rfl) (by kernel_rfl) (by kernel_rfl) (fun _ _ _ h => h) (by kernel_rfl) (fun w hSw => by (try dsimp only at hSw); go_simp; try rfl) (by assumption) ?_
                try simp only [Act.put, List.setIfInBounds_toArray, List.set_cons_zero, List.set_cons_succ]
                refine take_heldS (i := 11) (d := 123) rfl rfl (by kernel_rfl) (by kernel_rfl) (by kernel_rfl) (fun _ _ _ h => h) (by kernel_rfl) (fun w hSw => by (try dsimp only at hSw); go_simp; try rfl) (by assumption) ?_
                try simp only [Act.put, List.setIfInBounds_toArray, List.set_cons_zero, List.set_cons_succ]
                refine take_heldS (i := 12) (d := 124) rfl rfl (by kernel_rfl) (by kernel_rfl) (by kernel_rfl) (fun _ _ _ h => h) (by kernel_rfl) (fun w hSw => by (try dsimp only at hSw); go_simp; try rfl) (by assumption) ?_
                try simp only [Act.put, List.setIfInBounds_toArray, List.set_cons_zero, List.set_cons_succ]
                refine take_heldS (i := 13) (d := 125) (v := (.bool false)) rfl rfl (by kernel_rfl) (by kernel_rfl) (by kernel_rfl) (fun _ _ _ h => h) (by kernel_rfl) (fun w hSw => by (try dsimp only at hSw); go_simp; try rfl) (by assumption) ?_
                try simp only [Act.put, List.setIfInBounds_toArray, List.set_cons_zero, List.set_cons_succ]
                refine take_heldS (i := 14) (d := 126) (v := (.bool false)) rfl rfl (by kernel_rfl) (by kernel_rfl) (by kernel_rfl) (fun _ _ _ h => h) (by kernel_rfl) (fun w hSw => by (try dsimp only at hSw); go_simp; try rfl) (by assumption) ?_
                try simp only [Act.put, List.setIfInBounds_toArray, List.set_cons_zero, List.set_cons_succ]
                refine take_heldS (i := 15) (d := 127) rfl rfl (by kernel_rfl) (by kernel_rfl) (by kernel_rfl) (fun _ _ _ h => h) (by kernel_rfl) (fun w hSw => by (try dsimp only at hSw); go_simp; try rfl) (by assumption) ?_
                try simp only [Act.put, List.setIfInBounds_toArray, List.set_cons_zero, List.set_cons_succ]
                refine take_heldS (i := 16) (d := 128) rfl rfl (by kernel_rfl) (by kernel_rfl) (by kernel_rfl) (fun _ _ _ h => h) (by kernel_rfl) (fun w hSw => by (try dsimp only at hSw); go_simp; try rfl) (by assumption) ?_
                try simp only [Act.put, List.setIfInBounds_toArray, List.set_cons_zero, List.set_cons_succ]
                refine take_heldS (i := 17) (d := 129) rfl rfl (by kernel_rfl) (by kernel_rfl) (by kernel_rfl) (fun _ _ _ h => h) (by kernel_rfl) (fun w hSw => by (try dsimp only at hSw); go_simp; try rfl) (by assumption) ?_
                try simp only [Act.put, List.setIfInBounds_toArray, List.set_cons_zero, List.set_cons_succ]
                refine take_heldS (i := 18) (d := 130) rfl rfl (by kernel_rfl) (by kernel_rfl) (by kernel_rfl) (fun _ _ _ h => h) (by kernel_rfl) (fun w hSw => by (try dsimp only at hSw); go_simp; try rfl) (by assumption) ?_
                try simp only [Act.put, List.setIfInBounds_toArray, List.set_cons_zero, List.set_cons_succ]
                refine take_heldS (i := 19) (d := 131) rfl rfl (by kernel_rfl) (by kernel_rfl) (by kernel_rfl) (fun _ _ _ h => h) (by kernel_rfl) (fun w hSw => by (try dsimp only at hSw); go_simp; try rfl) (by assumption) ?_
                try simp only [Act.put, List.setIfInBounds_toArray, List.set_cons_zero, List.set_cons_succ]
                refine take_heldS (i := 20) (d := 132) rfl rfl (by kernel_rfl) (by kernel_rfl) (by kernel_rfl) (fun _ _ _ h => h) (by kernel_rfl) (fun w hSw => by (try dsimp only at hSw); go_simp; try rfl) (by assumption) ?_
                try simp only [Act.put, List.setIfInBounds_toArray, List.set_cons_zero, List.set_cons_succ]
                refine take_heldS (i := 21) (d := 133) rfl rfl (by kernel_rfl) (by kernel_rfl) (by kernel_rfl) (fun _ _ _ h => h) (by kernel_rfl) (fun w hSw => by (try dsimp only at hSw); go_simp; try rfl) (by assumption) ?_
                try simp only [Act.put, List.setIfInBounds_toArray, List.set_cons_zero, List.set_cons_succ]
                refine take_heldS (i := 22) (d := 134) rfl rfl (by kernel_rfl) (by kernel_rfl) (by kernel_rfl) (fun _ _ _ h => h) (by kernel_rfl) (fun w hSw => by (try dsimp only at hSw); go_simp; try rfl) (by assumption) ?_
                try simp only [Act.put, List.setIfInBounds_toArray, List.set_cons_zero, List.set_cons_succ]
                refine take_heldS (i := 23) (d := 135) rfl rfl (by kernel_rfl) (by kernel_rfl) (by kernel_rfl) (fun _ _ _ h => h) (by kernel_rfl) (fun w hSw => by (try dsimp only at hSw); go_simp; try rfl) (by assumption) ?_
                try simp only [Act.put, List.setIfInBounds_toArray, List.set_cons_zero, List.set_cons_succ]
                refine take_heldS (i := 24) (d := 136) rfl rfl (by kernel_rfl) (by kernel_rfl) (by kernel_rfl) (fun _ _ _ h => h) (by kernel_rfl) (fun w hSw => by (try dsimp only at hSw); go_simp; try rfl) (by assumption) ?_
                try simp only [Act.put, List.setIfInBounds_toArray, List.set_cons_zero, List.set_cons_succ]
                refine take_heldS (i := 25) (d := 137) rfl rfl (by kernel_rfl) (by kernel_rfl) (by kernel_rfl) (fun _ _ _ h => h) (by kernel_rfl) (fun w hSw => by (try dsimp only at hSw); go_simp; try rfl) (by assumption) ?_
                try simp only [Act.put, List.setIfInBounds_toArray, List.set_cons_zero, List.set_cons_succ]
                refine take_heldS (i := 26) (d := 138) rfl rfl (by kernel_rfl) (by kernel_rfl) (by kernel_rfl) (fun _ _ _ h => h) (by kernel_rfl) (fun w hSw => by (try dsimp only at hSw); go_simp; try rfl) (by assumption) ?_
                try simp only [Act.put, List.setIfInBounds_toArray, List.set_cons_zero, List.set_cons_succ]
                refine take_heldS (i := 27) (d := 139) rfl rfl (by kernel_rfl) (by kernel_rfl) (by kernel_rfl) (fun _ _ _ h => h) (by kernel_rfl) (fun w hSw => by (try dsimp only at hSw); go_simp; try rfl) (by assumption) ?_
                try simp only [Act.put, List.setIfInBounds_toArray, List.set_cons_zero, List.set_cons_succ]
                refine take_heldS (i := 28) (d := 140) (v := (.bool false)) rfl rfl (by kernel_rfl) (by kernel_rfl) (by kernel_rfl) (fun _ _ _ h => h) (by kernel_rfl) (fun w hSw => by (try dsimp only at hSw); go_simp; try rfl) (by assumption) ?_
                try simp only [Act.put, List.setIfInBounds_toArray, List.set_cons_zero, List.set_cons_succ]
                refine take_heldS (i := 29) (d := 141) (v := (.bool false)) rfl rfl (by kernel_rfl) (by kernel_rfl) (by kernel_rfl) (fun _ _ _ h => h) (by kernel_rfl) (fun w hSw => by (try dsimp only at hSw); go_simp; try rfl) (by assumption) ?_
                try simp only [Act.put, List.setIfInBounds_toArray, List.set_cons_zero, List.set_cons_succ]
                refine take_heldS (i := 30) (d := 142) rfl rfl (by kernel_rfl) (by kernel_rfl) (by kernel_rfl) (fun _ _ _ h => h) (by kernel_rfl) (fun w hSw => by (try dsimp only at hSw); go_simp; try rfl) (by assumption) ?_
                try simp only [Act.put, List.setIfInBounds_toArray, List.set_cons_zero, List.set_cons_succ]
                refine take_heldS (i := 31) (d := 143) rfl rfl (by kernel_rfl) (by kernel_rfl) (by kernel_rfl) (fun _ _ _ h => h) (by kernel_rfl) (fun w hSw => by (try dsimp only at hSw); go_simp; try rfl) (by assumption) ?_
                try simp only [Act.put, List.setIfInBounds_toArray, List.set_cons_zero, List.set_cons_succ]
                refine take_heldS (i := 32) (d := 144) rfl rfl (by kernel_rfl) (by kernel_rfl) (by kernel_rfl) (fun _ _ _ h => h) (by kernel_rfl) (fun w hSw => by (try dsimp only at hSw); go_simp; try rfl) (by assumption) ?_
                try simp only [Act.put, List.setIfInBounds_toArray, List.set_cons_zero, List.set_cons_succ]
                refine take_heldS (i := 34) (d := 146) rfl rfl (by kernel_rfl) (by kernel_rfl) (by kernel_rfl) (fun _ _ _ h => h) (by kernel_rfl) (fun w hSw => by (try dsimp only at hSw); go_simp; try rfl) (by assumption) ?_
                try simp only [Act.put, List.setIfInBounds_toArray, List.set_cons_zero, List.set_cons_succ]
                refine take_heldS (i := 35) (d := 147) rfl rfl (by kernel_rfl) (by kernel_rfl) (by kernel_rfl) (fun _ _ _ h => h) (by kernel_rfl) (fun w hSw => by (try dsimp only at hSw); go_simp; try rfl) (by assumption) ?_
                try simp only [Act.put, List.setIfInBounds_toArray, List.set_cons_zero, List.set_cons_succ]
                refine take_heldS (i := 36) (d := 148) rfl rfl (by kernel_rfl) (by kernel_rfl) (by kernel_rfl) (fun _ _ _ h => h) (by kernel_rfl) (fun w hSw => by (try dsimp only at hSw); go_simp; try rfl) (by assumption) ?_
                try simp only [Act.put, List.setIfInBounds_toArray, List.set_cons_zero, List.set_cons_succ]
                refine take_heldS (i := 37) (d := 149) rfl rfl (by kernel_rfl) (by kernel_rfl) (by kernel_rfl) (fun _ _ _ h => h) (by kernel_rfl) (fun w hSw => by (try dsimp only at hSw); go_simp; try rfl) (by assumption) ?_
                try simp only [Act.put, List.setIfInBounds_toArray, List.set_cons_zero, List.set_cons_succ]
                refine take_heldS (i := 38) (d := 150) rfl rfl (by kernel_rfl) (by kernel_rfl) (by kernel_rfl) (fun _ _ _ h => h) (by kernel_rfl) (fun w hSw => by (try dsimp only at hSw); go_simp; try rfl) (by assumption) ?_
                try simp only [Act.put, List.setIfInBounds_toArray, List.set_cons_zero, List.set_cons_succ]
                refine take_heldS (i := 39) (d := 151) rfl rfl (by kernel_rfl) (by kernel_rfl) (by kernel_rfl) (fun _ _ _ h => h) (by kernel_rfl) (fun w hSw => by (try dsimp only at hSw); go_simp; try rfl) (by assumption) ?_
                try simp only [Act.put, List.setIfInBounds_toArray, List.set_cons_zero, List.set_cons_succ]
                refine take_heldS (i := 40) (d := 152) (v := (.bool false)) rfl rfl (by kernel_rfl) (by kernel_rfl) (by kernel_rfl) (fun _ _ _ h => h) (by kernel_rfl) (fun w hSw => by (try dsimp only at hSw); go_simp; try rfl) (by assumption) ?_
                try simp only [Act.put, List.setIfInBounds_toArray, List.set_cons_zero, List.set_cons_succ]
                refine wpAnyH_ready (rs := [33]) (by kernel_rfl) (by simp) ?_
                refine AllReadyH.cons rfl (fun K hK => ?_) AllReadyH.nil
                go_simp
                refine (has_any _ _ _ _ _ _ (by exact HTD.out) (by omega)).mono ?_; rintro e w8 ⟨rfl, rfl⟩; rw [HHS.out]
                refine hK.out _ _ (by exact ⟨y0, y1, y2⟩) (fun hHeld => ?_)
                clear hK K
                try simp only [Act.put, List.setIfInBounds_toArray, List.set_cons_zero, List.set_cons_succ]
                refine take_heldS (i := 41) (d := 153) (v := (.bool false)) rfl rfl (by kernel_rfl) (by kernel_rfl) (by kernel_rfl) (fun _ _ _ h => h) (by kernel_rfl) (fun w hSw => by (try dsimp only at hSw); go_simp; try rfl) (by assumption) ?_
                try simp only [Act.put, List.setIfInBounds_toArray, List.set_cons_zero, List.set_cons_succ]
                refine take_heldS (i := 42) (d := 154) rfl rfl (by kernel_rfl) (by kernel_rfl) (by kernel_rfl) (fun _ _ _ h => h) (by kernel_rfl) (fun w hSw => by (try dsimp only at hSw); go_simp; try rfl) (by assumption) ?_
                try simp only [Act.put, List.setIfInBounds_toArray, List.set_cons_zero, List.set_cons_succ]
                refine take_heldS (i := 43) (d := 155) rfl rfl (by kernel_rfl) (by kernel_rfl) (by kernel_rfl) (fun _ _ _ h => h) (by kernel_rfl) (fun w hSw => by (try dsimp only at hSw); go_simp; try rfl) (by assumption) ?_
                try simp only [Act.put, List.setIfInBounds_toArray, List.set_cons_zero, List.set_cons_succ]
                refine take_heldS (i := 44) (d := 156) rfl rfl (by kernel_rfl) (by kernel_rfl) (by kernel_rfl) (fun _ _ _ h => h) (by kernel_rfl) (fun w hSw => by (try dsimp only at hSw); go_simp; try rfl) (by assumption) ?_
                try simp only [Act.put, List.setIfInBounds_toArray, List.set_cons_zero, List.set_cons_succ]
                refine take_heldS (i := 45) (d := 157) rfl rfl (by kernel_rfl) (by kernel_rfl) (by kernel_rfl) (fun _ _ _ h => h) (by kernel_rfl) (fun w hSw => by (try dsimp only at hSw); go_simp; try rfl) (by assumption) ?_
                try simp only [Act.put, List.setIfInBounds_toArray, List.set_cons_zero, List.set_cons_succ]
                refine take_heldS (i := 46) (d := 158) rfl rfl (by kernel_rfl) (by kernel_rfl) (by kernel_rfl) (fun _ _ _ h => h) (by kernel_rfl) (fun w hSw => by (try dsimp only at hSw); go_simp; try rfl) (by assumption) ?_
                try simp only [Act.put, List.setIfInBounds_toArray, List.set_cons_zero, List.set_cons_succ]
                refine take_heldS (i := 47) (d := 159) rfl rfl (by kernel_rfl) (by kernel_rfl) (by kernel_rfl) (fun _ _ _ h => h) (by kernel_rfl) (fun w hSw => by (try dsimp only at hSw); go_simp; try rfl) (by assumption) ?_
                try simp only [Act.put, List.setIfInBounds_toArray, List.set_cons_zero, List.set_cons_succ]
                refine take_heldS (i := 48) (d := 160) rfl rfl (by kernel_rfl) (by kernel_rfl) (by kernel_rfl) (fun _ _ _ h => h) (by kernel_rfl) (fun w hSw => by (try dsimp only at hSw); go_simp; try rfl) (by assumption) ?_
                try simp only [Act.put, List.setIfInBounds_toArray, List.set_cons_zero, List.set_cons_succ]
                refine take_heldS (i := 49) (d := 161) rfl rfl (by kernel_rfl) (by kernel_rfl) (by kernel_rfl) (fun _ _ _ h => h) (by kernel_rfl) (fun w hSw => by (try dsimp only at hSw); go_simp; try rfl) (by assumption) ?_
                try simp only [Act.put, List.setIfInBounds_toArray, List.set_cons_zero, List.set_cons_succ]
                refine take_heldS (i := 50) (d := 162) rfl rfl (by kernel_rfl) (by kernel_rfl) (by kernel_rfl) (fun _ _ _ h => h) (by kernel_rfl) (fun w hSw => by (try dsimp only at hSw); go_simp; try rfl) (by assumption) ?_
                try simp only [Act.put, List.setIfInBounds_toArray, List.set_cons_zero, List.set_cons_succ]
                refine take_heldS (i := 51) (d := 163) rfl rfl (by kernel_rfl) (by kernel_rfl) (by kernel_rfl) (fun _ _ _ h => h) (by kernel_rfl) (fun w hSw => by (try dsimp only at hSw); go_simp; try rfl) (by assumption) ?_
                try simp only [Act.put, List.setIfInBounds_toArray, List.set_cons_zero, List.set_cons_succ]
                refine take_heldS (i := 52) (d := 164) rfl rfl (by kernel_rfl) (by kernel_rfl) (by kernel_rfl) (fun _ _ _ h => h) (by kernel_rfl) (fun w hSw => by (try dsimp only at hSw); go_simp; try rfl) (by assumption) ?_
                try simp only [Act.put, List.setIfInBounds_toArray, List.set_cons_zero, List.set_cons_succ]
                refine take_heldS (i := 53) (d := 165) rfl rfl (by kernel_rfl) (by kernel_rfl) (by kernel_rfl) (fun _ _ _ h => h) (by kernel_rfl) (fun w hSw => by (try dsimp only at hSw); go_simp; try rfl) (by assumption) ?_
                try simp only [Act.put, List.setIfInBounds_toArray, List.set_cons_zero, List.set_cons_succ]
                refine take_heldS (i := 54) (d := 166) (v := (.bool true)) rfl rfl (by kernel_rfl) (by kernel_rfl) (by kernel_rfl) (fun _ _ _ h => h) (by kernel_rfl) (fun w hSw => by (try dsimp only at hSw); go_simp; try rfl) (by assumption) ?_
                try simp only [Act.put, List.setIfInBounds_toArray, List.set_cons_zero, List.set_cons_succ]
                refine take_heldS (i := 55) (d := 167) (v := (.bool true)) rfl rfl (by kernel_rfl) (by kernel_rfl) (by kernel_rfl) (fun _ _ _ h => h) (by kernel_rfl) (fun w hSw => by (try dsimp only at hSw); go_simp; try rfl) (by assumption) ?_
                try simp only [Act.put, List.setIfInBounds_toArray, List.set_cons_zero, List.set_cons_succ]
                refine take_heldS (i := 56) (d := 168) (v := (.bool false)) rfl rfl (by kernel_rfl) (by kernel_rfl) (by kernel_rfl) (fun _ _ _ h => h) (by kernel_rfl) (fun w hSw => by (try dsimp only at hSw); go_simp; try rfl) (by assumption) ?_
                try simp only [Act.put, List.setIfInBounds_toArray, List.set_cons_zero, List.set_cons_succ]
                refine take_heldS (i := 57) (d := 169) (v := (.bool false)) rfl rfl (by kernel_rfl) (by kernel_rfl) (by kernel_rfl) (fun _ _ _ h => h) (by kernel_rfl) (fun w hSw => by (try dsimp only at hSw); go_simp; try rfl) (by assumption) ?_
                try simp only [Act.put, List.setIfInBounds_toArray, List.set_cons_zero, List.set_cons_succ]
                refine wpAnyH_done (by kernel_rfl) ?_ _
                clear y0 y1 y2
                go_wp2
                go_roundw
                case rel => exact ⟨k + 1, by go_num, by omega, HBD⟩
                case measure => simp [intOf]; omega
              · have b2 : (N == E) = false := by simpa using hE
                have HHS : Hid (hasI (tchL pl pm) (k : Int) k7 = false) := Lib.hid (by rw [hs0, decide_eq_false hN, decide_eq_false hE]; rfl)
                clear hN hE hs0 p1 p2 p3 p4
                go_wp2
                refine wp_region_held_drew (S := fun w' => w'.cell? ⟨b7, off7 + k, none⟩ = some (.slice (some ⟨gk, 0, none⟩) 2 2) ∧ w'.cell? ⟨gk, 0, none⟩ = some (.int .i64 N) ∧ w'.cell? ⟨gk, 1, none⟩ = some (.int .i64 E)) (by kernel_rfl) (by exact ⟨y0, y1, y2⟩) (fun hHeld => ?_)
                refine take_heldS (i := 0) (d := 112) rfl rfl (by kernel_rfl) (by kernel_rfl) (by kernel_rfl) (fun _ _ _ h => h) (by kernel_rfl) (fun w hSw => by (try dsimp only at hSw); go_simp; try rfl) (by assumption) ?_
                try simp only [Act.put, List.setIfInBounds_toArray, List.set_cons_zero, List.set_cons_succ]
                refine take_heldS (i := 1) (d := 113) rfl rfl (by kernel_rfl) (by kernel_rfl) (by kernel_rfl) (fun _ _ _ h => h) (by kernel_rfl) (fun w hSw => by (try dsimp only at hSw); go_simp; try rfl) (by assumption) ?_
                try simp only [Act.put, List.setIfInBounds_toArray, List.set_cons_zero, List.set_cons_succ]
                refine take_heldS (i := 2) (d := 114) rfl rfl (by kernel_rfl) (by kernel_rfl) (by kernel_rfl) (fun _ _ _ h => h) (by kernel_rfl) (fun w hSw => by (try dsimp only at hSw); go_simp; try rfl) (by assumption) ?_
                try simp only [Act.put, List.setIfInBounds_toArray, List.set_cons_zero, List.set_cons_succ]
                refine take_heldS (i := 3) (d := 115) rfl rfl (by kernel_rfl) (by kernel_rfl) (by kernel_rfl) (fun _ _ _ h => h) (by kernel_rfl) (fun w hSw => by (try dsimp only at hSw); go_simp; try rfl) (by assumption) ?_
                try simp only [Act.put, List.setIfInBounds_toArray, List.set_cons_zero, List.set_cons_succ]
                refine take_heldS (i := 4) (d := 116) rfl rfl (by kernel_rfl) (by kernel_rfl) (by kernel_rfl) (fun _ _ _ h => h) (by kernel_rfl) (fun w hSw => by (try dsimp only at hSw); go_simp; try rfl) (by assumption) ?_
                try simp only [Act.put, List.setIfInBounds_toArray, List.set_cons_zero, List.set_cons_succ]
                refine take_heldS (i := 5) (d := 117) (v := (.bool false)) rfl rfl (by kernel_rfl) (by kernel_rfl) (by kernel_rfl) (fun _ _ _ h => h) (by kernel_rfl) (fun w hSw => by (try dsimp only at hSw); go_simp; try rfl) (by assumption) ?_
                try simp only [Act.put, List.setIfInBounds_toArray, List.set_cons_zero, List.set_cons_succ]
                refine take_heldS (i := 6) (d := 118) rfl rfl (by kernel_rfl) (by kernel_rfl) (by kernel_rfl) (fun _ _ _ h => h) (by kernel_rfl) (fun w hSw => by (try dsimp only at hSw); go_simp; try rfl) (by assumption) ?_
                try simp only [Act.put, List.setIfInBounds_toArray, List.set_cons_zero, List.set_cons_succ]
                refine take_heldS (i := 7) (d := 119) rfl rfl (by kernel_rfl) (by kernel_rfl) (by kernel_rfl) (fun _ _ _ h => h) (by kernel_rfl) (fun w hSw => by (try dsimp only at hSw); go_simp; try rfl) (by assumption) ?_
                try simp only [Act.put, List.setIfInBounds_toArray, List.set_cons_zero, List.set_cons_succ]
                refine take_heldS (i := 8) (d := 120) rfl rfl (by kernel_rfl) (by kernel_rfl) (by kernel_rfl) (fun _ _ _ h => h) (by kernel_rfl) (fun w hSw => by (try dsimp only at hSw); go_simp; try rfl) (by assumption) ?_
                try simp only [Act.put, List.setIfInBounds_toArray, List.set_cons_zero, List.set_cons_succ]
                refine take_heldS (i := 9) (d := 121) rfl rfl (by kernel_rfl) (by kernel_rfl) (by kernel_rfl) (fun _ _ _ h => h) (by kernel_rfl) (fun w hSw => by (try dsimp only at hSw); go_simp; try rfl) (by assumption) ?_
                try simp only [Act.put, List.setIfInBounds_toArray, List.set_cons_zero, List.set_cons_succ]
                refine take_heldS (i := 10) (d := 122) rfl rfl (by kernel_rfl) (by kernel_rfl) (by kernel_rfl) (fun _ _ _ h => h) (by kernel_rfl) (fun w hSw => by (try dsimp only at hSw); go_simp; try rfl) (by assumption) ?_
                try simp only [Act.put, List.setIfInBounds_toArray, List.set_cons_zero, List.set_cons_succ]
                refine take_heldS (i := 11) (d := 123) rfl rfl (by kernel_rfl) (by kernel_rfl) (by kernel_rfl) (fun _ _ _ h => h) (by kernel_rfl) (fun w hSw => by (try dsimp only at hSw); go_simp; try rfl) (by assumption) ?_
                try simp only [Act.put, List.setIfInBounds_toArray, List.set_cons_zero, List.set_cons_succ]
                refine take_heldS (i := 12) (d := 124) rfl rfl (by kernel_rfl) (by kernel_rfl) (by kernel_rfl) (fun _ _ _ h => h) (by kernel_rfl) (fun w hSw => by (try dsimp only at hSw); go_simp; try rfl) (by assumption) ?_
                try simp only [Act.put, List.setIfInBounds_toArray, List.set_cons_zero, List.set_cons_succ]
                refine take_heldS (i := 13) (d := 125) (v := (.bool false)) rfl rfl (by kernel_rfl) (by kernel_rfl) (by kernel_rfl) (fun _ _ _ h => h) (by kernel_rfl) (fun w hSw => by (try dsimp only at hSw); go_simp; try rfl) (by assumption) ?_
                try simp only [Act.put, List.setIfInBounds_toArray, List.set_cons_zero, List.set_cons_succ]
                refine take_heldS (i := 14) (d := 126) (v := (.bool false)) rfl rfl (by kernel_rfl) (by kernel_rfl) (by kernel_rfl) (fun _ _ _ h => h) (by kernel_rfl) (fun w hSw => by (try dsimp only at hSw); go_simp; try rfl) (by assumption) ?_
                try simp only [Act.put, List.setIfInBounds_toArray, List.set_cons_zero, List.set_cons_succ]
                refine take_heldS (i := 15) (d := 127) rfl rfl (by kernel_rfl) (by kernel_rfl) (by kernel_rfl) (fun _ _ _ h => h) (by kernel_rfl) (fun w hSw => by (try dsimp only at hSw); go_simp; try rfl) (by assumption) ?_
                try simp only [Act.put, List.setIfInBounds_toArray, List.set_cons_zero, List.set_cons_succ]
                refine take_heldS (i := 16) (d := 128) rfl rfl (by kernel_rfl) (by kernel_rfl) (by kernel_rfl) (fun _ _ _ h => h) (by kernel_rfl) (fun w hSw => by (try dsimp only at hSw); go_simp; try rfl) (by assumption) ?_
                try simp only [Act.put, List.setIfInBounds_toArray, List.set_cons_zero, List.set_cons_succ]
                refine take_heldS (i := 17) (d := 129) rfl rfl (by kernel_rfl) (by kernel_rfl) (by kernel_rfl) (fun _ _ _ h => h) (by kernel_rfl) (fun w hSw => by (try dsimp only at hSw); go_simp; try rfl) (by assumption) ?_
                try simp only [Act.put, List.setIfInBounds_toArray, List.set_cons_zero, List.set_cons_succ]
                refine take_heldS (i := 18) (d := 130) rfl rfl (by kernel_rfl) (by kernel_rfl) (by kernel_rfl) (fun _ _ _ h => h) (by kernel_rfl) (fun w hSw => by (try dsimp only at hSw); go_simp; try rfl) (by assumption) ?_
                try simp only [Act.put, List.setIfInBounds_toArray, List.set_cons_zero, List.set_cons_succ]
                refine take_heldS (i := 19) (d := 131) rfl rfl (by kernel_rfl) (by kernel_rfl) (by kernel_rfl) (fun _ _ _ h => h) (by kernel_rfl) (fun w hSw => by (try dsimp only at hSw); go_simp; try rfl) (by assumption) ?_
                try simp only [Act.put, List.setIfInBounds_toArray, List.set_cons_zero, List.set_cons_succ]
                refine take_heldS (i := 20) (d := 132) rfl rfl (by kernel_rfl) (by kernel_rfl) (by kernel_rfl) (fun _ _ _ h => h) (by kernel_rfl) (fun w hSw => by (try dsimp only at hSw); go_simp; try rfl) (by assumption) ?_
                try simp only [Act.put, List.setIfInBounds_toArray, List.set_cons_zero, List.set_cons_succ]
                refine take_heldS (i := 21) (d := 133) rfl rfl (by kernel_rfl) (by kernel_rfl) (by kernel_rfl) (fun _ _ _ h => h) (by kernel_rfl) (fun w hSw => by (try dsimp only at hSw); go_simp; try rfl) (by assumption) ?_
                try simp only [Act.put, List.setIfInBounds_toArray, List.set_cons_zero, List.set_cons_succ]
                refine take_heldS (i := 22) (d := 134) rfl rfl (by kernel_rfl) (by kernel_rfl) (by kernel_rfl) (fun _ _ _ h => h) (by kernel_rfl) (fun w hSw => by (try dsimp only at hSw); go_simp; try rfl) (by assumption) ?_
                try simp only [Act.put, List.setIfInBounds_toArray, List.set_cons_zero, List.set_cons_succ]
                refine take_heldS (i := 23) (d := 135) rfl rfl (by kernel_rfl) (by kernel_rfl) (by kernel_rfl) (fun _ _ _ h => h) (by kernel_rfl) (fun w hSw => by (try dsimp only at hSw); go_simp; try rfl) (by assumption) ?_
                try simp only [Act.put, List.setIfInBounds_toArray, List.set_cons_zero, List.set_cons_succ]
                refine take_heldS (i := 24) (d := 136) rfl rfl (by kernel_rfl) (by kernel_rfl) (by kernel_rfl) (fun _ _ _ h => h) (by kernel_rfl) (fun w hSw => by (try dsimp only at hSw); go_simp; try rfl) (by assumption) ?_
                try simp only [Act.put, List.setIfInBounds_toArray, List.set_cons_zero, List.set_cons_succ]
                refine take_heldS (i := 25) (d := 137) rfl rfl (by kernel_rfl) (by kernel_rfl) (by kernel_rfl) (fun _ _ _ h => h) (by kernel_rfl) (fun w hSw => by (try dsimp only at hSw); go_simp; try rfl) (by assumption) ?_
                try simp only [Act.put, List.setIfInBounds_toArray, List.set_cons_zero, List.set_cons_succ]
                refine take_heldS (i := 26) (d := 138) rfl rfl (by kernel_rfl) (by kernel_rfl) (by kernel_rfl) (fun _ _ _ h => h) (by kernel_rfl) (fun w hSw => by (try dsimp only at hSw); go_simp; try rfl) (by assumption) ?_
                try simp only [Act.put, List.setIfInBounds_toArray, List.set_cons_zero, List.set_cons_succ]
                refine take_heldS (i := 27) (d := 139) rfl rfl (by kernel_rfl) (by kernel_rfl) (by kernel_rfl) (fun _ _ _ h => h) (by kernel_rfl) (fun w hSw => by (try dsimp only at hSw); go_simp; try rfl) (by assumption) ?_
                try simp only [Act.put, List.setIfInBounds_toArray, List.set_cons_zero, List.set_cons_succ]
                refine take_heldS (i := 28) (d := 140) (v := (.bool false)) rfl rfl (by kernel_rfl) (by kernel_rfl) (by kernel_rfl) (fun _ _ _ h => h) (by kernel_rfl) (fun w hSw => by (try dsimp only at hSw); go_simp; try rfl) (by assumption) ?_
                try simp only [Act.put, List.setIfInBounds_toArray, List.set_cons_zero, List.set_cons_succ]
                refine take_heldS (i := 29) (d := 141) (v := (.bool false)) rfl rfl (by kernel_rfl) (by kernel_rfl) (by kernel_rfl) (fun _ _ _ h => h) (by kernel_rfl) (fun w hSw => by (try dsimp only at hSw); go_simp; try rfl) (by assumption) ?_
                try simp only [Act.put, List.setIfInBounds_toArray, List.set_cons_zero, List.set_cons_succ]
                refine take_heldS (i := 30) (d := 142) rfl rfl (by kernel_rfl) (by kernel_rfl) (by kernel_rfl) (fun _ _ _ h => h) (by kernel_rfl) (fun w hSw => by (try dsimp only at hSw); go_simp; try rfl) (by assumption) ?_
                try simp only [Act.put, List.setIfInBounds_toArray, List.set_cons_zero, List.set_cons_succ]
                refine take_heldS (i := 31) (d := 143) rfl rfl (by kernel_rfl) (by kernel_rfl) (by kernel_rfl) (fun _ _ _ h => h) (by kernel_rfl) (fun w hSw => by (try dsimp only at hSw); go_simp; try rfl) (by assumption) ?_
                try simp only [Act.put, List.setIfInBounds_toArray, List.set_cons_zero, List.set_cons_succ]
                refine take_heldS (i := 32) (d := 144) rfl rfl (by kernel_rfl) (by kernel_rfl) (by kernel_rfl) (fun _ _ _ h => h) (by kernel_rfl) (fun w hSw => by (try dsimp only at hSw); go_simp; try rfl) (by assumption) ?_
                try simp only [Act.put, List.setIfInBounds_toArray, List.set_cons_zero, List.set_cons_succ]
                refine take_heldS (i := 34) (d := 146) rfl rfl (by kernel_rfl) (by kernel_rfl) (by kernel_rfl) (fun _ _ _ h => h) (by kernel_rfl) (fun w hSw => by (try dsimp only at hSw); go_simp; try rfl) (by assumption) ?_
                try simp only [Act.put, List.setIfInBounds_toArray, List.set_cons_zero, List.set_cons_succ]
                refine take_heldS (i := 35) (d := 147) rfl rfl (by kernel_rfl) (by kernel_rfl) (by kernel_rfl) (fun _ _ _ h => h) (by kernel_rfl) (fun w hSw => by (try dsimp only at hSw); go_simp; try rfl) (by assumption) ?_
                try simp only [Act.put, List.setIfInBounds_toArray, List.set_cons_zero, List.set_cons_succ]
                refine take_heldS (i := 36) (d := 148) rfl rfl (by kernel_rfl) (by kernel_rfl) (by kernel_rfl) (fun _ _ _ h => h) (by kernel_rfl) (fun w hSw => by (try dsimp only at hSw); go_simp; try rfl) (by assumption) ?_
                try simp only [Act.put, List.setIfInBounds_toArray, List.set_cons_zero, List.set_cons_succ]
                refine take_heldS (i := 37) (d := 149) rfl rfl (by kernel_rfl) (by kernel_rfl) (by kernel_rfl) (fun _ _ _ h => h) (by kernel_rfl) (fun w hSw => by (try dsimp only at hSw); go_simp; try rfl) (by assumption) ?_
                try simp only [Act.put, List.setIfInBounds_toArray, List.set_cons_zero, List.set_cons_succ]
                refine take_heldS (i := 38) (d := 150) rfl rfl (by kernel_rfl) (by kernel_rfl) (by kernel_rfl) (fun _ _ _ h => h) (by kernel_rfl) (fun w hSw => by (try dsimp only at hSw); go_simp; try rfl) (by assumption) ?_
                try simp only [Act.put, List.setIfInBounds_toArray, List.set_cons_zero, List.set_cons_succ]
                refine take_heldS (i := 39) (d := 151) rfl rfl (by kernel_rfl) (by kernel_rfl) (by kernel_rfl) (fun _ _ _ h => h) (by kernel_rfl) (fun w hSw => by (try dsimp only at hSw); go_simp; try rfl) (by assumption) ?_
                try simp only [Act.put, List.setIfInBounds_toArray, List.set_cons_zero, List.set_cons_succ]
                refine take_heldS (i := 40) (d := 152) (v := (.bool false)) rfl rfl (by kernel_rfl) (by kernel_rfl) (by kernel_rfl) (fun _ _ _ h => h) (by kernel_rfl) (fun w hSw => by (try dsimp only at hSw); go_simp; try rfl) (by assumption) ?_
                try simp only [Act.put, List.setIfInBounds_toArray, List.set_cons_zero, List.set_cons_succ]
                refine wpAnyH_ready (rs := [33]) (by kernel_rfl) (by simp) ?_
                refine AllReadyH.cons rfl (fun K hK => ?_) AllReadyH.nil
                go_simp
                refine (has_any _ _ _ _ _ _ (by exact HTD.out) (by omega)).mono ?_; rintro e w8 ⟨rfl, rfl⟩; rw [HHS.out]
                refine hK.out _ _ (by exact ⟨y0, y1, y2⟩) (fun hHeld => ?_)
                clear hK K
                try simp only [Act.put, List.setIfInBounds_toArray, List.set_cons_zero, List.set_cons_succ]
                refine take_heldS (i := 41) (d := 153) (v := (.bool false)) rfl rfl (by kernel_rfl) (by kernel_rfl) (by kernel_rfl) (fun _ _ _ h => h) (by kernel_rfl) (fun w hSw => by (try dsimp only at hSw); go_simp; try rfl) (by assumption) ?_
                try simp only [Act.put, List.setIfInBounds_toArray, List.set_cons_zero, List.set_cons_succ]
                refine take_heldS (i := 42) (d := 154) rfl rfl (by kernel_rfl) (by kernel_rfl) (by kernel_rfl) (fun _ _ _ h => h) (by kernel_rfl) (fun w hSw => by (try dsimp only at hSw); go_simp; try rfl) (by assumption) ?_
                try simp only [Act.put, List.setIfInBounds_toArray, List.set_cons_zero, List.set_cons_succ]
                refine take_heldS (i := 43) (d := 155) rfl rfl (by kernel_rfl) (by kernel_rfl) (by kernel_rfl) (fun _ _ _ h => h) (by kernel_rfl) (fun w hSw => by (try dsimp only at hSw); go_simp; try rfl) (by assumption) ?_
                try simp only [Act.put, List.setIfInBounds_toArray, List.set_cons_zero, List.set_cons_succ]
                refine take_heldS (i := 44) (d := 156) rfl rfl (by kernel_rfl) (by kernel_rfl) (by kernel_rfl) (fun _ _ _ h => h) (by kernel_rfl) (fun w hSw => by (try dsimp only at hSw); go_simp; try rfl) (by assumption) ?_
                try simp only [Act.put, List.setIfInBounds_toArray, List.set_cons_zero, List.set_cons_succ]
                refine take_heldS (i := 45) (d := 157) rfl rfl (by kernel_rfl) (by kernel_rfl) (by kernel_rfl) (fun _ _ _ h => h) (by kernel_rfl) (fun w hSw => by (try dsimp only at hSw); go_simp; try rfl) (by assumption) ?_
                try simp only [Act.put, List.setIfInBounds_toArray, List.set_cons_zero, List.set_cons_succ]
                refine take_heldS (i := 46) (d := 158) rfl rfl (by kernel_rfl) (by kernel_rfl) (by kernel_rfl) (fun _ _ _ h => h) (by kernel_rfl) (fun w hSw => by (try dsimp only at hSw); go_simp; try rfl) (by assumption) ?_
                try simp only [Act.put, List.setIfInBounds_toArray, List.set_cons_zero, List.set_cons_succ]
                refine take_heldS (i := 47) (d := 159) rfl rfl (by kernel_rfl) (by kernel_rfl) (by kernel_rfl) (fun _ _ _ h => h) (by kernel_rfl) (fun w hSw => by (try dsimp only at hSw); go_simp; try rfl) (by assumption) ?_
                try simp only [Act.put, List.setIfInBounds_toArray, List.set_cons_zero, List.set_cons_succ]
                refine take_heldS (i := 48) (d := 160) rfl rfl (by kernel_rfl) (by kernel_rfl) (by kernel_rfl) (fun _ _ _ h => h) (by kernel_rfl) (fun w hSw => by (try dsimp only at hSw); go_simp; try rfl) (by assumption) ?_
                try simp only [Act.put, List.setIfInBounds_toArray, List.set_cons_zero, List.set_cons_succ]
                refine take_heldS (i := 49) (d := 161) rfl rfl (by kernel_rfl) (by kernel_rfl) (by kernel_rfl) (fun _ _ _ h => h) (by kernel_rfl) (fun w hSw => by (try dsimp only at hSw); go_simp; try rfl) (by assumption) ?_
                try simp only [Act.put, List.setIfInBounds_toArray, List.set_cons_zero, List.set_cons_succ]
                refine take_heldS (i := 50) (d := 162) rfl rfl (by kernel_rfl) (by kernel_rfl) (by kernel_rfl) (fun _ _ _ h => h) (by kernel_rfl) (fun w hSw => by (try dsimp only at hSw); go_simp; try rfl) (by assumption) ?_
                try simp only [Act.put, List.setIfInBounds_toArray, List.set_cons_zero, List.set_cons_succ]
                refine take_heldS (i := 51) (d := 163) rfl rfl (by kernel_rfl) (by kernel_rfl) (by kernel_rfl) (fun _ _ _ h => h) (by kernel_rfl) (fun w hSw => by (try dsimp only at hSw); go_simp; try rfl) (by assumption) ?_
                try simp only [Act.put, List.setIfInBounds_toArray, List.set_cons_zero, List.set_cons_succ]
                refine take_heldS (i := 52) (d := 164) rfl rfl (by kernel_rfl) (by kernel_rfl) (by kernel_rfl) (fun _ _ _ h => h) (by kernel_rfl) (fun w hSw => by (try dsimp only at hSw); go_simp; try rfl) (by assumption) ?_
                try simp only [Act.put, List.setIfInBounds_toArray, List.set_cons_zero, List.set_cons_succ]
                refine take_heldS (i := 53) (d := 165) rfl rfl (by kernel_rfl) (by kernel_rfl) (by kernel_rfl) (fun _ _ _ h => h) (by kernel_rfl) (fun w hSw => by (try dsimp only at hSw); go_simp; try rfl) (by assumption) ?_
                try simp only [Act.put, List.setIfInBounds_toArray, List.set_cons_zero, List.set_cons_succ]
                refine take_heldS (i := 54) (d := 166) (v := (.bool false)) rfl rfl (by kernel_rfl) (by kernel_rfl) (by kernel_rfl) (fun _ _ _ h => h) (by kernel_rfl) (fun w hSw => by (try dsimp only at hSw); go_simp; try rfl) (by assumption) ?_
                try simp only [Act.put, List.setIfInBounds_toArray, List.set_cons_zero, List.set_cons_succ]
                refine take_heldS (i := 55) (d := 167) (v := (.bool false)) rfl rfl (by kernel_rfl) (by kernel_rfl) (by kernel_rfl) (fun _ _ _ h => h) (by kernel_rfl) (fun w hSw => by (try dsimp only at hSw); go_simp; try rfl) (by assumption) ?_
                try simp only [Act.put, List.setIfInBounds_toArray, List.set_cons_zero, List.set_cons_succ]
                refine take_heldS (i := 56) (d := 168) (v := (.bool false)) rfl rfl (by kernel_rfl) (by kernel_rfl) (by kernel_rfl) (fun _ _ _ h => h) (by kernel_rfl) (fun w hSw => by (try dsimp only at hSw); go_simp; try rfl) (by assumption) ?_
                try simp only [Act.put, List.setIfInBounds_toArray, List.set_cons_zero, List.set_cons_succ]
                refine take_heldS (i := 57) (d := 169) (v := (.bool false)) rfl rfl (by kernel_rfl) (by kernel_rfl) (by kernel_rfl) (fun _ _ _ h => h) (by kernel_rfl) (fun w hSw => by (try dsimp only at hSw); go_simp; try rfl) (by assumption) ?_
                try simp only [Act.put, List.setIfInBounds_toArray, List.set_cons_zero, List.set_cons_succ]
                refine wpAnyH_done (by kernel_rfl) ?_ _
                clear y0 y1 y2
                go_wp2
                go_roundw
                case rel => exact ⟨k + 1, by go_num, by omega, HBD⟩
                case measure => simp [intOf]; omega
          · obtain rfl : pm = k := by omega
            have nn : ¬ (pm : Int) < (pm : Int) := by omega
            have HSW := Lib.hid (HS8.out.after HBW.out)
            have HCW : Hid (BytesAt wr wr.heap.size A n zs) := Lib.hid HSW.out.code
            clear HBW HT8 HP8
            go_wp2_with fail
            refine (at_any _ _ _ zs 0 _ HCW.out hn (by omega)).mono ?_
            rw [HAT.out]
            rintro e w9 ⟨rfl, rfl⟩
            obtain ⟨r, er⟩ : ∃ r, Int.tmod av 30 = r := ⟨_, rfl⟩
            have hr1 : 0 ≤ r := by rw [← er]; exact Int.tmod_nonneg _ hav.1
            have hr2 : r < 30 := by rw [← er]; exact Int.tmod_lt_of_pos _ (by omega)
            have e2 : IntKind.i64.wrap r = r := IntWalk.i64_in _ (by omega)
            have e3 : IntKind.i64.wrap (2 + r) = 2 + r := IntWalk.i64_in _ (by omega)
            have e4 : IntKind.i64.wrap (2 + r + 1) = 2 + r + 1 := IntWalk.i64_in _ (by omega)
            have e5 : IntKind.i64.wrap (mn * 100) = mn * 100 := IntWalk.i64_in _ (by omega)
            have HM3 := Lib.hid (HM1.out (2 + r) (by omega) (by omega))
            obtain ⟨B1, eB1⟩ : ∃ x, midB pl pm (2 + r) = x := ⟨_, rfl⟩
            have HB1 := Lib.hid eB1
            rw [eB1] at HM3
            clear eB1
            by_cases hmz : mn = 0
            · have z1 : (mn == 0) = true := by simpa using hmz
              have z2 : 0 < k7 := MZ.out.1 hmz
              have z3 : (0 : Int) < (k7 : Int) := by omega
              clear hmz
              have a0 := HSW.out.arch.cell (i := 0) (by omega)
              obtain ⟨t0, t1, t2, t3⟩ := HSW.out.thr.1
              go_wp2_with fail
              refine (iMid_any _ _ _ Z _ _ _ Ld _ _ _ _ (2 + r) _ HSW.out.zr (by omega) HSW.out.lr (by omega)).mono ?_
              rw [HPL.out, HPM.out, HB1.out]
              rintro e w10 ⟨rfl, hb10⟩
              have HS10 := Lib.hid (HSW.out.after hb10)
              clear hb10 a0 t0 t1 t2 t3
              cases B1
              · go_wp2
                go_ret
                exact ⟨rfl, HS10.out.below⟩
              · have HB2 := Lib.hid (HM3.out rfl)
                have a0 := HS10.out.arch.cell (i := 0) (by omega)
                obtain ⟨t0, t1, t2, t3⟩ := HS10.out.thr.1
                go_wp2_with fail
                refine (iMid_any _ _ _ Z _ _ _ Ld _ _ _ _ (2 + r + 1) _ HS10.out.zr (by omega) HS10.out.lr (by omega)).mono ?_
                rw [HPL.out, HPM.out, HB2.out]
                rintro e w12 ⟨rfl, hb12⟩
                have HS12 := Lib.hid (HS10.out.after hb12)
                clear hb12 a0 t0 t1 t2 t3
                go_wp2
                go_ret
                exact ⟨rfl, HS12.out.below⟩
            · have z1 : (mn == 0) = false := by simpa using hmz
              have z2 : ¬ 0 < k7 := fun h => hmz (MZ.out.2 h)
              have z3 : ¬ (0 : Int) < (k7 : Int) := by omega
              obtain rfl : k7 = 0 := by omega
              clear hmz
              have a0 := HSW.out.arch.cell (i := 0) (by omega)
              obtain ⟨t0, t1, t2, t3⟩ := HSW.out.thr.1
              go_wp2_with fail
              refine (iMid_any _ _ _ Z _ _ _ Ld _ _ _ _ (2 + r) _ HSW.out.zr (by omega) HSW.out.lr (by omega)).mono ?_
              rw [HPL.out, HPM.out, HB1.out]
              rintro e w10 ⟨rfl, hb10⟩
              have HS10 := Lib.hid (HSW.out.after hb10)
              clear hb10 a0 t0 t1 t2 t3
              cases B1
              · by_cases hlm : mn * 100 < me
                · go_wp2
                  go_ret
                  exact ⟨rfl, HS10.out.below⟩
                · have HV := Lib.hid (HM2.out (by omega))
                  have a0 := HS10.out.arch.cell (i := 0) (by omega)
                  obtain ⟨t0, t1, t2, t3⟩ := HS10.out.thr.1
                  go_wp2_with fail
                  refine (iMid_any _ _ _ Z _ _ _ Ld _ _ _ _ 100 _ HS10.out.zr (by omega) HS10.out.lr (by omega)).mono ?_
                  rw [HPL.out, HPM.out, HV.out]
                  rintro e w11 ⟨rfl, hb11⟩
                  have HS11 := Lib.hid (HS10.out.after hb11)
                  clear hb11 a0 t0 t1 t2 t3
                  go_wp2
                  go_ret
                  exact ⟨rfl, HS11.out.below⟩
              · have HB2 := Lib.hid (HM3.out rfl)
                have a0 := HS10.out.arch.cell (i := 0) (by omega)
                obtain ⟨t0, t1, t2, t3⟩ := HS10.out.thr.1
                go_wp2_with fail
                refine (iMid_any _ _ _ Z _ _ _ Ld _ _ _ _ (2 + r + 1) _ HS10.out.zr (by omega) HS10.out.lr (by omega)).mono ?_
                rw [HPL.out, HPM.out, HB2.out]
                rintro e w12 ⟨rfl, hb12⟩
                have HS12 := Lib.hid (HS10.out.after hb12)
                clear hb12 a0 t0 t1 t2 t3
                by_cases hlm : mn * 100 < me
                · go_wp2
                  go_ret
                  exact ⟨rfl, HS12.out.below⟩
                · have HV := Lib.hid (HM2.out (by omega))
                  have a0 := HS12.out.arch.cell (i := 0) (by omega)
                  obtain ⟨t0, t1, t2, t3⟩ := HS12.out.thr.1
                  go_wp2_with fail
                  refine (iMid_any _ _ _ Z _ _ _ Ld _ _ _ _ 100 _ HS12.out.zr (by omega) HS12.out.lr (by omega)).mono ?_
                  rw [HPL.out, HPM.out, HV.out]
                  rintro e w13 ⟨rfl, hb13⟩
                  have HS13 := Lib.hid (HS12.out.after hb13)
                  clear hb13 a0 t0 t1 t2 t3
                  go_wp2
                  go_ret
                  exact ⟨rfl, HS13.out.below⟩
end Go.Proofs.Ytdjhiegolojoaaa
end
