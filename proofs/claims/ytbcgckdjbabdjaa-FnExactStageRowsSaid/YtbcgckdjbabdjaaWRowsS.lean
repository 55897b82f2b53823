/-
  Contract: RowsOf in the reference.
-/
import Derived.Test.YtbcgckdjbabdjaaWRowsFor
import Derived.Test.YtbcgckdjbabdjaaWL07
import Derived.BigRegion
namespace Go.Proofs.Ytbcgckdjbabdjaa
open Go.RowKit
set_option linter.unusedSimpArgs false

/-- How many rows RowsOf returns, and which. -/
def rowsN (zs : List Int) (n : Nat) (ls : List Int) (q : Nat) : Nat := if loadsB zs n ls q = true then n * 2 + 1 else 0
def rowsZ (zs : List Int) (n : Nat) (ls : List Int) (q : Nat) : List Int := if loadsB zs n ls q = true then rowsL zs (leftW zs ls q) (leftM zs ls q) n else []
section
variable {zs : List Int} {n : Nat} {ls : List Int} {q : Nat}
theorem rows_t (h : loadsB zs n ls q = true) : rowsN zs n ls q = n * 2 + 1 ∧ rowsZ zs n ls q = rowsL zs (leftW zs ls q) (leftM zs ls q) n := by simp [rowsN, rowsZ, h]
theorem rows_f (h : loadsB zs n ls q = false) : rowsN zs n ls q = 0 ∧ rowsZ zs n ls q = [] := by simp [rowsN, rowsZ, h]
theorem wmok_left (h : loadsB zs n ls q = true) : WMok (leftW zs ls q) (leftM zs ls q) n := by
  obtain ⟨hA, hq, hl⟩ := loadsB_out h
  have hn := (archB_out hA).1
  intro k hk
  have h1 := leftW_bd zs hl hq k
  have h2 := leftM_bd zs hl hq k
  omega
end
/-- A row of ints that stays. -/
theorem OwnR.rowInts {w : World} {base : Nat} {E : TypeId} {A : Option Addr} {n c : Nat} {xs : List Int} (h : OwnR w base E 1 (.slice A n c) n xs) (hn : 0 < n) : ∃ g, A = some ⟨g, 0, none⟩ ∧ base ≤ g ∧ RowF w g E n (Go.Proofs.Ytbcgckdjbabdjaa.ints xs) := by
  rcases h.form with ⟨_, h2, _⟩ | ⟨g, cap, e, h2, _, hr⟩
  · omega
  · simp at e
    rw [Nat.mul_one] at hr
    exact ⟨g, e.1, h2, hr⟩
/-- The loop's state. -/
structure RSp (w wr : World) (va : Value) (g6 g7 : Nat) (zs ls : List Int) (q n k : Nat) (v5 : Value) : Prop where
  arch : RowF wr w.heap.size 31 1 (fun _ => va)
  ws : RowF wr g6 3 n (ints (lwL zs ls q n))
  ms : RowF wr g7 3 n (ints (lmL zs ls q n))
  own : OwnR wr (w.heap.size + 1) 92 4 v5 (k * 2) (rowTo zs (leftW zs ls q) (leftM zs ls q) k)
  below : Below w.heap.size w wr
theorem rowF1 (w : World) (u : Value) (T : TypeId) : RowF (w.alloc (.cells #[u] T)) w.heap.size T 1 (fun _ => u) := RowF.of_row (World.rowIs_alloc w #[u] T (fun _ => u) (fun i hi => by simp at hi; subst hi; rfl))
theorem rowC_new2 (w : World) (a b : Int) (T : TypeId) : RowF (w.alloc (.cells #[.int .i64 a, .int .i64 b] T)) w.heap.size T 2 (ints [a, b]) :=
  RowF.of_row (World.rowIs_alloc w #[.int .i64 a, .int .i64 b] T _ (fun j hj => by simp at hj; match j, hj with | 0, _ => rfl | 1, _ => rfl))

set_option maxRecDepth 100000 in
set_option maxHeartbeats 6400000 in
theorem sRowsOf_any (A : Option Addr) (n c : Nat) (zs : List Int) (B : Option Addr) (q d : Nat) (ls : List Int) (w : World) (h : RecsAt w w.heap.size 4 A n zs) (hn : n ≤ 1048576) (hl : RecsAt w w.heap.size 3 B q ls) (hq : q ≤ 1048576) :
    Calls Try.prog 99 #[.agg #[.slice A n c], .slice B q d] w (RowsPost w (rowsN zs n ls q) (rowsZ zs n ls q)) := by
  have hs0 : (w.alloc (.cells #[.slice A n c] 31)).heap.size = w.heap.size + 1 := World.size_alloc _ _
  have b0 : Below w.heap.size w ((w.alloc (.cells #[.slice A n c] 31)).alloc (.cells #[] 92)) := ((Below.refl _ _).alloc (Nat.le_refl _) _).alloc (by simp) _
  have h1 := h.after b0
  have l1 := hl.after b0
  have r0 := (rowF1 w (.slice A n c) 31).alloc (.cells #[] 92)
  have a0 := r0.cell (i := 0) (by omega)
  have o0 : OwnR ((w.alloc (.cells #[.slice A n c] 31)).alloc (.cells #[] 92)) (w.heap.size + 1) 92 4 (.slice (some ⟨w.heap.size + 1, 0, none⟩) 0 0) 0 [] := by
    have h := OwnR.new (w.alloc (.cells #[.slice A n c] 31)) 92 4
    rw [hs0] at h
    exact h
  have HB0 := Lib.hid b0
  have HO0 := Lib.hid o0
  have HR0 := Lib.hid r0
  cases hL : loadsB zs n ls q
  · have HF := Lib.hid (rows_f hL)
    clear b0 o0 r0 hs0 h hl
    go_enter Try.func99, Try.ntmps99
    go_wp2_with fail
    refine (sLoadsOk_any _ _ _ zs _ _ _ ls _ h1 hn l1 hq).mono ?_
    rw [hL]
    rintro e w1 ⟨rfl, hb1⟩
    have HO1 := Lib.hid (HO0.out.below hb1)
    have HB1 := Lib.hid (HB0.out.trans (hb1.mono HB0.out.size))
    clear hb1
    go_wp2
    go_ret
    exact ⟨_, rfl, by rw [HF.out.1, HF.out.2]; exact HO1.out.weaken (by omega), HB1.out⟩
  · have HT := Lib.hid (rows_t hL)
    have hA := (loadsB_out hL).1
    have hn8 := (archB_out hA).1
    have hwm := wmok_left hL
    have HJB := Lib.hid (fun k (hk : k < n) => jBd_of hA hwm hk)
    have HOK := Lib.hid (fun i (hi : i < n * 2 + 1) => rowsL_ok hA hwm i hi)
    obtain ⟨b, off, rfl, hbB, hcell⟩ := h.2 (by omega)
    have HC := Lib.hid (fun j (hj : j < n) => jtCells hcell hj)
    clear b0 o0 r0 hs0 h hl hcell hA hwm
    go_enter Try.func99, Try.ntmps99
    go_wp2_with fail
    refine (sLoadsOk_any _ _ _ zs _ _ _ ls _ h1 hn l1 hq).mono ?_
    rw [hL]
    rintro e w1 ⟨rfl, hb1⟩
    have HO1 := Lib.hid (HO0.out.below hb1)
    have HB1 := Lib.hid (HB0.out.trans (hb1.mono HB0.out.size))
    have HR1 := Lib.hid (HR0.out.after hb1)
    have h2 := h1.after hb1
    have l2 := l1.after hb1
    have a1 := HR1.out.cell (i := 0) (by omega)
    clear hb1 h1 l1 HO0 HB0 HR0 a0
    go_wp2_with fail
    refine (sLeftO_any _ _ _ zs _ _ _ ls _ h2 l2 hL).mono ?_
    rintro e W2 ⟨A6, c6, A7, c7, rfl, hi6, hi7, hb2⟩
    obtain ⟨g6, rfl, hg6, hr6⟩ := hi6.rowInts (by omega)
    obtain ⟨g7, rfl, hg7, hr7⟩ := hi7.rowInts (by omega)
    have HST : Hid (RSp w W2 (.slice (some ⟨b, off, none⟩) n c) g6 g7 zs ls q n 0 (.slice (some ⟨w.heap.size + 1, 0, none⟩) 0 0)) := ⟨HR1.out.after hb2, hr6, hr7, HO1.out.below hb2, HB1.out.trans (hb2.mono HB1.out.size)⟩
    clear hi6 hi7 hb2 h2 l2 a1 hr6 hr7 HO1 HB1 HR1
    go_wp2
    go_loopw [5, 8] (fun v5 v8 wr => ∃ (k : Nat), k ≤ n ∧ v8 = .int .i64 k ∧ Hid (RSp w wr (.slice (some ⟨b, off, none⟩) n c) g6 g7 zs ls q n k v5)) (fun _ v8 _ => n - (intOf v8).toNat)
    case atStart => exact ⟨0, Nat.zero_le _, rfl, HST⟩
    case round =>
      clear HST
      obtain ⟨k, hk, rfl, HR⟩ := hrel
      have hz := HR.out.below.size
      have a0 : wr.cell? ⟨w.heap.size, 0, none⟩ = some (.slice (some ⟨b, off, none⟩) n c) := HR.out.arch.cell (by omega)
      have hal := HR.out.arch.lt
      by_cases hlt : k < n
      · have ki : (k : Int) < (n : Int) := by omega
        have k0 : (0 : Int) ≤ (k : Int) := by omega
        have hq := HC.out k hlt
        have x0 : wr.cell? ⟨b, off + k * 4, none⟩ = some (.int .i64 (nth zs (k * 4))) := (HR.out.below.cell (by exact hbB)).trans hq.1
        have x1 : wr.cell? ⟨b, off + k * 4 + 1, none⟩ = some (.int .i64 (nth zs (k * 4 + 1))) := (HR.out.below.cell (by exact hbB)).trans hq.2.1
        have x2 : wr.cell? ⟨b, off + k * 4 + 2, none⟩ = some (.int .i64 (nth zs (k * 4 + 2))) := (HR.out.below.cell (by exact hbB)).trans hq.2.2.1
        have x3 : wr.cell? ⟨b, off + k * 4 + 3, none⟩ = some (.int .i64 (nth zs (k * 4 + 3))) := (HR.out.below.cell (by exact hbB)).trans hq.2.2.2
        have HX : Hid (rowTo zs (leftW zs ls q) (leftM zs ls q) k ++ [nth zs (k * 4 + 1), -nth zs (k * 4), 1, leftM zs ls q k - nth zs (k * 4) * leftW zs ls q k, -nth zs (k * 4 + 3), nth zs (k * 4 + 2), -1, nth zs (k * 4 + 2) * leftW zs ls q k - leftM zs ls q k] = rowTo zs (leftW zs ls q) (leftM zs ls q) (k + 1)) := rfl
        obtain ⟨e1, e2, e3, e4, e5, e6⟩ := jWraps (HJB.out k hlt)
        have z6 : wr.cell? ⟨g6, k, none⟩ = some (.int .i64 (leftW zs ls q k)) := by
          have h := HR.out.ws.cell hlt
          rw [ints_def, lwL_nth hlt] at h
          exact h
        have z7 : wr.cell? ⟨g7, k, none⟩ = some (.int .i64 (leftM zs ls q k)) := by
          have h := HR.out.ms.cell hlt
          rw [ints_def, lmL_nth hlt] at h
          exact h
        have HW6 := Lib.hid (lwL_nth (zs := zs) (ls := ls) (q := q) hlt)
        have HM7 := Lib.hid (lmL_nth (zs := zs) (ls := ls) (q := q) hlt)
        have g6l := HR.out.ws.lt
        have g7l := HR.out.ms.lt
        have HO := Lib.hid HR.out.own
        have HAr := Lib.hid HR.out.arch
        have HWs := Lib.hid HR.out.ws
        have HMs := Lib.hid HR.out.ms
        have HBl := Lib.hid HR.out.below
        clear hq HR
        generalize leftW zs ls q k = lw at *
        generalize leftM zs ls q k = lm at *
        generalize nth zs (k * 4) = ix at *
        generalize nth zs (k * 4 + 1) = iy at *
        generalize nth zs (k * 4 + 2) = ox at *
        generalize nth zs (k * 4 + 3) = oy at *
        have hbl : b < wr.heap.size := by omega
        have HU := Lib.hid (show Below (w.heap.size + 1) wr ((wr.alloc (.cells #[.int .i64 ix, .int .i64 iy] 88)).alloc (.cells #[.int .i64 ox, .int .i64 oy] 88)) from ((Below.refl (w.heap.size + 1) wr).alloc (by omega) _).alloc (by simp; omega) _)
        have p0 := (rowC_new2 wr ix iy 88).alloc (.cells #[.int .i64 ox, .int .i64 oy] 88)
        have p1 : RowF ((wr.alloc (.cells #[.int .i64 ix, .int .i64 iy] 88)).alloc (.cells #[.int .i64 ox, .int .i64 oy] 88)) (wr.heap.size + 1) 88 2 (ints [ox, oy]) := by
          have h := rowC_new2 (wr.alloc (.cells #[.int .i64 ix, .int .i64 iy] 88)) ox oy 88
          rw [World.size_alloc] at h
          exact h
        have P0 := Lib.hid p0
        have P1 := Lib.hid p1
        have HOA := Lib.hid ((HO.out.alloc (.cells #[.int .i64 ix, .int .i64 iy] 88)).alloc (.cells #[.int .i64 ox, .int .i64 oy] 88))
        have HAA := Lib.hid ((HAr.out.alloc (.cells #[.int .i64 ix, .int .i64 iy] 88)).alloc (.cells #[.int .i64 ox, .int .i64 oy] 88))
        have HWA := Lib.hid ((HWs.out.alloc (.cells #[.int .i64 ix, .int .i64 iy] 88)).alloc (.cells #[.int .i64 ox, .int .i64 oy] 88))
        have HMA := Lib.hid ((HMs.out.alloc (.cells #[.int .i64 ix, .int .i64 iy] 88)).alloc (.cells #[.int .i64 ox, .int .i64 oy] 88))
        have HBA := Lib.hid (show Below w.heap.size w ((wr.alloc (.cells #[.int .i64 ix, .int .i64 iy] 88)).alloc (.cells #[.int .i64 ox, .int .i64 oy] 88)) from (HBl.out.alloc hz _).alloc (by simp; omega) _)
        have hww : wr.heap.size + 2 = ((wr.alloc (.cells #[.int .i64 ix, .int .i64 iy] 88)).alloc (.cells #[.int .i64 ox, .int .i64 oy] 88)).heap.size := by simp
        have HWW := Lib.hid hww
        clear p0 p1 hww
        have HZ6 := Lib.hid ((show ∀ g i, g < wr.heap.size → ((wr.alloc (.cells #[.int .i64 ix, .int .i64 iy] 88)).alloc (.cells #[.int .i64 ox, .int .i64 oy] 88)).cell? ⟨g, i, none⟩ = wr.cell? ⟨g, i, none⟩ from fun g i hg => World.cell?_of_block (a := ⟨g, i, none⟩) (((Below.refl _ _).alloc (Nat.le_refl _) _).alloc (by simp) _ |>.block g hg)) g6 k g6l |>.trans z6)
        have HZ7 := Lib.hid ((show ∀ g i, g < wr.heap.size → ((wr.alloc (.cells #[.int .i64 ix, .int .i64 iy] 88)).alloc (.cells #[.int .i64 ox, .int .i64 oy] 88)).cell? ⟨g, i, none⟩ = wr.cell? ⟨g, i, none⟩ from fun g i hg => World.cell?_of_block (a := ⟨g, i, none⟩) (((Below.refl _ _).alloc (Nat.le_refl _) _).alloc (by simp) _ |>.block g hg)) g7 k g7l |>.trans z7)
        clear z6 z7
        go_upto_region 10 with fail
        generalize hwx : ((wr.alloc (.cells #[.int .i64 ix, .int .i64 iy] 88)).alloc (.cells #[.int .i64 ox, .int .i64 oy] 88)) = wx at *
        have z6 := HZ6.out
        have z7 := HZ7.out
        have c0 := P0.out.cell (i := 0) (by omega)
        have c1 := P0.out.cell (i := 1) (by omega)
        have d0 := P1.out.cell (i := 0) (by omega)
        have d1 := P1.out.cell (i := 1) (by omega)
        simp only [ints_def] at c0 c1 d0 d1
        have hwz := HWW.out
        clear x0 x1 x2 x3 a0 hwx
        refine wp_region_held_drew (S := fun w' => (w'.cell? ⟨wr.heap.size, 0, none⟩ = some (.int .i64 ix) ∧ w'.cell? ⟨wr.heap.size, 1, none⟩ = some (.int .i64 iy)) ∧ (w'.cell? ⟨wr.heap.size + 1, 0, none⟩ = some (.int .i64 ox) ∧ w'.cell? ⟨wr.heap.size + 1, 1, none⟩ = some (.int .i64 oy)) ∧ w'.cell? ⟨g6, k, none⟩ = some (.int .i64 lw) ∧ w'.cell? ⟨g7, k, none⟩ = some (.int .i64 lm)) (by kernel_rfl) (by exact ⟨⟨c0, c1⟩, ⟨d0, d1⟩, z6, z7⟩) (fun hHeld => ?_)
        refine take_heldS (i := 0) (d := 43) rfl rfl (by kernel_rfl) (by kernel_rfl) (by kernel_rfl) (fun _ _ _ h => h) (by kernel_rfl) (fun w hSw => by (try dsimp only at hSw); go_simp; try rfl) (by assumption) ?_
        try simp only [Act.put, List.setIfInBounds_toArray, List.set_cons_zero, List.set_cons_succ]
        refine take_heldS (i := 1) (d := 44) rfl rfl (by kernel_rfl) (by kernel_rfl) (by kernel_rfl) (fun _ _ _ h => h) (by kernel_rfl) (fun w hSw => by (try dsimp only at hSw); go_simp; try rfl) (by assumption) ?_
        try simp only [Act.put, List.setIfInBounds_toArray, List.set_cons_zero, List.set_cons_succ]
        refine take_heldS (i := 2) (d := 45) rfl rfl (by kernel_rfl) (by kernel_rfl) (by kernel_rfl) (fun _ _ _ h => h) (by kernel_rfl) (fun w hSw => by (try dsimp only at hSw); go_simp; try rfl) (by assumption) ?_
        try simp only [Act.put, List.setIfInBounds_toArray, List.set_cons_zero, List.set_cons_succ]
        refine take_heldS (i := 3) (d := 46) rfl rfl (by kernel_rfl) (by kernel_rfl) (by kernel_rfl) (fun _ _ _ h => h) (by kernel_rfl) (fun w hSw => by (try dsimp only at hSw); go_simp; try rfl) (by assumption) ?_
        try simp only [Act.put, List.setIfInBounds_toArray, List.set_cons_zero, List.set_cons_succ]
        refine take_heldS (i := 4) (d := 47) rfl rfl (by kernel_rfl) (by kernel_rfl) (by kernel_rfl) (fun _ _ _ h => h) (by kernel_rfl) (fun w hSw => by (try dsimp only at hSw); go_simp; try rfl) (by assumption) ?_
        try simp only [Act.put, List.setIfInBounds_toArray, List.set_cons_zero, List.set_cons_succ]
        refine take_heldS (i := 5) (d := 48) rfl rfl (by kernel_rfl) (by kernel_rfl) (by kernel_rfl) (fun _ _ _ h => h) (by kernel_rfl) (fun w hSw => by (try dsimp only at hSw); go_simp; try rfl) (by assumption) ?_
        try simp only [Act.put, List.setIfInBounds_toArray, List.set_cons_zero, List.set_cons_succ]
        refine take_heldS (i := 6) (d := 49) rfl rfl (by kernel_rfl) (by kernel_rfl) (by kernel_rfl) (fun _ _ _ h => h) (by kernel_rfl) (fun w hSw => by (try dsimp only at hSw); go_simp; try rfl) (by assumption) ?_
        try simp only [Act.put, List.setIfInBounds_toArray, List.set_cons_zero, List.set_cons_succ]
        refine take_heldS (i := 7) (d := 50) rfl rfl (by kernel_rfl) (by kernel_rfl) (by kernel_rfl) (fun _ _ _ h => h) (by kernel_rfl) (fun w hSw => by (try dsimp only at hSw); go_simp; try rfl) (by assumption) ?_
        try simp only [Act.put, List.setIfInBounds_toArray, List.set_cons_zero, List.set_cons_succ]
        refine take_heldS (i := 8) (d := 51) rfl rfl (by kernel_rfl) (by kernel_rfl) (by kernel_rfl) (fun _ _ _ h => h) (by kernel_rfl) (fun w hSw => by (try dsimp only at hSw); go_simp; try rfl) (by assumption) ?_
        try simp only [Act.put, List.setIfInBounds_toArray, List.set_cons_zero, List.set_cons_succ]
        refine take_heldS (i := 9) (d := 52) rfl rfl (by kernel_rfl) (by kernel_rfl) (by kernel_rfl) (fun _ _ _ h => h) (by kernel_rfl) (fun w hSw => by (try dsimp only at hSw); go_simp; try rfl) (by assumption) ?_
        try simp only [Act.put, List.setIfInBounds_toArray, List.set_cons_zero, List.set_cons_succ]
        refine take_heldS (i := 10) (d := 53) rfl rfl (by kernel_rfl) (by kernel_rfl) (by kernel_rfl) (fun _ _ _ h => h) (by kernel_rfl) (fun w hSw => by (try dsimp only at hSw); go_simp; try rfl) (by assumption) ?_
        try simp only [Act.put, List.setIfInBounds_toArray, List.set_cons_zero, List.set_cons_succ]
        refine take_heldS (i := 11) (d := 54) rfl rfl (by kernel_rfl) (by kernel_rfl) (by kernel_rfl) (fun _ _ _ h => h) (by kernel_rfl) (fun w hSw => by (try dsimp only at hSw); go_simp; try rfl) (by assumption) ?_
        try simp only [Act.put, List.setIfInBounds_toArray, List.set_cons_zero, List.set_cons_succ]
        refine take_heldS (i := 12) (d := 55) rfl rfl (by kernel_rfl) (by kernel_rfl) (by kernel_rfl) (fun _ _ _ h => h) (by kernel_rfl) (fun w hSw => by (try dsimp only at hSw); go_simp; try rfl) (by assumption) ?_
        try simp only [Act.put, List.setIfInBounds_toArray, List.set_cons_zero, List.set_cons_succ]
        refine take_heldS (i := 13) (d := 56) rfl rfl (by kernel_rfl) (by kernel_rfl) (by kernel_rfl) (fun _ _ _ h => h) (by kernel_rfl) (fun w hSw => by (try dsimp only at hSw); go_simp; try rfl) (by assumption) ?_
        try simp only [Act.put, List.setIfInBounds_toArray, List.set_cons_zero, List.set_cons_succ]
        refine take_heldS (i := 14) (d := 57) rfl rfl (by kernel_rfl) (by kernel_rfl) (by kernel_rfl) (fun _ _ _ h => h) (by kernel_rfl) (fun w hSw => by (try dsimp only at hSw); go_simp; try rfl) (by assumption) ?_
        try simp only [Act.put, List.setIfInBounds_toArray, List.set_cons_zero, List.set_cons_succ]
        refine take_heldS (i := 15) (d := 58) rfl rfl (by kernel_rfl) (by kernel_rfl) (by kernel_rfl) (fun _ _ _ h => h) (by kernel_rfl) (fun w hSw => by (try dsimp only at hSw); go_simp; try rfl) (by assumption) ?_
        try simp only [Act.put, List.setIfInBounds_toArray, List.set_cons_zero, List.set_cons_succ]
        refine take_heldS (i := 16) (d := 59) rfl rfl (by kernel_rfl) (by kernel_rfl) (by kernel_rfl) (fun _ _ _ h => h) (by kernel_rfl) (fun w hSw => by (try dsimp only at hSw); go_simp; try rfl) (by assumption) ?_
        try simp only [Act.put, List.setIfInBounds_toArray, List.set_cons_zero, List.set_cons_succ]
        refine take_heldS (i := 17) (d := 60) rfl rfl (by kernel_rfl) (by kernel_rfl) (by kernel_rfl) (fun _ _ _ h => h) (by kernel_rfl) (fun w hSw => by (try dsimp only at hSw); go_simp; try rfl) (by assumption) ?_
        try simp only [Act.put, List.setIfInBounds_toArray, List.set_cons_zero, List.set_cons_succ]
        refine take_heldS (i := 18) (d := 61) rfl rfl (by kernel_rfl) (by kernel_rfl) (by kernel_rfl) (fun _ _ _ h => h) (by kernel_rfl) (fun w hSw => by (try dsimp only at hSw); go_simp; try rfl) (by assumption) ?_
        try simp only [Act.put, List.setIfInBounds_toArray, List.set_cons_zero, List.set_cons_succ]
        refine take_heldS (i := 19) (d := 62) rfl rfl (by kernel_rfl) (by kernel_rfl) (by kernel_rfl) (fun _ _ _ h => h) (by kernel_rfl) (fun w hSw => by (try dsimp only at hSw); go_simp; try rfl) (by assumption) ?_
        try simp only [Act.put, List.setIfInBounds_toArray, List.set_cons_zero, List.set_cons_succ]
        refine take_heldS (i := 20) (d := 63) rfl rfl (by kernel_rfl) (by kernel_rfl) (by kernel_rfl) (fun _ _ _ h => h) (by kernel_rfl) (fun w hSw => by (try dsimp only at hSw); go_simp; try rfl) (by assumption) ?_
        try simp only [Act.put, List.setIfInBounds_toArray, List.set_cons_zero, List.set_cons_succ]
        refine take_heldS (i := 21) (d := 64) rfl rfl (by kernel_rfl) (by kernel_rfl) (by kernel_rfl) (fun _ _ _ h => h) (by kernel_rfl) (fun w hSw => by (try dsimp only at hSw); go_simp; try rfl) (by assumption) ?_
        try simp only [Act.put, List.setIfInBounds_toArray, List.set_cons_zero, List.set_cons_succ]
        refine take_heldS (i := 22) (d := 65) rfl rfl (by kernel_rfl) (by kernel_rfl) (by kernel_rfl) (fun _ _ _ h => h) (by kernel_rfl) (fun w hSw => by (try dsimp only at hSw); go_simp; try rfl) (by assumption) ?_
        try simp only [Act.put, List.setIfInBounds_toArray, List.set_cons_zero, List.set_cons_succ]
        refine take_heldS (i := 23) (d := 66) rfl rfl (by kernel_rfl) (by kernel_rfl) (by kernel_rfl) (fun _ _ _ h => h) (by kernel_rfl) (fun w hSw => by (try dsimp only at hSw); go_simp; try rfl) (by assumption) ?_
        try simp only [Act.put, List.setIfInBounds_toArray, List.set_cons_zero, List.set_cons_succ]
        refine take_heldS (i := 24) (d := 67) rfl rfl (by kernel_rfl) (by kernel_rfl) (by kernel_rfl) (fun _ _ _ h => h) (by kernel_rfl) (fun w hSw => by (try dsimp only at hSw); go_simp; try rfl) (by assumption) ?_
        try simp only [Act.put, List.setIfInBounds_toArray, List.set_cons_zero, List.set_cons_succ]
        refine take_heldS (i := 25) (d := 68) rfl rfl (by kernel_rfl) (by kernel_rfl) (by kernel_rfl) (fun _ _ _ h => h) (by kernel_rfl) (fun w hSw => by (try dsimp only at hSw); go_simp; try rfl) (by assumption) ?_
        try simp only [Act.put, List.setIfInBounds_toArray, List.set_cons_zero, List.set_cons_succ]
        refine take_heldS (i := 26) (d := 69) rfl rfl (by kernel_rfl) (by kernel_rfl) (by kernel_rfl) (fun _ _ _ h => h) (by kernel_rfl) (fun w hSw => by (try dsimp only at hSw); go_simp; try rfl) (by assumption) ?_
        try simp only [Act.put, List.setIfInBounds_toArray, List.set_cons_zero, List.set_cons_succ]
        refine take_heldS (i := 27) (d := 70) rfl rfl (by kernel_rfl) (by kernel_rfl) (by kernel_rfl) (fun _ _ _ h => h) (by kernel_rfl) (fun w hSw => by (try dsimp only at hSw); go_simp; try rfl) (by assumption) ?_
        try simp only [Act.put, List.setIfInBounds_toArray, List.set_cons_zero, List.set_cons_succ]
        refine take_heldS (i := 28) (d := 71) rfl rfl (by kernel_rfl) (by kernel_rfl) (by kernel_rfl) (fun _ _ _ h => h) (by kernel_rfl) (fun w hSw => by (try dsimp only at hSw); go_simp; try rfl) (by assumption) ?_
        try simp only [Act.put, List.setIfInBounds_toArray, List.set_cons_zero, List.set_cons_succ]
        refine take_heldS (i := 29) (d := 72) rfl rfl (by kernel_rfl) (by kernel_rfl) (by kernel_rfl) (fun _ _ _ h => h) (by kernel_rfl) (fun w hSw => by (try dsimp only at hSw); go_simp; try rfl) (by assumption) ?_
        try simp only [Act.put, List.setIfInBounds_toArray, List.set_cons_zero, List.set_cons_succ]
        refine take_heldS (i := 30) (d := 73) rfl rfl (by kernel_rfl) (by kernel_rfl) (by kernel_rfl) (fun _ _ _ h => h) (by kernel_rfl) (fun w hSw => by (try dsimp only at hSw); go_simp; try rfl) (by assumption) ?_
        try simp only [Act.put, List.setIfInBounds_toArray, List.set_cons_zero, List.set_cons_succ]
        refine take_heldS (i := 31) (d := 74) rfl rfl (by kernel_rfl) (by kernel_rfl) (by kernel_rfl) (fun _ _ _ h => h) (by kernel_rfl) (fun w hSw => by (try dsimp only at hSw); go_simp; try rfl) (by assumption) ?_
        try simp only [Act.put, List.setIfInBounds_toArray, List.set_cons_zero, List.set_cons_succ]
        refine take_heldS (i := 32) (d := 75) rfl rfl (by kernel_rfl) (by kernel_rfl) (by kernel_rfl) (fun _ _ _ h => h) (by kernel_rfl) (fun w hSw => by (try dsimp only at hSw); go_simp; try rfl) (by assumption) ?_
        try simp only [Act.put, List.setIfInBounds_toArray, List.set_cons_zero, List.set_cons_succ]
        refine take_heldS (i := 33) (d := 76) rfl rfl (by kernel_rfl) (by kernel_rfl) (by kernel_rfl) (fun _ _ _ h => h) (by kernel_rfl) (fun w hSw => by (try dsimp only at hSw); go_simp; try rfl) (by assumption) ?_
        try simp only [Act.put, List.setIfInBounds_toArray, List.set_cons_zero, List.set_cons_succ]
        refine take_heldS (i := 34) (d := 77) rfl rfl (by kernel_rfl) (by kernel_rfl) (by kernel_rfl) (fun _ _ _ h => h) (by kernel_rfl) (fun w hSw => by (try dsimp only at hSw); go_simp; try rfl) (by assumption) ?_
        try simp only [Act.put, List.setIfInBounds_toArray, List.set_cons_zero, List.set_cons_succ]
        refine take_heldS (i := 35) (d := 78) rfl rfl (by kernel_rfl) (by kernel_rfl) (by kernel_rfl) (fun _ _ _ h => h) (by kernel_rfl) (fun w hSw => by (try dsimp only at hSw); go_simp; try rfl) (by assumption) ?_
        try simp only [Act.put, List.setIfInBounds_toArray, List.set_cons_zero, List.set_cons_succ]
        refine take_heldS (i := 36) (d := 79) rfl rfl (by kernel_rfl) (by kernel_rfl) (by kernel_rfl) (fun _ _ _ h => h) (by kernel_rfl) (fun w hSw => by (try dsimp only at hSw); go_simp; try rfl) (by assumption) ?_
        try simp only [Act.put, List.setIfInBounds_toArray, List.set_cons_zero, List.set_cons_succ]
        refine wpAnyH_ready (rs := [37]) (by kernel_rfl) (by simp) ?_
        refine AllReadyH.cons rfl (fun K hK => ?_) AllReadyH.nil
        go_simp
        skip
        refine hK.out _ _ (by exact ⟨⟨(P0.out.drew.alloc _).cell (i := 0) (by omega), (P0.out.drew.alloc _).cell (i := 1) (by omega)⟩, ⟨(P1.out.drew.alloc _).cell (i := 0) (by omega), (P1.out.drew.alloc _).cell (i := 1) (by omega)⟩, (World.cell?_alloc_lt wx.drew _ ⟨g6, k, none⟩ (by simp; omega)).trans z6, (World.cell?_alloc_lt wx.drew _ ⟨g7, k, none⟩ (by simp; omega)).trans z7⟩) (fun hHeld => ?_)
        clear hK K
        try simp only [Act.put, List.setIfInBounds_toArray, List.set_cons_zero, List.set_cons_succ]
        refine wpAnyH_ready (rs := [38]) (by kernel_rfl) (by simp) ?_
        refine AllReadyH.cons rfl (fun K hK => ?_) AllReadyH.nil
        refine step_appRT rfl (.tmp 43) (.tmp 80) 27 rfl (w.heap.size + 1) 92 4 32 #[.int .i64 0, .int .i64 0, .int .i64 0, .int .i64 0] Try.underlying27 infoRow rfl (by decide) (by decide) _ (k * 2) _ rfl (by exact HOA.out.drewN 1 |>.alloc _) wx.heap.size 2 2 [iy, -ix, 1, lm - ix * lw, -oy, ox, -1, ox * lw - lm] rfl rfl (by exact fun i hi => (rowC_new8 wx.drew iy (-ix) 1 (lm - ix * lw) (-oy) ox (-1) (ox * lw - lm) 92).cell hi) (by omega) (w.heap.size + 1) wr (by exact (HU.out.drew).alloc (by simp; omega) _) (by omega) (by simp; omega) _ HX.out (by omega) ?_; intro g' cap' w3 hown3 hb3 hrow3; have y6 : w3.cell? ⟨g6, k, none⟩ = some (.int .i64 lw) := (by have h := (hrow3 _ _ _ _ (by decide) (HWA.out.drew.alloc _)).cell hlt; rw [ints_def, HW6.out] at h; exact h); have y7 : w3.cell? ⟨g7, k, none⟩ = some (.int .i64 lm) := (by have h := (hrow3 _ _ _ _ (by decide) (HMA.out.drew.alloc _)).cell hlt; rw [ints_def, HM7.out] at h; exact h)
        refine hK.out _ _ (by exact ⟨⟨(hrow3 _ _ _ _ (by decide) (P0.out.drew.alloc _)).cell (i := 0) (by omega), (hrow3 _ _ _ _ (by decide) (P0.out.drew.alloc _)).cell (i := 1) (by omega)⟩, ⟨(hrow3 _ _ _ _ (by decide) (P1.out.drew.alloc _)).cell (i := 0) (by omega), (hrow3 _ _ _ _ (by decide) (P1.out.drew.alloc _)).cell (i := 1) (by omega)⟩, y6, y7⟩) (fun hHeld => ?_)
        clear hK K
        try simp only [Act.put, List.setIfInBounds_toArray, List.set_cons_zero, List.set_cons_succ]
        refine take_heldS (i := 39) (d := 5) rfl rfl (by kernel_rfl) (by kernel_rfl) (by kernel_rfl) (fun _ _ _ h => h) (by kernel_rfl) (fun w hSw => by (try dsimp only at hSw); go_simp; try rfl) (by assumption) ?_
        try simp only [Act.put, List.setIfInBounds_toArray, List.set_cons_zero, List.set_cons_succ]
        refine wpAnyH_done (by kernel_rfl) ?_ _
        have HR3 : Hid (RSp w w3 (.slice (some ⟨b, off, none⟩) n c) g6 g7 zs ls q n (k + 1) (.slice (some ⟨g', 0, none⟩) (k * 2 + 2) cap')) :=
          ⟨HAr.out.below hb3 (by omega), hrow3 _ _ _ _ (by decide) (HWA.out.drew.alloc _), hrow3 _ _ _ _ (by decide) (HMA.out.drew.alloc _), by rw [show (k + 1) * 2 = k * 2 + 2 by omega]; exact hown3, HBl.out.trans (hb3.mono (by omega))⟩
        clear hown3 hb3 hrow3 y6 y7
        go_wp2
        go_roundw
        case rel => exact ⟨k + 1, by omega, by go_num, HR3⟩
        case measure => simp [intOf]; omega
      · obtain rfl : n = k := by omega
        have HU : Hid (rowTo zs (leftW zs ls q) (leftM zs ls q) n ++ [-1, 0, 0, 0] = rowsL zs (leftW zs ls q) (leftM zs ls q) n) := rfl
        have HO := Lib.hid (HR.out.own.alloc (.cells #[.int .i64 (-1), .int .i64 0, .int .i64 0, .int .i64 0] 92))
        have HBA := Lib.hid (HR.out.below.alloc hz (.cells #[.int .i64 (-1), .int .i64 0, .int .i64 0, .int .i64 0] 92))
        have HCN : Hid (∀ i, i < 1 * 4 → (wr.alloc (.cells #[.int .i64 (-1), .int .i64 0, .int .i64 0, .int .i64 0] 92)).cell? ⟨wr.heap.size, i, none⟩ = some (.int .i64 (nth [-1, 0, 0, 0] i))) := fun i hi => (rowC_new4 wr (-1) 0 0 0 92).cell hi
        go_wp2_with (at_builtin; refine wpList_appR _ rfl (.tmp 82) (.tmp 84) 27 rfl (w.heap.size + 1) 92 4 32 #[.int .i64 0, .int .i64 0, .int .i64 0, .int .i64 0] Try.underlying27 infoRow rfl (by decide) (by decide) _ (n * 2) _ rfl (by exact HO.out) wr.heap.size 1 1 [-1, 0, 0, 0] rfl rfl (by exact HCN.out) (by omega) w.heap.size w (by exact HBA.out) (by omega) (by simp; omega) _ HU.out ?_ (by omega); intro g' cap' w3 hown3 hb3)
        have HO3 := Lib.hid hown3
        have HB3 := Lib.hid hb3
        generalize hrs : rowsL zs (leftW zs ls q) (leftM zs ls q) n = rs at *
        have HRS := Lib.hid hrs
        clear hown3 hb3 HU HO HBA HCN HR a0 hrs
        go_wp2
        go_loopw [11] (fun v11 wr => ∃ (j : Nat), j ≤ n * 2 + 1 ∧ v11 = .int .i64 j ∧ Hid (OwnR wr (w.heap.size + 1) 92 4 (.slice (some ⟨g', 0, none⟩) (n * 2 + 1) cap') (n * 2 + 1) rs) ∧ Hid (Below w.heap.size w wr)) (fun v11 _ => n * 2 + 1 - (intOf v11).toNat)
        case atStart => exact ⟨0, Nat.zero_le _, rfl, HO3, HB3⟩
        case round =>
          clear HO3 HB3
          obtain ⟨j, hj, rfl, HO, HB⟩ := hrel
          by_cases hjl : j < n * 2 + 1
          · obtain ⟨b', off', e, hbl', hc⟩ := HO.out.recs.2 (by omega)
            simp at e
            obtain ⟨rfl, rfl⟩ := e
            obtain ⟨x0, x1, x2, x3⟩ := rwCells hc hjl
            simp only [Nat.zero_add] at x0 x1 x2 x3
            have hok : rowB (nth rs (j * 4)) (nth rs (j * 4 + 1)) (nth rs (j * 4 + 2)) (nth rs (j * 4 + 3)) = true := HOK.out j hjl
            have ji : (j : Int) < (((n * 2 + 1 : Nat)) : Int) := by omega
            have j0 : (0 : Int) ≤ (j : Int) := by omega
            clear hc
            generalize nth rs (j * 4) = y0 at *
            generalize nth rs (j * 4 + 1) = y1 at *
            generalize nth rs (j * 4 + 2) = y2 at *
            generalize nth rs (j * 4 + 3) = y3 at *
            go_wp2_with fail
            refine (sRowOk_any _ _ _ _ _).mono ?_
            rw [hok]
            rintro e w4 ⟨rfl, hb4⟩
            have HO4 := Lib.hid (HO.out.below hb4)
            have HB4 := Lib.hid (HB.out.trans (hb4.mono HB.out.size))
            clear hb4
            go_wp2
            go_roundw
            case rel => exact ⟨j + 1, by omega, by go_num, HO4, HB4⟩
            case measure => first | (simp [intOf]; done) | (simp [intOf]; omega)
          · obtain rfl : j = n * 2 + 1 := by omega
            go_wp2
            go_ret
            exact ⟨_, rfl, by rw [HT.out.1, HT.out.2]; exact HO.out.weaken (by omega), HB.out⟩
end Go.Proofs.Ytbcgckdjbabdjaa
