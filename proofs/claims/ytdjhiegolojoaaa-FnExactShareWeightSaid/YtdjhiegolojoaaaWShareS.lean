/-
  Contract: ShareWeight in the reference.
-/
import Derived.Test.YtdjhiegolojoaaaWShare
namespace Go.Proofs.Ytdjhiegolojoaaa
open Go.RowKit
set_option linter.unusedSimpArgs false
set_option linter.unusedVariables false

set_option maxRecDepth 100000 in
set_option maxHeartbeats 6400000 in
theorem sShare_any (gA n cA gB q cB : Nat) (L M : List (Nat × List Int)) (wt x : Int) (w : World) (hA : NestRow w gA 41 67 4 n L) (hn : n ≤ 1048576) (hr : ∀ i, i < n → rowN L i ≤ 1048576) (hlA : ∀ i, i < n → (rowZ L i).length = rowN L i * 4) (hL : L.length = n)
    (hB : NestRow w gB 42 69 3 q M) (hq : q ≤ 1048576) (hs : ∀ i, i < q → rowN M i ≤ 1048576) (hlB : ∀ i, i < q → (rowZ M i).length = rowN M i * 3) (hM : M.length = q) :
    Calls Try.prog 6 #[.agg #[.slice (some ⟨gA, 0, none⟩) n cA, .slice (some ⟨gB, 0, none⟩) q cB], .int .i64 wt, .int .i64 x] w (ShPost w n L q M wt x) := by
  have b0 : Below w.heap.size w ((w.alloc (.cells #[.slice (some ⟨gA, 0, none⟩) n cA, .slice (some ⟨gB, 0, none⟩) q cB] 30)).alloc (.cells #[.slice none 0 0, .slice none 0 0] 30)) := ((Below.refl _ _).alloc (Nat.le_refl _) _).alloc (by simp) _
  have HA0 := Lib.hid (hA.after b0)
  have HN0 := Lib.hid (hB.after b0)
  have HA := Lib.hid hA
  have HB := Lib.hid hB
  have HR := Lib.hid (And.intro (And.intro hr hlA) hL)
  have HT := Lib.hid (And.intro (And.intro hs hlB) hM)
  have HG0 : Hid (RowF ((w.alloc (.cells #[.slice (some ⟨gA, 0, none⟩) n cA, .slice (some ⟨gB, 0, none⟩) q cB] 30)).alloc (.cells #[.slice none 0 0, .slice none 0 0] 30)) w.heap.size 30 2 (pairV (.slice (some ⟨gA, 0, none⟩) n cA) (.slice (some ⟨gB, 0, none⟩) q cB))) := Lib.hid ((RowF.of_row (row_pair w _ _ _)).alloc _)
  have HV0 : Hid (RowF ((w.alloc (.cells #[.slice (some ⟨gA, 0, none⟩) n cA, .slice (some ⟨gB, 0, none⟩) q cB] 30)).alloc (.cells #[.slice none 0 0, .slice none 0 0] 30)) (w.heap.size + 1) 30 2 (pairV (.slice none 0 0) (.slice none 0 0))) := Lib.hid (by
    have h := RowF.of_row (row_pair (w.alloc (.cells #[.slice (some ⟨gA, 0, none⟩) n cA, .slice (some ⟨gB, 0, none⟩) q cB] 30)) (.slice none 0 0) (.slice none 0 0) 30)
    simp only [World.size_alloc] at h
    exact h)
  have HB0 := Lib.hid b0
  have HZ0 : Hid (((w.alloc (.cells #[.slice (some ⟨gA, 0, none⟩) n cA, .slice (some ⟨gB, 0, none⟩) q cB] 30)).alloc (.cells #[.slice none 0 0, .slice none 0 0] 30)).heap.size = w.heap.size + 2) := Lib.hid (by simp)
  clear b0 hA hB hr hlA hs hlB hL hM
  go_enter Try.func6, Try.ntmps6
  go_wp2_with fail
  refine (sCopyVault_any gA n cA gB q cB L M _ HA0.out hn HR.out.1.1 HR.out.1.2 HN0.out hq HT.out.1.1 HT.out.1.2).mono ?_
  rintro e w1 ⟨vR, vL, csR, csL, rfl, hgr, hgl, hb1⟩
  have HS2 : Hid (ShSt w (w1.alloc (.cells #[vR, vL] 30)) w1.heap.size gA n cA gB q cB L M vR vL csR csL) := Lib.hid (by
    have ba : Below w1.heap.size w1 (w1.alloc (.cells #[vR, vL] 30)) := (Below.refl _ _).alloc (Nat.le_refl _) _
    have hz := hb1.size
    rw [HZ0.out] at hz hgr hgl
    exact ⟨(HG0.out.after hb1).after ba, (HV0.out.after hb1).after ba, RowF.of_row (row_pair w1 vR vL _), hgr.after ba, hgl.after ba, by omega, below_then (below_then HB0.out hb1) ba⟩)
  obtain ⟨X, hX⟩ : ∃ X, w1.heap.size = X := ⟨_, rfl⟩
  rw [hX] at HS2
  have HXE := Lib.hid hX
  obtain ⟨A1, c1, rfl, _⟩ := hgr.cells.slice
  obtain ⟨A2, c2, rfl, _⟩ := hgl.cells.slice
  have HN2 : Hid (NestRow (w1.alloc (.cells #[.slice A1 n c1, .slice A2 q c2] 30)) gA 41 67 4 n L ∧ NestRow (w1.alloc (.cells #[.slice A1 n c1, .slice A2 q c2] 30)) gB 42 69 3 q M) := Lib.hid ⟨HA.out.after HS2.out.below, HB.out.after HS2.out.below⟩
  have HD2 : Hid (NestAt (w1.alloc (.cells #[.slice A1 n c1, .slice A2 q c2] 30)) (w1.alloc (.cells #[.slice A1 n c1, .slice A2 q c2] 30)).heap.size 4 (some ⟨gA, 0, none⟩) n L ∧ NestAt (w1.alloc (.cells #[.slice A1 n c1, .slice A2 q c2] 30)) (w1.alloc (.cells #[.slice A1 n c1, .slice A2 q c2] 30)).heap.size 3 (some ⟨gB, 0, none⟩) q M) := Lib.hid ⟨HN2.out.1.nestAt HR.out.2 HR.out.1.2 HR.out.1.1, HN2.out.2.nestAt HT.out.2 HT.out.1.2 HT.out.1.1⟩
  clear hgr hgl hb1 HA0 HN0 HG0 HV0 HB0 HZ0 hX
  have a0 : (w1.alloc (.cells #[.slice A1 n c1, .slice A2 q c2] 30)).cell? ⟨w.heap.size, 0, none⟩ = some (.slice (some ⟨gA, 0, none⟩) n cA) := HS2.out.arg.cell (i := 0) (by omega)
  have a1 : (w1.alloc (.cells #[.slice A1 n c1, .slice A2 q c2] 30)).cell? ⟨w.heap.size, 1, none⟩ = some (.slice (some ⟨gB, 0, none⟩) q cB) := HS2.out.arg.cell (i := 1) (by omega)
  go_wp2_with fail
  refine (sVaultOk_any _ _ _ L _ _ _ M _ HD2.out.1 (by omega) HR.out.1.1 HD2.out.2 (by omega) HT.out.1.1).mono ?_
  clear a0 a1
  cases hV : vaultB L n M q
  · have HF := Lib.hid (sh_1 (wt := wt) x hV)
    rintro e w3 ⟨rfl, hb3⟩
    have HS3 := Lib.hid (HS2.out.after hb3)
    clear hb3 HS2 HN2 HD2
    have d0 : w3.cell? ⟨w1.heap.size, 0, none⟩ = some (.slice A1 n c1) := by rw [HXE.out]; exact HS3.out.out.cell (i := 0) (by omega)
    have d1 : w3.cell? ⟨w1.heap.size, 1, none⟩ = some (.slice A2 q c2) := by rw [HXE.out]; exact HS3.out.out.cell (i := 1) (by omega)
    have r0 : w3.cell? ⟨w.heap.size + 1, 0, none⟩ = some (.slice none 0 0) := HS3.out.res.cell (i := 0) (by omega)
    have r1 : w3.cell? ⟨w.heap.size + 1, 1, none⟩ = some (.slice none 0 0) := HS3.out.res.cell (i := 1) (by omega)
    have f0 := HS3.out.res.frozen 0
    have f1 := HS3.out.res.frozen 1
    have hs := RowF.lt HS3.out.res
    go_wp2
    refine bodyPost_ret (v := .tuple #[.agg #[.slice A1 n c1, .slice A2 q c2], .bool false]) (by simp [results, Try.results6, go_sem, *]) rfl ?_
    exact ⟨.slice A1 n c1, .slice A2 q c2, csR, csL, by rw [HF.out.1], ((HS3.out.ribs.setLow (by simp) _).setLow (by simp) _).mono (by omega), by rw [HF.out.2]; exact ((HS3.out.loads.setLow (by simp) _).setLow (by simp) _).mono (by omega), (HS3.out.below.setCell (by simp) _).setCell (by simp) _⟩
  cases hI : inB wt 0 50000
  · have HF := Lib.hid (sh_2 (L := L) (n := n) (M := M) (q := q) x hI)
    rintro e w3 ⟨rfl, hb3⟩
    have HS3 := Lib.hid (HS2.out.after hb3)
    clear hb3 HS2 HN2 HD2
    have d0 : w3.cell? ⟨w1.heap.size, 0, none⟩ = some (.slice A1 n c1) := by rw [HXE.out]; exact HS3.out.out.cell (i := 0) (by omega)
    have d1 : w3.cell? ⟨w1.heap.size, 1, none⟩ = some (.slice A2 q c2) := by rw [HXE.out]; exact HS3.out.out.cell (i := 1) (by omega)
    have r0 : w3.cell? ⟨w.heap.size + 1, 0, none⟩ = some (.slice none 0 0) := HS3.out.res.cell (i := 0) (by omega)
    have r1 : w3.cell? ⟨w.heap.size + 1, 1, none⟩ = some (.slice none 0 0) := HS3.out.res.cell (i := 1) (by omega)
    have f0 := HS3.out.res.frozen 0
    have f1 := HS3.out.res.frozen 1
    have hs := RowF.lt HS3.out.res
    go_wp2_with (go_at_call 26; refine (l01In_any _ _ _ _).mono ?_; rw [hI]; rintro e w' ⟨rfl, rfl⟩)
    refine bodyPost_ret (v := .tuple #[.agg #[.slice A1 n c1, .slice A2 q c2], .bool false]) (by simp [results, Try.results6, go_sem, *]) rfl ?_
    exact ⟨.slice A1 n c1, .slice A2 q c2, csR, csL, by rw [HF.out.1], ((HS3.out.ribs.setLow (by simp) _).setLow (by simp) _).mono (by omega), by rw [HF.out.2]; exact ((HS3.out.loads.setLow (by simp) _).setLow (by simp) _).mono (by omega), (HS3.out.below.setCell (by simp) _).setCell (by simp) _⟩
  obtain ⟨hn5, hqn, hrib⟩ := vaultB_out hV
  obtain rfl : n = q := hqn.symm
  obtain ⟨gR, rfl⟩ := HS2.out.ribs.some (by omega)
  obtain ⟨gL, rfl⟩ := HS2.out.loads.some (by omega)
  obtain ⟨wq, ewq⟩ : ∃ wq, Int.tdiv wt (n : Int) = wq := ⟨_, rfl⟩
  have hwt := inB_iff.1 hI
  have hwq : 0 ≤ wq ∧ wq ≤ 50000 := by
    rw [← ewq]
    have h1 : Int.tdiv wt (n : Int) = wt / (n : Int) := Int.tdiv_eq_ediv_of_nonneg hwt.1
    rw [h1]
    exact ⟨Int.ediv_nonneg hwt.1 (by omega), Int.le_trans (Int.ediv_le_self _ hwt.1) hwt.2⟩
  have e5 : IntKind.i64.wrap (Int.tdiv wt (n : Int)) = wq := by rw [ewq]; exact IntWalk.i64_in _ (by omega)
  have nz : ¬ (n : Int) = 0 := by omega
  have nz2 : ¬ n = 0 := by omega
  have HNEW : Hid (shNew L M n wt x = shTo L M n wq x n) := Lib.hid (by rw [shNew, ewq])
  have HF3 := Lib.hid (fun h => sh_3 (L := L) (n := n) (M := M) (q := n) x hV hI h)
  have HFT := Lib.hid (fun h => sh_t (L := L) (n := n) (M := M) (q := n) x hV hI h)
  rw [HNEW.out] at HF3 HFT
  have HRIB := Lib.hid hrib
  clear ewq hrib HD2 HN2
  rintro e w3 ⟨rfl, hb3⟩
  have HS3 : Hid (ShSt w w3 X gA n cA gB n cB L (shTo L M n wq x 0) (.slice (some ⟨gR, 0, none⟩) n c1) (.slice (some ⟨gL, 0, none⟩) n c2) csR csL) := Lib.hid (by
    have h := HS2.out.after hb3
    exact ⟨h.arg, h.res, h.out, h.ribs, h.loads.congr (fun i hi => shTo_ge hi (by omega)), h.far, h.below⟩)
  clear hb3 HS2
  have d0 : w3.cell? ⟨w1.heap.size, 0, none⟩ = some (.slice (some ⟨gR, 0, none⟩) n c1) := by rw [HXE.out]; exact HS3.out.out.cell (i := 0) (by omega)
  go_wp2_with (go_at_call 26; refine (l01In_any _ _ _ _).mono ?_; rw [hI]; rintro e w' ⟨rfl, rfl⟩)
  have hX := HXE.out
  rw [hX]
  clear hX HXE d0
  go_loopw [9, 10, 11] (fun v9 v10 v11 wr => ∃ (k : Nat) (csL : List Value), v9 = .int .i64 k ∧ k ≤ n ∧ Hid (ShSt w wr X gA n cA gB n cB L (shTo L M n wq x k) (.slice (some ⟨gR, 0, none⟩) n c1) (.slice (some ⟨gL, 0, none⟩) n c2) csR csL)) (fun v9 _ _ _ => n - (intOf v9).toNat)
  case atStart => exact ⟨0, csL, rfl, Nat.zero_le _, HS3⟩
  case round =>
    clear HS3 csL
    obtain ⟨k, csL, rfl, hk, HS⟩ := hrel
    have hX2 := HS.out.far
    have hXl := RowF.lt HS.out.out
    have o0 : wr.cell? ⟨X, 0, none⟩ = some (.slice (some ⟨gR, 0, none⟩) n c1) := HS.out.out.cell (i := 0) (by omega)
    have o1 : wr.cell? ⟨X, 1, none⟩ = some (.slice (some ⟨gL, 0, none⟩) n c2) := HS.out.out.cell (i := 1) (by omega)

    by_cases hlt : k < n
    · have kn : (k : Int) < (n : Int) := by omega
      have k0 : (0 : Int) ≤ (k : Int) := by omega
      have ek : IntKind.i64.wrap ((k : Int) + 1) = (k : Int) + 1 := IntWalk.i64_in _ (by omega)
      obtain ⟨hza, hq6, _⟩ := loadsB_out (HRIB.out k hlt)
      have hz3 := (archB_out hza).1
      obtain ⟨m, hm⟩ : ∃ m, rowN L k = m + 2 := ⟨rowN L k - 2, by omega⟩
      have hrk := HR.out.1.1 k hlt
      have em : IntKind.i64.wrap (((m + 2 : Nat) : Int) - 2) = (m : Int) := by rw [show ((m + 2 : Nat) : Int) - 2 = (m : Int) by omega]; exact IntWalk.i64_in _ (by omega)
      have HU : Hid (stoneU (rowZ L k) (rowN L k) x = stU (stopAt (rowZ L k) x) m) := Lib.hid (by rw [hm]; rfl)
      obtain ⟨gi, ci, hci, hori⟩ := HS.out.ribs.row k hlt
      obtain ⟨gu, cu, hcu, horu⟩ := HS.out.loads.row k hlt
      rw [hm] at hci
      have x0 : wr.cell? ⟨gR, k, none⟩ = some (.slice (some ⟨gi, 0, none⟩) (m + 2) ci) := (HS.out.ribs.cellAt hlt).trans hci
      have HU0 : Hid (wr.cell? ⟨gL, k, none⟩ = some (.slice (some ⟨gu, 0, none⟩) (rowN (shTo L M n wq x k) k) cu)) := Lib.hid ((HS.out.loads.cellAt hlt).trans hcu)
      have HT3 := Lib.hid (HS.out.three hlt hcu)
      have hRl : gR < wr.heap.size := HS.out.ribs.cells.blockLt gR rfl
      have HMK := Lib.hid (shTo_ge (L := L) (M := M) (wq := wq) (x := x) hlt (Nat.lt_irrefl k))
      have HNK := Lib.hid (shTo_lt (L := L) (M := M) (wq := wq) (x := x) (k := k + 1) hlt (Nat.lt_succ_self k))
      have HCU := Lib.hid hcu
      have HRW := Lib.hid hori.recs
      have hrm : rowN (shTo L M n wq x k) k ≤ 6 := by rw [HMK.out.1]; exact hq6
      have HO := Lib.hid (And.intro o0 o1)
      have HBE : Hid (Below wr.heap.size wr wr) := Lib.hid (Below.refl _ _)
      clear hori horu hcu hci hza hq6
      go_wp2
      clear x0 o0 o1
      rename World => wo
      go_loopw [11] (fun v11 wy => ∃ a : Nat, v11 = .int .i64 a ∧ a ≤ m ∧ Hid (∀ i, i < a → stopAt (rowZ L k) x i = false) ∧ Hid (Below wo.heap.size wo wy)) (fun v11 _ => m - (intOf v11).toNat)
      case atStart => exact ⟨0, rfl, Nat.zero_le _, Lib.hid (fun i hi => absurd hi (by omega)), HBE⟩
      case round =>
        clear HBE
        obtain ⟨a, rfl, ha, HF, HBY⟩ := hrel
        by_cases hlt2 : a < m
        · have km : (a : Int) < (m : Int) := by omega
          have e1 : IntKind.i64.wrap ((a : Int) + 1) = (a : Int) + 1 := IntWalk.i64_in _ (by omega)
          have k1 : (0 : Int) ≤ (a : Int) + 1 := by omega
          have k2 : (a : Int) + 1 < ((m + 2 : Nat) : Int) := by omega
          obtain ⟨b9, off9, hb9, hb9l, hc9⟩ := HRW.out.2 (by omega)
          obtain ⟨rfl, rfl⟩ : gi = b9 ∧ off9 = 0 := by simpa [eq_comm] using hb9
          have y0 : wr.cell? ⟨gi, (a + 1) * 4, none⟩ = some (.int .i64 (nth (rowZ L k) ((a + 1) * 4))) := (HBY.out.cell (p := ⟨gi, (a + 1) * 4, none⟩) (by exact hb9l)).trans (by have := hc9 ((a + 1) * 4) (by omega); simpa using this)
          have HP : Hid (stopAt (rowZ L k) x a = decide (x ≤ nth (rowZ L k) ((a + 1) * 4))) := Lib.hid rfl
          have e3 : ((a : Int) + 1).toNat = a + 1 := by omega
          clear hc9 hb9l hb9
          generalize nth (rowZ L k) ((a + 1) * 4) = Y at *
          by_cases hx : Y < x
          · have HN : Hid (∀ i, i < a + 1 → stopAt (rowZ L k) x i = false) := Lib.hid (fun i hi => by
              by_cases e : i = a
              · subst e; rw [HP.out]; exact decide_eq_false (by omega)
              · exact HF.out i (by omega))
            go_wp2
            go_roundw
            case rel => exact ⟨a + 1, by go_num, by omega, HN, HBY⟩
            case measure => simp [intOf]; omega
          · have HT : Hid (stoneU (rowZ L k) (rowN L k) x = a) := Lib.hid (by rw [HU.out]; exact stU_at HF.out (by rw [HP.out]; exact decide_eq_true (by omega)) hlt2)
            clear HP
            obtain ⟨t1, t2, t3, t4, t5, t6⟩ := HT3.out
            have HBX : Hid (Below wo.heap.size wo wr.drew) := Lib.hid (below_dr2 HBY.out)
            have hzy : wo.heap.size ≤ wr.drew.heap.size := HBX.out.size
            have HSX := Lib.hid (HS.out.after HBX.out)
            have p0 : wr.drew.cell? ⟨X, 0, none⟩ = some (.slice (some ⟨gR, 0, none⟩) n c1) := (HBX.out.cell (p := ⟨X, 0, none⟩) (by exact t6)).trans HO.out.1
            have p1 : wr.drew.cell? ⟨X, 1, none⟩ = some (.slice (some ⟨gL, 0, none⟩) n c2) := (HBX.out.cell (p := ⟨X, 1, none⟩) (by exact t6)).trans HO.out.2
            have pu : wr.drew.cell? ⟨gL, k, none⟩ = some (.slice (some ⟨gu, 0, none⟩) (rowN (shTo L M n wq x k) k) cu) := (HBX.out.cell (p := ⟨gL, k, none⟩) (by exact t5)).trans HU0.out
            go_wp2
            refine wp_region_held_drew (S := fun w' => (w'.cell? ⟨X, 0, none⟩ = some (.slice (some ⟨gR, 0, none⟩) n c1) ∧ w'.cell? ⟨X, 1, none⟩ = some (.slice (some ⟨gL, 0, none⟩) n c2))) (by kernel_rfl) (by exact ⟨p0, p1⟩) (fun hHeld => ?_)
            generalize wr.drew = wv at *
            refine take_heldS (i := 0) (d := 54) rfl rfl (by kernel_rfl) (by kernel_rfl) (by kernel_rfl) (fun _ _ _ h => h) (by kernel_rfl) (fun w hSw => by (try dsimp only at hSw); go_simp; try rfl) (by assumption) ?_
            try simp only [Act.put, List.setIfInBounds_toArray, List.set_cons_zero, List.set_cons_succ]
            refine take_heldS (i := 1) (d := 55) rfl rfl (by kernel_rfl) (by kernel_rfl) (by kernel_rfl) (fun _ _ _ h => h) (by kernel_rfl) (fun w hSw => by (try dsimp only at hSw); go_simp; try rfl) (by assumption) ?_
            try simp only [Act.put, List.setIfInBounds_toArray, List.set_cons_zero, List.set_cons_succ]
            refine take_heldS (i := 2) (d := 56) rfl rfl (by kernel_rfl) (by kernel_rfl) (by kernel_rfl) (fun _ _ _ h => h) (by kernel_rfl) (fun w hSw => by (try dsimp only at hSw); go_simp; try rfl) (by assumption) ?_
            try simp only [Act.put, List.setIfInBounds_toArray, List.set_cons_zero, List.set_cons_succ]
            refine take_heldS (i := 3) (d := 57) rfl rfl (by kernel_rfl) (by kernel_rfl) (by kernel_rfl) (fun _ _ _ h => h) (by kernel_rfl) (fun w hSw => by (try dsimp only at hSw); go_simp; try rfl) (by assumption) ?_
            try simp only [Act.put, List.setIfInBounds_toArray, List.set_cons_zero, List.set_cons_succ]
            refine take_heldS (i := 4) (d := 58) rfl rfl (by kernel_rfl) (by kernel_rfl) (by kernel_rfl) (fun _ _ _ h => h) (by kernel_rfl) (fun w hSw => by (try dsimp only at hSw); go_simp; try rfl) (by assumption) ?_
            try simp only [Act.put, List.setIfInBounds_toArray, List.set_cons_zero, List.set_cons_succ]
            refine take_heldS (i := 5) (d := 59) rfl rfl (by kernel_rfl) (by kernel_rfl) (by kernel_rfl) (fun _ _ _ h => h) (by kernel_rfl) (fun w hSw => by (try dsimp only at hSw); go_simp; try rfl) (by assumption) ?_
            try simp only [Act.put, List.setIfInBounds_toArray, List.set_cons_zero, List.set_cons_succ]
            refine take_heldS (i := 6) (d := 60) rfl rfl (by kernel_rfl) (by kernel_rfl) (by kernel_rfl) (fun _ _ _ h => h) (by kernel_rfl) (fun w hSw => by (try dsimp only at hSw); go_simp; try rfl) (by assumption) ?_
            try simp only [Act.put, List.setIfInBounds_toArray, List.set_cons_zero, List.set_cons_succ]
            refine take_heldS (i := 8) (d := 62) rfl rfl (by kernel_rfl) (by kernel_rfl) (by kernel_rfl) (fun _ _ _ h => h) (by kernel_rfl) (fun w hSw => by (try dsimp only at hSw); go_simp; try rfl) (by assumption) ?_
            try simp only [Act.put, List.setIfInBounds_toArray, List.set_cons_zero, List.set_cons_succ]
            refine take_heldS (i := 9) (d := 63) rfl rfl (by kernel_rfl) (by kernel_rfl) (by kernel_rfl) (fun _ _ _ h => h) (by kernel_rfl) (fun w hSw => by (try dsimp only at hSw); go_simp; try rfl) (by assumption) ?_
            try simp only [Act.put, List.setIfInBounds_toArray, List.set_cons_zero, List.set_cons_succ]
            refine take_heldS (i := 10) (d := 64) rfl rfl (by kernel_rfl) (by kernel_rfl) (by kernel_rfl) (fun _ _ _ h => h) (by kernel_rfl) (fun w hSw => by (try dsimp only at hSw); go_simp; try rfl) (by assumption) ?_
            try simp only [Act.put, List.setIfInBounds_toArray, List.set_cons_zero, List.set_cons_succ]
            refine take_heldS (i := 11) (d := 65) rfl rfl (by kernel_rfl) (by kernel_rfl) (by kernel_rfl) (fun _ _ _ h => h) (by kernel_rfl) (fun w hSw => by (try dsimp only at hSw); go_simp; try rfl) (by assumption) ?_
            try simp only [Act.put, List.setIfInBounds_toArray, List.set_cons_zero, List.set_cons_succ]
            refine take_heldS (i := 12) (d := 66) rfl rfl (by kernel_rfl) (by kernel_rfl) (by kernel_rfl) (fun _ _ _ h => h) (by kernel_rfl) (fun w hSw => by (try dsimp only at hSw); go_simp; try rfl) (by assumption) ?_
            try simp only [Act.put, List.setIfInBounds_toArray, List.set_cons_zero, List.set_cons_succ]
            refine take_heldS (i := 13) (d := 67) rfl rfl (by kernel_rfl) (by kernel_rfl) (by kernel_rfl) (fun _ _ _ h => h) (by kernel_rfl) (fun w hSw => by (try dsimp only at hSw); go_simp; try rfl) (by assumption) ?_
            try simp only [Act.put, List.setIfInBounds_toArray, List.set_cons_zero, List.set_cons_succ]
            refine take_heldS (i := 14) (d := 68) rfl rfl (by kernel_rfl) (by kernel_rfl) (by kernel_rfl) (fun _ _ _ h => h) (by kernel_rfl) (fun w hSw => by (try dsimp only at hSw); go_simp; try rfl) (by assumption) ?_
            try simp only [Act.put, List.setIfInBounds_toArray, List.set_cons_zero, List.set_cons_succ]
            refine take_heldS (i := 15) (d := 69) rfl rfl (by kernel_rfl) (by kernel_rfl) (by kernel_rfl) (fun _ _ _ h => h) (by kernel_rfl) (fun w hSw => by (try dsimp only at hSw); go_simp; try rfl) (by assumption) ?_
            try simp only [Act.put, List.setIfInBounds_toArray, List.set_cons_zero, List.set_cons_succ]
            refine wpAnyH_ready (rs := [7, 16]) (by kernel_rfl) (by simp) ?_
            refine AllReadyH.cons rfl (fun K hK => ?_) (AllReadyH.cons rfl (fun K hK => ?_) AllReadyH.nil)
            · go_simp
              refine hK.out _ _ (by exact ⟨p0, p1⟩) (fun hHeld => ?_)
              clear hK K
              try simp only [Act.put, List.setIfInBounds_toArray, List.set_cons_zero, List.set_cons_succ]
              refine wpAnyH_ready (rs := [16]) (by kernel_rfl) (by simp) ?_
              refine AllReadyH.cons rfl (fun K hK => ?_) AllReadyH.nil
              go_simp
              have u5 : (wv.alloc (.cells #[.int .i64 (a : Nat), .int .i64 wq, .int .i64 x] 69)).cell? ⟨gL, k, none⟩ = some (.slice (some ⟨gu, 0, none⟩) (rowN (shTo L M n wq x k) k) cu) := (World.cell?_alloc_lt _ _ ⟨gL, k, none⟩ (show gL < wv.heap.size from by omega)).trans pu
              have q5 : ((wv.alloc (.cells #[.int .i64 (a : Nat), .int .i64 wq, .int .i64 x] 69)).cell? ⟨X, 0, none⟩ = some (.slice (some ⟨gR, 0, none⟩) n c1) ∧ (wv.alloc (.cells #[.int .i64 (a : Nat), .int .i64 wq, .int .i64 x] 69)).cell? ⟨X, 1, none⟩ = some (.slice (some ⟨gL, 0, none⟩) n c2)) := ⟨(World.cell?_alloc_lt _ _ ⟨X, 0, none⟩ (show X < wv.heap.size from by omega)).trans p0, (World.cell?_alloc_lt _ _ ⟨X, 1, none⟩ (show X < wv.heap.size from by omega)).trans p1⟩
              refine hK.out _ _ (by exact q5) (fun hHeld => ?_)
              clear hK K
              try simp only [Act.put, List.setIfInBounds_toArray, List.set_cons_zero, List.set_cons_succ]
              refine wpAnyH_ready (rs := [17]) (by kernel_rfl) (by simp) ?_
              refine AllReadyH.cons rfl (fun K hK => ?_) AllReadyH.nil
              obtain ⟨gu2, cu2, hcu2, hou2⟩ := HSX.out.loads.row k hlt
              rw [HCU.out] at hcu2
              simp only [Option.some.injEq, Value.slice.injEq, Addr.mk.injEq, and_true, true_and] at hcu2
              obtain ⟨rfl, rfl⟩ := hcu2
              refine step_appRX rfl (.tmp 61) (.tmp 70) 42 rfl (w.heap.size + 2) 69 3 24 #[.int .i64 0, .int .i64 0, .int .i64 0] Try.underlying42 infoLoad rfl (by decide) (by decide) (.slice (some ⟨gu, 0, none⟩) (rowN (shTo L M n wq x k) k) cu) (rowN (shTo L M n wq x k) k) (rowZ (shTo L M n wq x k) k) rfl (by exact hou2.alloc _) wv.heap.size 1 1 [((a : Nat) : Int), wq, x] rfl rfl (by exact fun j hj => (rowF_new3S wv _ _ _ _).cell hj) (by omega) (by simp; omega) (by simp) ?_
              intro g' cap' w5 hown5 har5
              have HN5 := Lib.hid (HS.out.step (M' := shTo L M n wq x (k + 1)) (wy := (wv.alloc (.cells #[.int .i64 (a : Nat), .int .i64 wq, .int .i64 x] 69))) (HBX.out.alloc (by omega) _) hlt HCU.out hown5 har5 ⟨by rw [HNK.out.1, HMK.out.1], by rw [HNK.out.2, HMK.out.2, HT.out]⟩ (fun i hi hik => by
                by_cases hik2 : i < k
                · have e1 := shTo_lt (L := L) (M := M) (wq := wq) (x := x) (k := k + 1) hi (by omega)
                  have e2 := shTo_lt (L := L) (M := M) (wq := wq) (x := x) (k := k) hi hik2
                  rw [e1.1, e1.2, e2.1, e2.2]
                  exact ⟨rfl, rfl⟩
                · have e1 := shTo_ge (L := L) (M := M) (wq := wq) (x := x) (k := k + 1) hi (by omega)
                  have e2 := shTo_ge (L := L) (M := M) (wq := wq) (x := x) (k := k) hi hik2
                  rw [e1.1, e1.2, e2.1, e2.2]
                  exact ⟨rfl, rfl⟩))
              have hne : ∀ (b : Nat), b ≠ gu → ∀ g, ((.slice (some ⟨gu, 0, none⟩) (rowN (shTo L M n wq x k) k) cu) : Value).ownBlock = some g → g ≠ b := fun b hb g hg e => by simp [Value.ownBlock] at hg; omega
              have q6 : (w5.cell? ⟨X, 0, none⟩ = some (.slice (some ⟨gR, 0, none⟩) n c1) ∧ w5.cell? ⟨X, 1, none⟩ = some (.slice (some ⟨gL, 0, none⟩) n c2)) := ⟨(har5.cellStay (p := ⟨X, 0, none⟩) (by simp; omega) (hne X (fun e => t1 e.symm))).trans q5.1, (har5.cellStay (p := ⟨X, 1, none⟩) (by simp; omega) (hne X (fun e => t1 e.symm))).trans q5.2⟩
              have u6 : w5.cell? ⟨gL, k, none⟩ = some (.slice (some ⟨gu, 0, none⟩) (rowN (shTo L M n wq x k) k) cu) := (har5.cellStay (p := ⟨gL, k, none⟩) (by simp; omega) (hne gL (fun e => t3 e.symm))).trans u5
              have f0 : w5.frozen? ⟨gL, k, none⟩ = false := by have := World.ownsRow.frozenAt HN5.out.loads.cells.1 k; rwa [World.frozen?_setCell] at this
              refine hK.out _ _ (by exact q6) (fun hHeld => ?_)
              clear hK K
              try simp only [Act.put, List.setIfInBounds_toArray, List.set_cons_zero, List.set_cons_succ]
              refine take_heldS (i := 18) (d := 72) rfl rfl (by kernel_rfl) (by kernel_rfl) (by kernel_rfl) (fun _ _ _ h => h) (by kernel_rfl) (fun w hSw => by (try dsimp only at hSw); go_simp; try rfl) (by assumption) ?_
              try simp only [Act.put, List.setIfInBounds_toArray, List.set_cons_zero, List.set_cons_succ]
              refine wpAnyH_ready (rs := [19]) (by kernel_rfl) (by simp) ?_
              refine AllReadyH.cons rfl (fun K hK => ?_) AllReadyH.nil
              go_simp
              refine hK.out _ _ (by exact ⟨HN5.out.out.cell (i := 0) (by omega), HN5.out.out.cell (i := 1) (by omega)⟩) (fun hHeld => ?_)
              clear hK K
              try simp only [Act.put, List.setIfInBounds_toArray, List.set_cons_zero, List.set_cons_succ]
              refine wpAnyH_done (by kernel_rfl) ?_ _
              clear hHeld
              go_wp2
              go_roundw
              case rel => exact ⟨k + 1, _, by go_num, by omega, HN5⟩
              case measure => simp [intOf]; omega
            · go_simp
              have u5 : (wv.alloc (.cells #[.int .i64 (a : Nat), .int .i64 wq, .int .i64 x] 69)).cell? ⟨gL, k, none⟩ = some (.slice (some ⟨gu, 0, none⟩) (rowN (shTo L M n wq x k) k) cu) := (World.cell?_alloc_lt _ _ ⟨gL, k, none⟩ (show gL < wv.heap.size from by omega)).trans pu
              have q5 : ((wv.alloc (.cells #[.int .i64 (a : Nat), .int .i64 wq, .int .i64 x] 69)).cell? ⟨X, 0, none⟩ = some (.slice (some ⟨gR, 0, none⟩) n c1) ∧ (wv.alloc (.cells #[.int .i64 (a : Nat), .int .i64 wq, .int .i64 x] 69)).cell? ⟨X, 1, none⟩ = some (.slice (some ⟨gL, 0, none⟩) n c2)) := ⟨(World.cell?_alloc_lt _ _ ⟨X, 0, none⟩ (show X < wv.heap.size from by omega)).trans p0, (World.cell?_alloc_lt _ _ ⟨X, 1, none⟩ (show X < wv.heap.size from by omega)).trans p1⟩
              refine hK.out _ _ (by exact q5) (fun hHeld => ?_)
              clear hK K
              try simp only [Act.put, List.setIfInBounds_toArray, List.set_cons_zero, List.set_cons_succ]
              refine wpAnyH_ready (rs := [7]) (by kernel_rfl) (by simp) ?_
              refine AllReadyH.cons rfl (fun K hK => ?_) AllReadyH.nil
              go_simp
              refine hK.out _ _ (by exact q5) (fun hHeld => ?_)
              clear hK K
              try simp only [Act.put, List.setIfInBounds_toArray, List.set_cons_zero, List.set_cons_succ]
              refine wpAnyH_ready (rs := [17]) (by kernel_rfl) (by simp) ?_
              refine AllReadyH.cons rfl (fun K hK => ?_) AllReadyH.nil
              obtain ⟨gu2, cu2, hcu2, hou2⟩ := HSX.out.loads.row k hlt
              rw [HCU.out] at hcu2
              simp only [Option.some.injEq, Value.slice.injEq, Addr.mk.injEq, and_true, true_and] at hcu2
              obtain ⟨rfl, rfl⟩ := hcu2
              refine step_appRX rfl (.tmp 61) (.tmp 70) 42 rfl (w.heap.size + 2) 69 3 24 #[.int .i64 0, .int .i64 0, .int .i64 0] Try.underlying42 infoLoad rfl (by decide) (by decide) (.slice (some ⟨gu, 0, none⟩) (rowN (shTo L M n wq x k) k) cu) (rowN (shTo L M n wq x k) k) (rowZ (shTo L M n wq x k) k) rfl (by exact hou2.alloc _) wv.heap.size 1 1 [((a : Nat) : Int), wq, x] rfl rfl (by exact fun j hj => (rowF_new3S wv _ _ _ _).cell hj) (by omega) (by simp; omega) (by simp) ?_
              intro g' cap' w5 hown5 har5
              have HN5 := Lib.hid (HS.out.step (M' := shTo L M n wq x (k + 1)) (wy := (wv.alloc (.cells #[.int .i64 (a : Nat), .int .i64 wq, .int .i64 x] 69))) (HBX.out.alloc (by omega) _) hlt HCU.out hown5 har5 ⟨by rw [HNK.out.1, HMK.out.1], by rw [HNK.out.2, HMK.out.2, HT.out]⟩ (fun i hi hik => by
                by_cases hik2 : i < k
                · have e1 := shTo_lt (L := L) (M := M) (wq := wq) (x := x) (k := k + 1) hi (by omega)
                  have e2 := shTo_lt (L := L) (M := M) (wq := wq) (x := x) (k := k) hi hik2
                  rw [e1.1, e1.2, e2.1, e2.2]
                  exact ⟨rfl, rfl⟩
                · have e1 := shTo_ge (L := L) (M := M) (wq := wq) (x := x) (k := k + 1) hi (by omega)
                  have e2 := shTo_ge (L := L) (M := M) (wq := wq) (x := x) (k := k) hi hik2
                  rw [e1.1, e1.2, e2.1, e2.2]
                  exact ⟨rfl, rfl⟩))
              have hne : ∀ (b : Nat), b ≠ gu → ∀ g, ((.slice (some ⟨gu, 0, none⟩) (rowN (shTo L M n wq x k) k) cu) : Value).ownBlock = some g → g ≠ b := fun b hb g hg e => by simp [Value.ownBlock] at hg; omega
              have q6 : (w5.cell? ⟨X, 0, none⟩ = some (.slice (some ⟨gR, 0, none⟩) n c1) ∧ w5.cell? ⟨X, 1, none⟩ = some (.slice (some ⟨gL, 0, none⟩) n c2)) := ⟨(har5.cellStay (p := ⟨X, 0, none⟩) (by simp; omega) (hne X (fun e => t1 e.symm))).trans q5.1, (har5.cellStay (p := ⟨X, 1, none⟩) (by simp; omega) (hne X (fun e => t1 e.symm))).trans q5.2⟩
              have u6 : w5.cell? ⟨gL, k, none⟩ = some (.slice (some ⟨gu, 0, none⟩) (rowN (shTo L M n wq x k) k) cu) := (har5.cellStay (p := ⟨gL, k, none⟩) (by simp; omega) (hne gL (fun e => t3 e.symm))).trans u5
              have f0 : w5.frozen? ⟨gL, k, none⟩ = false := by have := World.ownsRow.frozenAt HN5.out.loads.cells.1 k; rwa [World.frozen?_setCell] at this
              refine hK.out _ _ (by exact q6) (fun hHeld => ?_)
              clear hK K
              try simp only [Act.put, List.setIfInBounds_toArray, List.set_cons_zero, List.set_cons_succ]
              refine take_heldS (i := 18) (d := 72) rfl rfl (by kernel_rfl) (by kernel_rfl) (by kernel_rfl) (fun _ _ _ h => h) (by kernel_rfl) (fun w hSw => by (try dsimp only at hSw); go_simp; try rfl) (by assumption) ?_
              try simp only [Act.put, List.setIfInBounds_toArray, List.set_cons_zero, List.set_cons_succ]
              refine wpAnyH_ready (rs := [19]) (by kernel_rfl) (by simp) ?_
              refine AllReadyH.cons rfl (fun K hK => ?_) AllReadyH.nil
              go_simp
              refine hK.out _ _ (by exact ⟨HN5.out.out.cell (i := 0) (by omega), HN5.out.out.cell (i := 1) (by omega)⟩) (fun hHeld => ?_)
              clear hK K
              try simp only [Act.put, List.setIfInBounds_toArray, List.set_cons_zero, List.set_cons_succ]
              refine wpAnyH_done (by kernel_rfl) ?_ _
              clear hHeld
              go_wp2
              go_roundw
              case rel => exact ⟨k + 1, _, by go_num, by omega, HN5⟩
              case measure => simp [intOf]; omega
        · obtain rfl : m = a := by omega
          have km : ¬ (m : Int) < (m : Int) := by omega
          have HT : Hid (stoneU (rowZ L k) (rowN L k) x = m) := Lib.hid (by rw [HU.out]; exact stU_all HF.out)
          obtain ⟨t1, t2, t3, t4, t5, t6⟩ := HT3.out
          have HBX : Hid (Below wo.heap.size wo wr.drew) := Lib.hid (below_dr2 HBY.out)
          have hzy : wo.heap.size ≤ wr.drew.heap.size := HBX.out.size
          have HSX := Lib.hid (HS.out.after HBX.out)
          have p0 : wr.drew.cell? ⟨X, 0, none⟩ = some (.slice (some ⟨gR, 0, none⟩) n c1) := (HBX.out.cell (p := ⟨X, 0, none⟩) (by exact t6)).trans HO.out.1
          have p1 : wr.drew.cell? ⟨X, 1, none⟩ = some (.slice (some ⟨gL, 0, none⟩) n c2) := (HBX.out.cell (p := ⟨X, 1, none⟩) (by exact t6)).trans HO.out.2
          have pu : wr.drew.cell? ⟨gL, k, none⟩ = some (.slice (some ⟨gu, 0, none⟩) (rowN (shTo L M n wq x k) k) cu) := (HBX.out.cell (p := ⟨gL, k, none⟩) (by exact t5)).trans HU0.out
          go_wp2
          refine wp_region_held_drew (S := fun w' => (w'.cell? ⟨X, 0, none⟩ = some (.slice (some ⟨gR, 0, none⟩) n c1) ∧ w'.cell? ⟨X, 1, none⟩ = some (.slice (some ⟨gL, 0, none⟩) n c2))) (by kernel_rfl) (by exact ⟨p0, p1⟩) (fun hHeld => ?_)
          generalize wr.drew = wv at *
          refine take_heldS (i := 0) (d := 54) rfl rfl (by kernel_rfl) (by kernel_rfl) (by kernel_rfl) (fun _ _ _ h => h) (by kernel_rfl) (fun w hSw => by (try dsimp only at hSw); go_simp; try rfl) (by assumption) ?_
          try simp only [Act.put, List.setIfInBounds_toArray, List.set_cons_zero, List.set_cons_succ]
          refine take_heldS (i := 1) (d := 55) rfl rfl (by kernel_rfl) (by kernel_rfl) (by kernel_rfl) (fun _ _ _ h => h) (by kernel_rfl) (fun w hSw => by (try dsimp only at hSw); go_simp; try rfl) (by assumption) ?_
          try simp only [Act.put, List.setIfInBounds_toArray, List.set_cons_zero, List.set_cons_succ]
          refine take_heldS (i := 2) (d := 56) rfl rfl (by kernel_rfl) (by kernel_rfl) (by kernel_rfl) (fun _ _ _ h => h) (by kernel_rfl) (fun w hSw => by (try dsimp only at hSw); go_simp; try rfl) (by assumption) ?_
          try simp only [Act.put, List.setIfInBounds_toArray, List.set_cons_zero, List.set_cons_succ]
          refine take_heldS (i := 3) (d := 57) rfl rfl (by kernel_rfl) (by kernel_rfl) (by kernel_rfl) (fun _ _ _ h => h) (by kernel_rfl) (fun w hSw => by (try dsimp only at hSw); go_simp; try rfl) (by assumption) ?_
          try simp only [Act.put, List.setIfInBounds_toArray, List.set_cons_zero, List.set_cons_succ]
          refine take_heldS (i := 4) (d := 58) rfl rfl (by kernel_rfl) (by kernel_rfl) (by kernel_rfl) (fun _ _ _ h => h) (by kernel_rfl) (fun w hSw => by (try dsimp only at hSw); go_simp; try rfl) (by assumption) ?_
          try simp only [Act.put, List.setIfInBounds_toArray, List.set_cons_zero, List.set_cons_succ]
          refine take_heldS (i := 5) (d := 59) rfl rfl (by kernel_rfl) (by kernel_rfl) (by kernel_rfl) (fun _ _ _ h => h) (by kernel_rfl) (fun w hSw => by (try dsimp only at hSw); go_simp; try rfl) (by assumption) ?_
          try simp only [Act.put, List.setIfInBounds_toArray, List.set_cons_zero, List.set_cons_succ]
          refine take_heldS (i := 6) (d := 60) rfl rfl (by kernel_rfl) (by kernel_rfl) (by kernel_rfl) (fun _ _ _ h => h) (by kernel_rfl) (fun w hSw => by (try dsimp only at hSw); go_simp; try rfl) (by assumption) ?_
          try simp only [Act.put, List.setIfInBounds_toArray, List.set_cons_zero, List.set_cons_succ]
          refine take_heldS (i := 8) (d := 62) rfl rfl (by kernel_rfl) (by kernel_rfl) (by kernel_rfl) (fun _ _ _ h => h) (by kernel_rfl) (fun w hSw => by (try dsimp only at hSw); go_simp; try rfl) (by assumption) ?_
          try simp only [Act.put, List.setIfInBounds_toArray, List.set_cons_zero, List.set_cons_succ]
          refine take_heldS (i := 9) (d := 63) rfl rfl (by kernel_rfl) (by kernel_rfl) (by kernel_rfl) (fun _ _ _ h => h) (by kernel_rfl) (fun w hSw => by (try dsimp only at hSw); go_simp; try rfl) (by assumption) ?_
          try simp only [Act.put, List.setIfInBounds_toArray, List.set_cons_zero, List.set_cons_succ]
          refine take_heldS (i := 10) (d := 64) rfl rfl (by kernel_rfl) (by kernel_rfl) (by kernel_rfl) (fun _ _ _ h => h) (by kernel_rfl) (fun w hSw => by (try dsimp only at hSw); go_simp; try rfl) (by assumption) ?_
          try simp only [Act.put, List.setIfInBounds_toArray, List.set_cons_zero, List.set_cons_succ]
          refine take_heldS (i := 11) (d := 65) rfl rfl (by kernel_rfl) (by kernel_rfl) (by kernel_rfl) (fun _ _ _ h => h) (by kernel_rfl) (fun w hSw => by (try dsimp only at hSw); go_simp; try rfl) (by assumption) ?_
          try simp only [Act.put, List.setIfInBounds_toArray, List.set_cons_zero, List.set_cons_succ]
          refine take_heldS (i := 12) (d := 66) rfl rfl (by kernel_rfl) (by kernel_rfl) (by kernel_rfl) (fun _ _ _ h => h) (by kernel_rfl) (fun w hSw => by (try dsimp only at hSw); go_simp; try rfl) (by assumption) ?_
          try simp only [Act.put, List.setIfInBounds_toArray, List.set_cons_zero, List.set_cons_succ]
          refine take_heldS (i := 13) (d := 67) rfl rfl (by kernel_rfl) (by kernel_rfl) (by kernel_rfl) (fun _ _ _ h => h) (by kernel_rfl) (fun w hSw => by (try dsimp only at hSw); go_simp; try rfl) (by assumption) ?_
          try simp only [Act.put, List.setIfInBounds_toArray, List.set_cons_zero, List.set_cons_succ]
          refine take_heldS (i := 14) (d := 68) rfl rfl (by kernel_rfl) (by kernel_rfl) (by kernel_rfl) (fun _ _ _ h => h) (by kernel_rfl) (fun w hSw => by (try dsimp only at hSw); go_simp; try rfl) (by assumption) ?_
          try simp only [Act.put, List.setIfInBounds_toArray, List.set_cons_zero, List.set_cons_succ]
          refine take_heldS (i := 15) (d := 69) rfl rfl (by kernel_rfl) (by kernel_rfl) (by kernel_rfl) (fun _ _ _ h => h) (by kernel_rfl) (fun w hSw => by (try dsimp only at hSw); go_simp; try rfl) (by assumption) ?_
          try simp only [Act.put, List.setIfInBounds_toArray, List.set_cons_zero, List.set_cons_succ]
          refine wpAnyH_ready (rs := [7, 16]) (by kernel_rfl) (by simp) ?_
          refine AllReadyH.cons rfl (fun K hK => ?_) (AllReadyH.cons rfl (fun K hK => ?_) AllReadyH.nil)
          · go_simp
            refine hK.out _ _ (by exact ⟨p0, p1⟩) (fun hHeld => ?_)
            clear hK K
            try simp only [Act.put, List.setIfInBounds_toArray, List.set_cons_zero, List.set_cons_succ]
            refine wpAnyH_ready (rs := [16]) (by kernel_rfl) (by simp) ?_
            refine AllReadyH.cons rfl (fun K hK => ?_) AllReadyH.nil
            go_simp
            have u5 : (wv.alloc (.cells #[.int .i64 (m : Nat), .int .i64 wq, .int .i64 x] 69)).cell? ⟨gL, k, none⟩ = some (.slice (some ⟨gu, 0, none⟩) (rowN (shTo L M n wq x k) k) cu) := (World.cell?_alloc_lt _ _ ⟨gL, k, none⟩ (show gL < wv.heap.size from by omega)).trans pu
            have q5 : ((wv.alloc (.cells #[.int .i64 (m : Nat), .int .i64 wq, .int .i64 x] 69)).cell? ⟨X, 0, none⟩ = some (.slice (some ⟨gR, 0, none⟩) n c1) ∧ (wv.alloc (.cells #[.int .i64 (m : Nat), .int .i64 wq, .int .i64 x] 69)).cell? ⟨X, 1, none⟩ = some (.slice (some ⟨gL, 0, none⟩) n c2)) := ⟨(World.cell?_alloc_lt _ _ ⟨X, 0, none⟩ (show X < wv.heap.size from by omega)).trans p0, (World.cell?_alloc_lt _ _ ⟨X, 1, none⟩ (show X < wv.heap.size from by omega)).trans p1⟩
            refine hK.out _ _ (by exact q5) (fun hHeld => ?_)
            clear hK K
            try simp only [Act.put, List.setIfInBounds_toArray, List.set_cons_zero, List.set_cons_succ]
            refine wpAnyH_ready (rs := [17]) (by kernel_rfl) (by simp) ?_
            refine AllReadyH.cons rfl (fun K hK => ?_) AllReadyH.nil
            obtain ⟨gu2, cu2, hcu2, hou2⟩ := HSX.out.loads.row k hlt
            rw [HCU.out] at hcu2
            simp only [Option.some.injEq, Value.slice.injEq, Addr.mk.injEq, and_true, true_and] at hcu2
            obtain ⟨rfl, rfl⟩ := hcu2
            refine step_appRX rfl (.tmp 61) (.tmp 70) 42 rfl (w.heap.size + 2) 69 3 24 #[.int .i64 0, .int .i64 0, .int .i64 0] Try.underlying42 infoLoad rfl (by decide) (by decide) (.slice (some ⟨gu, 0, none⟩) (rowN (shTo L M n wq x k) k) cu) (rowN (shTo L M n wq x k) k) (rowZ (shTo L M n wq x k) k) rfl (by exact hou2.alloc _) wv.heap.size 1 1 [((m : Nat) : Int), wq, x] rfl rfl (by exact fun j hj => (rowF_new3S wv _ _ _ _).cell hj) (by omega) (by simp; omega) (by simp) ?_
            intro g' cap' w5 hown5 har5
            have HN5 := Lib.hid (HS.out.step (M' := shTo L M n wq x (k + 1)) (wy := (wv.alloc (.cells #[.int .i64 (m : Nat), .int .i64 wq, .int .i64 x] 69))) (HBX.out.alloc (by omega) _) hlt HCU.out hown5 har5 ⟨by rw [HNK.out.1, HMK.out.1], by rw [HNK.out.2, HMK.out.2, HT.out]⟩ (fun i hi hik => by
              by_cases hik2 : i < k
              · have e1 := shTo_lt (L := L) (M := M) (wq := wq) (x := x) (k := k + 1) hi (by omega)
                have e2 := shTo_lt (L := L) (M := M) (wq := wq) (x := x) (k := k) hi hik2
                rw [e1.1, e1.2, e2.1, e2.2]
                exact ⟨rfl, rfl⟩
              · have e1 := shTo_ge (L := L) (M := M) (wq := wq) (x := x) (k := k + 1) hi (by omega)
                have e2 := shTo_ge (L := L) (M := M) (wq := wq) (x := x) (k := k) hi hik2
                rw [e1.1, e1.2, e2.1, e2.2]
                exact ⟨rfl, rfl⟩))
            have hne : ∀ (b : Nat), b ≠ gu → ∀ g, ((.slice (some ⟨gu, 0, none⟩) (rowN (shTo L M n wq x k) k) cu) : Value).ownBlock = some g → g ≠ b := fun b hb g hg e => by simp [Value.ownBlock] at hg; omega
            have q6 : (w5.cell? ⟨X, 0, none⟩ = some (.slice (some ⟨gR, 0, none⟩) n c1) ∧ w5.cell? ⟨X, 1, none⟩ = some (.slice (some ⟨gL, 0, none⟩) n c2)) := ⟨(har5.cellStay (p := ⟨X, 0, none⟩) (by simp; omega) (hne X (fun e => t1 e.symm))).trans q5.1, (har5.cellStay (p := ⟨X, 1, none⟩) (by simp; omega) (hne X (fun e => t1 e.symm))).trans q5.2⟩
            have u6 : w5.cell? ⟨gL, k, none⟩ = some (.slice (some ⟨gu, 0, none⟩) (rowN (shTo L M n wq x k) k) cu) := (har5.cellStay (p := ⟨gL, k, none⟩) (by simp; omega) (hne gL (fun e => t3 e.symm))).trans u5
            have f0 : w5.frozen? ⟨gL, k, none⟩ = false := by have := World.ownsRow.frozenAt HN5.out.loads.cells.1 k; rwa [World.frozen?_setCell] at this
            refine hK.out _ _ (by exact q6) (fun hHeld => ?_)
            clear hK K
            try simp only [Act.put, List.setIfInBounds_toArray, List.set_cons_zero, List.set_cons_succ]
            refine take_heldS (i := 18) (d := 72) rfl rfl (by kernel_rfl) (by kernel_rfl) (by kernel_rfl) (fun _ _ _ h => h) (by kernel_rfl) (fun w hSw => by (try dsimp only at hSw); go_simp; try rfl) (by assumption) ?_
            try simp only [Act.put, List.setIfInBounds_toArray, List.set_cons_zero, List.set_cons_succ]
            refine wpAnyH_ready (rs := [19]) (by kernel_rfl) (by simp) ?_
            refine AllReadyH.cons rfl (fun K hK => ?_) AllReadyH.nil
            go_simp
            refine hK.out _ _ (by exact ⟨HN5.out.out.cell (i := 0) (by omega), HN5.out.out.cell (i := 1) (by omega)⟩) (fun hHeld => ?_)
            clear hK K
            try simp only [Act.put, List.setIfInBounds_toArray, List.set_cons_zero, List.set_cons_succ]
            refine wpAnyH_done (by kernel_rfl) ?_ _
            clear hHeld
            go_wp2
            go_roundw
            case rel => exact ⟨k + 1, _, by go_num, by omega, HN5⟩
            case measure => simp [intOf]; omega
          · go_simp
            have u5 : (wv.alloc (.cells #[.int .i64 (m : Nat), .int .i64 wq, .int .i64 x] 69)).cell? ⟨gL, k, none⟩ = some (.slice (some ⟨gu, 0, none⟩) (rowN (shTo L M n wq x k) k) cu) := (World.cell?_alloc_lt _ _ ⟨gL, k, none⟩ (show gL < wv.heap.size from by omega)).trans pu
            have q5 : ((wv.alloc (.cells #[.int .i64 (m : Nat), .int .i64 wq, .int .i64 x] 69)).cell? ⟨X, 0, none⟩ = some (.slice (some ⟨gR, 0, none⟩) n c1) ∧ (wv.alloc (.cells #[.int .i64 (m : Nat), .int .i64 wq, .int .i64 x] 69)).cell? ⟨X, 1, none⟩ = some (.slice (some ⟨gL, 0, none⟩) n c2)) := ⟨(World.cell?_alloc_lt _ _ ⟨X, 0, none⟩ (show X < wv.heap.size from by omega)).trans p0, (World.cell?_alloc_lt _ _ ⟨X, 1, none⟩ (show X < wv.heap.size from by omega)).trans p1⟩
            refine hK.out _ _ (by exact q5) (fun hHeld => ?_)
            clear hK K
            try simp only [Act.put, List.setIfInBounds_toArray, List.set_cons_zero, List.set_cons_succ]
            refine wpAnyH_ready (rs := [7]) (by kernel_rfl) (by simp) ?_
            refine AllReadyH.cons rfl (fun K hK => ?_) AllReadyH.nil
            go_simp
            refine hK.out _ _ (by exact q5) (fun hHeld => ?_)
            clear hK K
            try simp only [Act.put, List.setIfInBounds_toArray, List.set_cons_zero, List.set_cons_succ]
            refine wpAnyH_ready (rs := [17]) (by kernel_rfl) (by simp) ?_
            refine AllReadyH.cons rfl (fun K hK => ?_) AllReadyH.nil
            obtain ⟨gu2, cu2, hcu2, hou2⟩ := HSX.out.loads.row k hlt
            rw [HCU.out] at hcu2
            simp only [Option.some.injEq, Value.slice.injEq, Addr.mk.injEq, and_true, true_and] at hcu2
            obtain ⟨rfl, rfl⟩ := hcu2
            refine step_appRX rfl (.tmp 61) (.tmp 70) 42 rfl (w.heap.size + 2) 69 3 24 #[.int .i64 0, .int .i64 0, .int .i64 0] Try.underlying42 infoLoad rfl (by decide) (by decide) (.slice (some ⟨gu, 0, none⟩) (rowN (shTo L M n wq x k) k) cu) (rowN (shTo L M n wq x k) k) (rowZ (shTo L M n wq x k) k) rfl (by exact hou2.alloc _) wv.heap.size 1 1 [((m : Nat) : Int), wq, x] rfl rfl (by exact fun j hj => (rowF_new3S wv _ _ _ _).cell hj) (by omega) (by simp; omega) (by simp) ?_
            intro g' cap' w5 hown5 har5
            have HN5 := Lib.hid (HS.out.step (M' := shTo L M n wq x (k + 1)) (wy := (wv.alloc (.cells #[.int .i64 (m : Nat), .int .i64 wq, .int .i64 x] 69))) (HBX.out.alloc (by omega) _) hlt HCU.out hown5 har5 ⟨by rw [HNK.out.1, HMK.out.1], by rw [HNK.out.2, HMK.out.2, HT.out]⟩ (fun i hi hik => by
              by_cases hik2 : i < k
              · have e1 := shTo_lt (L := L) (M := M) (wq := wq) (x := x) (k := k + 1) hi (by omega)
                have e2 := shTo_lt (L := L) (M := M) (wq := wq) (x := x) (k := k) hi hik2
                rw [e1.1, e1.2, e2.1, e2.2]
                exact ⟨rfl, rfl⟩
              · have e1 := shTo_ge (L := L) (M := M) (wq := wq) (x := x) (k := k + 1) hi (by omega)
                have e2 := shTo_ge (L := L) (M := M) (wq := wq) (x := x) (k := k) hi hik2
                rw [e1.1, e1.2, e2.1, e2.2]
                exact ⟨rfl, rfl⟩))
            have hne : ∀ (b : Nat), b ≠ gu → ∀ g, ((.slice (some ⟨gu, 0, none⟩) (rowN (shTo L M n wq x k) k) cu) : Value).ownBlock = some g → g ≠ b := fun b hb g hg e => by simp [Value.ownBlock] at hg; omega
            have q6 : (w5.cell? ⟨X, 0, none⟩ = some (.slice (some ⟨gR, 0, none⟩) n c1) ∧ w5.cell? ⟨X, 1, none⟩ = some (.slice (some ⟨gL, 0, none⟩) n c2)) := ⟨(har5.cellStay (p := ⟨X, 0, none⟩) (by simp; omega) (hne X (fun e => t1 e.symm))).trans q5.1, (har5.cellStay (p := ⟨X, 1, none⟩) (by simp; omega) (hne X (fun e => t1 e.symm))).trans q5.2⟩
            have u6 : w5.cell? ⟨gL, k, none⟩ = some (.slice (some ⟨gu, 0, none⟩) (rowN (shTo L M n wq x k) k) cu) := (har5.cellStay (p := ⟨gL, k, none⟩) (by simp; omega) (hne gL (fun e => t3 e.symm))).trans u5
            have f0 : w5.frozen? ⟨gL, k, none⟩ = false := by have := World.ownsRow.frozenAt HN5.out.loads.cells.1 k; rwa [World.frozen?_setCell] at this
            refine hK.out _ _ (by exact q6) (fun hHeld => ?_)
            clear hK K
            try simp only [Act.put, List.setIfInBounds_toArray, List.set_cons_zero, List.set_cons_succ]
            refine take_heldS (i := 18) (d := 72) rfl rfl (by kernel_rfl) (by kernel_rfl) (by kernel_rfl) (fun _ _ _ h => h) (by kernel_rfl) (fun w hSw => by (try dsimp only at hSw); go_simp; try rfl) (by assumption) ?_
            try simp only [Act.put, List.setIfInBounds_toArray, List.set_cons_zero, List.set_cons_succ]
            refine wpAnyH_ready (rs := [19]) (by kernel_rfl) (by simp) ?_
            refine AllReadyH.cons rfl (fun K hK => ?_) AllReadyH.nil
            go_simp
            refine hK.out _ _ (by exact ⟨HN5.out.out.cell (i := 0) (by omega), HN5.out.out.cell (i := 1) (by omega)⟩) (fun hHeld => ?_)
            clear hK K
            try simp only [Act.put, List.setIfInBounds_toArray, List.set_cons_zero, List.set_cons_succ]
            refine wpAnyH_done (by kernel_rfl) ?_ _
            clear hHeld
            go_wp2
            go_roundw
            case rel => exact ⟨k + 1, _, by go_num, by omega, HN5⟩
            case measure => simp [intOf]; omega
    · obtain rfl : n = k := by omega
      clear hlt hk
      have HNT : Hid (NestAt wr wr.heap.size 4 (some ⟨gR, 0, none⟩) n L ∧ NestAt wr wr.heap.size 3 (some ⟨gL, 0, none⟩) n (shTo L M n wq x n)) := Lib.hid ⟨HS.out.ribs.nestAt HR.out.2, HS.out.loads.nestAt (by simp [shTo])⟩
      have HRM : Hid (∀ i, i < n → rowN (shTo L M n wq x n) i ≤ 1048576) := Lib.hid (fun i hi => by
        have e := shTo_lt (L := L) (M := M) (wq := wq) (x := x) (k := n) hi hi
        obtain ⟨_, hq6, _⟩ := loadsB_out (HRIB.out i hi)
        rw [e.1]; omega)
      go_wp2_with fail
      refine (sVaultOk_any _ _ _ L _ _ _ (shTo L M n wq x n) _ HNT.out.1 (by omega) HR.out.1.1 HNT.out.2 (by omega) HRM.out).mono ?_
      clear o0 o1
      cases hV2 : vaultB L n (shTo L M n wq x n) n
      · have HF := Lib.hid (HF3.out hV2)
        rintro e w4 ⟨rfl, hb4⟩
        have HS4 := Lib.hid (HS.out.after hb4)
        have a0 : w4.cell? ⟨w.heap.size, 0, none⟩ = some (.slice (some ⟨gA, 0, none⟩) n cA) := HS4.out.arg.cell (i := 0) (by omega)
        have a1 : w4.cell? ⟨w.heap.size, 1, none⟩ = some (.slice (some ⟨gB, 0, none⟩) n cB) := HS4.out.arg.cell (i := 1) (by omega)
        clear hb4 HS HNT HRM hV2
        go_wp2_with fail
        refine (sCopyVault_any gA n cA gB n cB L M _ (HA.out.after HS4.out.below) hn HR.out.1.1 HR.out.1.2 (HB.out.after HS4.out.below) hq HT.out.1.1 HT.out.1.2).mono ?_
        rintro e w5 ⟨vR5, vL5, csR5, csL5, rfl, hgr5, hgl5, hb5⟩
        have HS5 := Lib.hid (HS4.out.after hb5)
        have HG5 := Lib.hid (And.intro hgr5 hgl5)
        have hz4 := HS4.out.res.lt
        have HZ4 := Lib.hid hb5.size
        obtain ⟨A5, c5, rfl, _⟩ := hgr5.cells.slice
        obtain ⟨B5, d5, rfl, _⟩ := hgl5.cells.slice
        clear hgr5 hgl5 hb5 a0 a1
        have r0 : w5.cell? ⟨w.heap.size + 1, 0, none⟩ = some (.slice none 0 0) := HS5.out.res.cell (i := 0) (by omega)
        have r1 : w5.cell? ⟨w.heap.size + 1, 1, none⟩ = some (.slice none 0 0) := HS5.out.res.cell (i := 1) (by omega)
        have f0 := HS5.out.res.frozen 0
        have f1 := HS5.out.res.frozen 1
        have hs := RowF.lt HS5.out.res
        go_wp2
        refine bodyPost_ret (v := .tuple #[.agg #[.slice A5 n c5, .slice B5 n d5], .bool false]) (by simp [results, Try.results6, go_sem, *]) rfl ?_
        exact ⟨.slice A5 n c5, .slice B5 n d5, csR5, csL5, by rw [HF.out.1], ((HG5.out.1.setLow (by simp; omega) _).setLow (by simp; omega) _).mono (by omega), by rw [HF.out.2]; exact ((HG5.out.2.setLow (by simp; omega) _).setLow (by simp; omega) _).mono (by omega), (HS5.out.below.setCell (by simp) _).setCell (by simp) _⟩
      · have HF := Lib.hid (HFT.out hV2)
        rintro e w4 ⟨rfl, hb4⟩
        have HS4 := Lib.hid (HS.out.after hb4)
        clear hb4 HS HNT HRM hV2
        have d0 : w4.cell? ⟨X, 0, none⟩ = some (.slice (some ⟨gR, 0, none⟩) n c1) := HS4.out.out.cell (i := 0) (by omega)
        have d1 : w4.cell? ⟨X, 1, none⟩ = some (.slice (some ⟨gL, 0, none⟩) n c2) := HS4.out.out.cell (i := 1) (by omega)
        have r0 : w4.cell? ⟨w.heap.size + 1, 0, none⟩ = some (.slice none 0 0) := HS4.out.res.cell (i := 0) (by omega)
        have r1 : w4.cell? ⟨w.heap.size + 1, 1, none⟩ = some (.slice none 0 0) := HS4.out.res.cell (i := 1) (by omega)
        have f0 := HS4.out.res.frozen 0
        have f1 := HS4.out.res.frozen 1
        have hs := RowF.lt HS4.out.res
        go_wp2
        refine bodyPost_ret (v := .tuple #[.agg #[.slice (some ⟨gR, 0, none⟩) n c1, .slice (some ⟨gL, 0, none⟩) n c2], .bool true]) (by simp [results, Try.results6, go_sem, *]) rfl ?_
        exact ⟨.slice (some ⟨gR, 0, none⟩) n c1, .slice (some ⟨gL, 0, none⟩) n c2, csR, csL, by rw [HF.out.1], ((HS4.out.ribs.setLow (by simp) _).setLow (by simp) _).mono (by omega), by rw [HF.out.2]; exact ((HS4.out.loads.setLow (by simp) _).setLow (by simp) _).mono (by omega), (HS4.out.below.setCell (by simp) _).setCell (by simp) _⟩
end Go.Proofs.Ytdjhiegolojoaaa
