/-
  Contract: StageRows in the program.
-/
import Derived.Test.YtbcgckdjbabdjaaPStage
import Derived.Test.YtbcgckdjbabdjaaWRowsFor
import Derived.Test.YtbcgckdjbabdjaaWWts
import Derived.Maps.RangeWalk
namespace Go.Proofs.Ytbcgckdjbabdjaa
open Go.RowKit Go.Maps
set_option linter.unusedSimpArgs false

theorem lawIntM : Keyed Try.prog 3 := int_keyed Try.underlying3
theorem zeroWt (w : World) : (zeroValue 103).run Try.prog w = .ok (.agg #[.int .i64 0, .int .i64 0]) w := by kernel_rfl
/-- What the map of the free stones holds while it is made. -/
structure SMk (W1 wr : World) (g m k : Nat) (D : DataW Unit) (zs : List Int) : Prop where
  own : wr.ownsMap Try.prog 3 prR W1.heap.size k D
  mp : MapIs D (f1W zs k) (f1M zs k)
  row : RowF wr g 103 (m * 2) (ints (wmL zs [] 0 m))
  below : Below W1.heap.size W1 wr
theorem rowC_new2M (w : World) (a b : Int) (T : TypeId) : RowF (w.alloc (.cells #[.int .i64 a, .int .i64 b] T)) w.heap.size T 2 (ints [a, b]) :=
  RowF.of_row (World.rowIs_alloc w #[.int .i64 a, .int .i64 b] T _ (fun j hj => by simp at hj; match j, hj with | 0, _ => rfl | 1, _ => rfl))
theorem pr_look {w : World} {D : DataW Unit} {b n : Nat} {F G : Nat → Int} (h : w.ownsMap Try.prog 3 prR b n D) (hm : MapIs D F G) (j : Nat) (hj : j ≤ 1048576) :
    (Instr.lookup 99 (.map (some b)) (.int .i64 (j : Int)) false).run Try.prog w = .ok (.agg #[.int .i64 (F j), .int .i64 (G j)]) w := by
  obtain ⟨v, ps, hrun, hv⟩ := h.lookup lawIntM Try.underlying99 (zeroWt _) (prR_mk 0 0) (keyOf_int_mk Try.underlying3 (wf_inM (x := (j : Int)) (by omega)))
  rw [show (Lit.int .i64 (j : Int)) = keyL (j : Int) from rfl, hm j] at hv
  rw [hrun, prR_inj hv]

set_option maxRecDepth 100000 in
set_option maxHeartbeats 6400000 in
theorem iStageRows_any (A : Option Addr) (n c : Nat) (zs : List Int) (B : Option Addr) (q d : Nat) (cs : List Int) (w : World) (h : RecsAt w w.heap.size 4 A n zs) (hn : n ≤ 1048576) (hi : IntsAt w w.heap.size B q cs) (hq : q ≤ 1048576) :
    Calls Try.prog 15 #[.agg #[.slice A n c], .slice B q d] w (RowsPost w (stgN zs n cs q) (stgR zs n cs q)) := by
  have b0 : Below w.heap.size w (w.alloc (.cells #[.slice A n c] 31)) := (Below.refl _ _).alloc (Nat.le_refl _) _
  have h1 := h.after b0
  have l1 := hi.after b0
  have bx0 : Box (w.alloc (.cells #[.slice A n c] 31)) w.heap.size (.slice A n c) := Box.new _ _ _
  cases hL : carriedB zs n cs q
  · have HF := Lib.hid (stg_f hL)
    go_enter Try.func15, Try.ntmps15
    go_wp2_with fail
    refine (iCarriedOk_any _ _ _ zs _ _ _ cs _ h1 hn l1 hq).mono ?_
    rw [hL]
    rintro e w1 ⟨rfl, hb1⟩
    have HB1 := Lib.hid (below_then b0 hb1)
    clear hb1
    go_wp2
    go_ret
    exact ⟨_, rfl, by rw [HF.out.1, HF.out.2]; exact OwnR.nil _ _ _ _, HB1.out⟩
  have HT := Lib.hid (stg_t hL)
  obtain ⟨hA, hasc⟩ := carriedB_out hL
  have hn8 := (archB_out hA).1
  obtain ⟨m, rfl⟩ : ∃ m, n = m + 1 := ⟨n - 1, by omega⟩
  rw [Nat.add_sub_cancel] at HT
  have HA := Lib.hid hA
  have HWM := Lib.hid (wmok_stg (n := m + 1) cs q m hA)
  have HASC := Lib.hid hasc
  have HI := Lib.hid hi
  have HH := Lib.hid h
  have hmk := fun W => run_make_recs (P := Try.prog) 100 103 2 16 #[.int .i64 0, .int .i64 0] Try.underlying100 infoWt m (by omega) (by omega) W
  have e1 : ((m + 1 : Nat) : Int) - 1 = (m : Int) := by omega
  have e2 : IntKind.i64.wrap (((m + 1 : Nat) : Int) - 1) = (m : Int) := by rw [e1]; exact IntWalk.i64_in _ (by omega)
  have HMK := Lib.hid hmk
  have hmm := @run_makeMap Try.prog
  clear h hi hA hasc hmk
  go_enter Try.func15, Try.ntmps15
  go_wp2_with fail
  refine (iCarriedOk_any _ _ _ zs _ _ _ cs _ h1 hn l1 hq).mono ?_
  rw [hL]
  rintro e W1 ⟨rfl, hb1⟩
  have HB1 := Lib.hid (below_then b0 hb1)
  have BX1 := Lib.hid (bx0.after hb1)
  have h2 := h1.after hb1
  have hbm : Below W1.heap.size W1 (W1.alloc (.map #[] 0)) := (Below.refl _ _).alloc (Nat.le_refl _) _
  have h3 := h2.after hbm
  have BX2 := Lib.hid (BX1.out.after hbm)
  have HBM := Lib.hid hbm
  have cx2 := BX2.out.1
  have cx1 := BX1.out.1
  have hLB : loadsB zs (m + 1) [] 0 = true := loadsB_t HA.out (by omega) (allTo_0 _)
  clear hb1 b0 h1 l1 bx0 hL hbm h2
  go_wp2_with fail
  refine (weightsOf_any _ _ _ zs none 0 0 [] _ h3 RecsAt.nil hLB).mono ?_
  rw [Nat.add_sub_cancel]
  rintro e W2 ⟨g, rfl, hg, hr2, hb2⟩
  have HM0 : Hid (SMk W1 W2 g m 0 (.map []) zs) := by
    refine ⟨?_, mapIs_0 zs, hr2, HBM.out.trans (hb2.mono HBM.out.size)⟩
    exact (World.ownsMap_made W1 Try.prog 3 prR).kept (row := none) ⟨hb2.os, hb2.tape, hb2.output, hb2.size, fun i hi _ => hb2.block i hi⟩ (by simp)
  have hgl : W1.heap.size < g := by simp at hg; omega
  clear hr2 hb2 h3 hLB cx1 cx2 hg hmm
  go_wp2
  go_loopw [20] (fun v20 wr => ∃ (k : Nat) (D : DataW Unit), k ≤ m ∧ v20 = .int .i64 k ∧ Hid (SMk W1 wr g m k D zs)) (fun v20 _ => m - (intOf v20).toNat)
  case atStart => exact ⟨0, _, Nat.zero_le _, rfl, HM0⟩
  case round =>
    clear HM0
    obtain ⟨k, D, hk, rfl, HM⟩ := hrel
    by_cases hlt : k < m
    · have ki : (k : Int) < (m : Int) := by omega
      have k0 : (0 : Int) ≤ (k : Int) := by omega
      have hz := HM.out.below.size
      have hnth := wmL_nth zs [] 0 hlt
      rw [kwTo_0, kmTo_0] at hnth
      have x0 : wr.cell? ⟨g, k * 2, none⟩ = some (.int .i64 (swt zs k)) := by
        have h := HM.out.row.cell (i := k * 2) (by omega)
        rw [ints_def, hnth.1] at h
        exact h
      have x1 : wr.cell? ⟨g, k * 2 + 1, none⟩ = some (.int .i64 (smt zs k)) := by
        have h := HM.out.row.cell (i := k * 2 + 1) (by omega)
        rw [ints_def, hnth.2] at h
        exact h
      have hrl := HM.out.row.lt
      have bn := rowC_new2M wr (swt zs k) (smt zs k) 103
      have y0 : (wr.alloc (.cells #[.int .i64 (swt zs k), .int .i64 (smt zs k)] 103)).cell? ⟨wr.heap.size, 0, none⟩ = some (.int .i64 (swt zs k)) := bn.cell (by omega)
      have y1 : (wr.alloc (.cells #[.int .i64 (swt zs k), .int .i64 (smt zs k)] 103)).cell? ⟨wr.heap.size, 1, none⟩ = some (.int .i64 (smt zs k)) := bn.cell (by omega)
      have HOW := Lib.hid (HM.out.own.alloc (.cells #[.int .i64 (swt zs k), .int .i64 (smt zs k)] 103))
      have HROW := Lib.hid (HM.out.row.alloc (.cells #[.int .i64 (swt zs k), .int .i64 (smt zs k)] 103))
      have HBE := Lib.hid (HM.out.below.alloc hz (.cells #[.int .i64 (swt zs k), .int .i64 (smt zs k)] 103))
      have HMP := Lib.hid (mapIs_put HM.out.own.isMap HM.out.mp)
      have hkey : keyOf Try.prog 3 (.int .i64 (k : Int)) = some (keyL (k : Int)) := keyOf_int_mk Try.underlying3 (wf_inM (x := (k : Int)) (by omega))
      clear hnth bn HM
      go_wp2_with (at_mapUpdate; refine wpList_mapUpdate_own _ rfl (.tmp 25) (.tmp 26) (.tmp 27) 99 rfl 3 103 lawIntM Try.underlying99 prR W1.heap.size k D rfl (by exact HOW.out) (by unfold maxLen; omega) (.int .i64 (k : Int)) (.agg #[.int .i64 (swt zs k), .int .i64 (smt zs k)]) (keyL (k : Int)) rfl rfl hkey (prD (swt zs k) (smt zs k)) [] rfl ?_; intro w3 hown3 hgr3)
      have HM3 : Hid (SMk W1 w3 g m (k + 1) (D.put (keyL (k : Int)) (prD (swt zs k) (smt zs k))) zs) :=
        ⟨hown3, HMP.out, HROW.out.of_block (grown_block hgr3 g (by simp; omega) (by intro e; injection e with e; omega)), HBE.out.grown hgr3 (by simp; omega) (fun j hj => by cases hj; exact Nat.le_refl _)⟩
      clear hown3 hgr3 hkey
      go_wp2
      go_roundw
      case rel => exact ⟨k + 1, _, by omega, by go_num, HM3⟩
      case measure => simp [intOf]; omega
    · obtain rfl : m = k := by omega
      have HD : Hid (wr.ownsMap Try.prog 3 prR W1.heap.size m D ∧ MapIs D (f2W zs cs m 0) (f2M zs cs m 0) ∧ Below W1.heap.size W1 wr) := ⟨HM.out.own, mapIs_12 cs HM.out.mp, HM.out.below⟩
      clear HM
      go_wp2
      go_loopw [31] (fun v31 wr => ∃ (i : Nat) (D : DataW Unit), i ≤ q ∧ v31 = .int .i64 i ∧ Hid (wr.ownsMap Try.prog 3 prR W1.heap.size m D ∧ MapIs D (f2W zs cs m i) (f2M zs cs m i) ∧ Below W1.heap.size W1 wr)) (fun v31 _ => q - (intOf v31).toNat)
      case atStart => exact ⟨0, _, Nat.zero_le _, rfl, HD⟩
      case round =>
        clear HD
        obtain ⟨i, D, hi', rfl, HD⟩ := hrel
        by_cases hlt : i < q
        · obtain ⟨bi, oi, rfl, hbi, hci⟩ := HI.out.2 (by omega)
          have x0 : wr.cell? ⟨bi, oi + i, none⟩ = some (.int .i64 (nth cs i)) := ((HB1.out.trans (HD.out.2.2.mono HB1.out.size)).cell (p := ⟨bi, oi + i, none⟩) hbi).trans (hci i hlt)
          have hin := asc_in HASC.out hlt
          have ki : (i : Int) < (q : Int) := by omega
          have k0 : (0 : Int) ≤ (i : Int) := by omega
          have hkey : keyOf Try.prog 3 (.int .i64 (nth cs i)) = some (keyL (nth cs i)) := keyOf_int_mk Try.underlying3 (wf_inM (x := nth cs i) (by omega))
          clear hci
          go_wp2_with (at_delete; refine wpList_delete_own _ rfl (.tmp 35) (.tmp 36) 99 3 rfl 103 lawIntM Try.underlying99 prR W1.heap.size m D rfl (by exact HD.out.1) (.int .i64 (nth cs i)) (keyL (nth cs i)) rfl hkey ?_; intro w3 hown3 htu3)
          have HD3 : Hid (w3.ownsMap Try.prog 3 prR W1.heap.size m (D.del (keyL (nth cs i))) ∧ MapIs (D.del (keyL (nth cs i))) (f2W zs cs m (i + 1)) (f2M zs cs m (i + 1)) ∧ Below W1.heap.size W1 w3) :=
            ⟨hown3, mapIs_del HD.out.2.1, HD.out.2.2.grown htu3.grown HD.out.2.2.size (fun j hj => by cases hj; exact Nat.le_refl _)⟩
          clear hown3 htu3 hkey
          go_wp2
          go_roundw
          case rel => exact ⟨i + 1, _, by omega, by go_num, HD3⟩
          case measure => simp [intOf]; omega
        · obtain rfl : i = q := by omega
          have cx : wr.cell? ⟨w.heap.size, 0, none⟩ = some (.slice A (m + 1) c) := (HD.out.2.2.cell (p := ⟨w.heap.size, 0, none⟩) BX1.out.2).trans BX1.out.1
          have hz := HD.out.2.2.size
          have hmk := HMK.out
          have HS0 : Hid ((wr.alloc (.cells (madeCells #[.int .i64 0, .int .i64 0] (m * 2)) 103)).ownsMap Try.prog 3 prR W1.heap.size m D ∧ RowF (wr.alloc (.cells (madeCells #[.int .i64 0, .int .i64 0] (m * 2)) 103)) wr.heap.size 103 (m * 2) (fill (stgL zs cs i m) (0 * 2)) ∧ Below W1.heap.size W1 (wr.alloc (.cells (madeCells #[.int .i64 0, .int .i64 0] (m * 2)) 103))) :=
            ⟨HD.out.1.alloc _, RowF.of_row (rowIs_made0 wr #[.int .i64 0, .int .i64 0] 103 (m * 2) (fun j hj => by simp at hj; match j, hj with | 0, _ => rfl | 1, _ => rfl) (by simp) (stgL zs cs i m)), HD.out.2.2.alloc hz _⟩
          have HMI := Lib.hid HD.out.2.1
          obtain ⟨W3, rfl⟩ : ∃ W3 : World, W3 = wr := ⟨_, rfl⟩
          have hml := HD.out.1.lt
          clear HD
          go_wp2
          clear hmk cx
          go_loopw [45] (fun v45 wr => ∃ (k : Nat), k ≤ m ∧ v45 = .int .i64 k ∧ Hid (wr.ownsMap Try.prog 3 prR W1.heap.size m D ∧ RowF wr W3.heap.size 103 (m * 2) (fill (stgL zs cs i m) (k * 2)) ∧ Below W1.heap.size W1 wr)) (fun v45 _ => m - (intOf v45).toNat)
          case atStart => exact ⟨0, Nat.zero_le _, rfl, HS0⟩
          case round =>
            clear HS0
            obtain ⟨k, hk, rfl, HS⟩ := hrel
            by_cases hlt : k < m
            · have ki : (k : Int) < (m : Int) := by omega
              have k0 : (0 : Int) ≤ (k : Int) := by omega
              have hl1 := pr_look HS.out.1 HMI.out k (by omega)
              rw [(f2_stg hlt).1, (f2_stg hlt).2] at hl1
              have z0 : wr.cell? ⟨W3.heap.size, k * 2, none⟩ = some (.int .i64 0) := by
                have h := HS.out.2.1.cell (i := k * 2) (by omega)
                rw [fill_at _ (by omega)] at h
                exact h
              have z1 : wr.cell? ⟨W3.heap.size, k * 2 + 1, none⟩ = some (.int .i64 0) := by
                have h := HS.out.2.1.cell (i := k * 2 + 1) (by omega)
                rw [fill_at _ (by omega)] at h
                exact h
              have f0 := HS.out.2.1.frozen (k * 2)
              have f1 := HS.out.2.1.frozen (k * 2 + 1)
              have HS3 : Hid (((wr.setCell ⟨W3.heap.size, k * 2, none⟩ (.int .i64 (stgW zs cs i k))).setCell ⟨W3.heap.size, k * 2 + 1, none⟩ (.int .i64 (stgM zs cs i k))).ownsMap Try.prog 3 prR W1.heap.size m D ∧ RowF ((wr.setCell ⟨W3.heap.size, k * 2, none⟩ (.int .i64 (stgW zs cs i k))).setCell ⟨W3.heap.size, k * 2 + 1, none⟩ (.int .i64 (stgM zs cs i k))) W3.heap.size 103 (m * 2) (fill (stgL zs cs i m) ((k + 1) * 2)) ∧ Below W1.heap.size W1 ((wr.setCell ⟨W3.heap.size, k * 2, none⟩ (.int .i64 (stgW zs cs i k))).setCell ⟨W3.heap.size, k * 2 + 1, none⟩ (.int .i64 (stgM zs cs i k)))) := by
                refine ⟨(HS.out.1.setCell (by simp; omega) _).setCell (by simp; omega) _, ?_, (HS.out.2.2.setCell (by simp; omega) _).setCell (by simp; omega) _⟩
                rw [← stgL_fill hlt]
                exact (HS.out.2.1.set (k * 2) _).set (k * 2 + 1) _
              generalize stgW zs cs i k = sw at *
              generalize stgM zs cs i k = sm at *
              clear HS
              go_wp2
              go_roundw
              case rel => exact ⟨k + 1, by omega, by go_num, HS3⟩
              case measure => simp [intOf]; omega
            · obtain rfl : m = k := by omega
              have cx : wr.cell? ⟨w.heap.size, 0, none⟩ = some (.slice A (m + 1) c) := (HS.out.2.2.cell (p := ⟨w.heap.size, 0, none⟩) BX1.out.2).trans BX1.out.1
              have r1 := HH.out.below (HB1.out.trans (HS.out.2.2.mono HB1.out.size)) |>.mono (Nat.le_trans HB1.out.size HS.out.2.2.size)
              have r2 : RecsAt wr wr.heap.size 2 (some ⟨W3.heap.size, 0, none⟩) m (stgL zs cs i m) := (HS.out.2.1.congr (fun j hj => fill_end _ hj)).recs (stgL_len _ _ _ _)
              have HBF := Lib.hid (HB1.out.trans (HS.out.2.2.mono HB1.out.size))
              clear HS
              go_wp2_with fail
              refine (rowsFor_any _ _ _ zs _ _ (stgL zs cs i m) _ r1 (by exact r2) HA.out HWM.out).mono ?_
              rintro e w5 ⟨v5, rfl, ho5, hb5⟩
              obtain ⟨A5, c5, rfl, _⟩ := ho5.slice
              have HO5 := Lib.hid (ho5.weaken HBF.out.size)
              have HB5 := Lib.hid (below_then HBF.out hb5)
              clear ho5 hb5
              go_wp2
              go_ret
              exact ⟨_, rfl, by rw [HT.out.1, HT.out.2]; exact HO5.out, HB5.out⟩
end Go.Proofs.Ytbcgckdjbabdjaa
