/-
  Texts that the law stands on, part 15.
-/
import Derived.Test.YtbpnbhemdbgmjaaGreatM13
import Derived.Test.YtbpnbhemdbgmjaaGreatM14
import Derived.WalkMore
import Derived.Deep.DeepCutAuto
section
namespace Go.Proofs.YtbpnbhemdbgmjaaGreat
open Go.RowKit
set_option linter.unusedSimpArgs false
set_option linter.unusedVariables false
theorem step_storeRow {P : Program} {ops : Array Oper} {o : Oper} {a : Act} {w : World} {K : Act → World → Prop} {Q : Exit → Act → World → Prop} {F : Prop} (hgd : o.guard = none) (ty : TypeId) (x y : Operand) (ho : o.op = .store ty x y)
    (g : Nat) (cells : Array Value) (hx : a.eval x = .pointer (some ⟨g, 0, none⟩)) (hy : a.eval y = .agg cells)
    (t : TypeId) (old : Array Value) (hg : w.heap[g]? = some (.cells old t (0, 0))) (hi : (P.info? ty).map (·.size) = some cells.size)
    (hold : old.size = cells.size) (h1 : cells.all (·.oneCell') = true)
    (h : ∀ w', Only g w w' → w'.heap[g]? = some (.cells cells t (0, 0)) → K (a.put o.dst undef) w') : if Region.wanted o (yielded ops a.tmps) = true then o.wp P a w K Q else F := by
  have hw : Region.wanted o (yielded ops a.tmps) = true := by simp [Region.wanted, hgd]
  rw [if_pos hw]
  exact wp_store_row ty x y ho g cells hx hy t old hg hi hold h1 (h _ ⟨rfl, rfl, rfl, by simp, fun k hk => setRow_other w g k cells hk⟩ (setRow_heap w g old cells t (0, 0) hg))
theorem results_cell4 {P : Program} {fn : Func} {a b c d : Tmp} {ty : TypeId} (h : fn.results = #[.cell a ty, .cell b ty, .cell c ty, .cell d ty]) (tmps : Array Value) (w : World) (ga gb gc gd : Nat) (t : TypeId) (ca cb cc cd : Array Value) (fr : Nat × Nat) (e : TypeDesc)
    (pa : tmps.getD a undef = .pointer (some ⟨ga, 0, none⟩)) (pb : tmps.getD b undef = .pointer (some ⟨gb, 0, none⟩)) (pc : tmps.getD c undef = .pointer (some ⟨gc, 0, none⟩)) (pd : tmps.getD d undef = .pointer (some ⟨gd, 0, none⟩))
    (ha : w.heap[ga]? = some (.cells ca t fr)) (hb : w.heap[gb]? = some (.cells cb t fr)) (hc : w.heap[gc]? = some (.cells cc t fr)) (hd : w.heap[gd]? = some (.cells cd t fr))
    (hu : P.underlying ty = some e) (he : (match e with | .struct _ | .array _ _ => true | _ => false) = true) (ia : (P.info? ty).map (·.size) = some ca.size) (ib : (P.info? ty).map (·.size) = some cb.size) (ic : (P.info? ty).map (·.size) = some cc.size) (id : (P.info? ty).map (·.size) = some cd.size) :
    (results fn tmps).run P w = .ok (.tuple #[.agg ca, .agg cb, .agg cc, .agg cd]) w := by
  have pa' : tmps[a]?.getD undef = .pointer (some ⟨ga, 0, none⟩) := by simpa using pa
  have pb' : tmps[b]?.getD undef = .pointer (some ⟨gb, 0, none⟩) := by simpa using pb
  have pc' : tmps[c]?.getD undef = .pointer (some ⟨gc, 0, none⟩) := by simpa using pc
  have pd' : tmps[d]?.getD undef = .pointer (some ⟨gd, 0, none⟩) := by simpa using pd
  simp [results, h, pa', pb', pc', pd', asAddr, run_loadVar_row w ga t ty ca fr e ha hu he ia, run_loadVar_row w gb t ty cb fr e hb hu he ib, run_loadVar_row w gc t ty cc fr e hc hu he ic, run_loadVar_row w gd t ty cd fr e hd hu he id]
theorem keepR {w1 w2 : World} {b : Nat} {pa pb pc pd qa qb qc qd ra rb rc rd : Int} (h : (w1.cell? ⟨b, 0, none⟩ = some (.int .i64 pa) ∧ w1.cell? ⟨b, 1, none⟩ = some (.int .i64 pb) ∧ w1.cell? ⟨b, 2, none⟩ = some (.int .i64 pc) ∧ w1.cell? ⟨b, 3, none⟩ = some (.int .i64 pd)) ∧ (w1.cell? ⟨b + 1, 0, none⟩ = some (.int .i64 qa) ∧ w1.cell? ⟨b + 1, 1, none⟩ = some (.int .i64 qb) ∧ w1.cell? ⟨b + 1, 2, none⟩ = some (.int .i64 qc) ∧ w1.cell? ⟨b + 1, 3, none⟩ = some (.int .i64 qd)) ∧ (w1.cell? ⟨b + 1 + 1, 0, none⟩ = some (.int .i64 ra) ∧ w1.cell? ⟨b + 1 + 1, 1, none⟩ = some (.int .i64 rb) ∧ w1.cell? ⟨b + 1 + 1, 2, none⟩ = some (.int .i64 rc) ∧ w1.cell? ⟨b + 1 + 1, 3, none⟩ = some (.int .i64 rd))) (e : ∀ x y, x < b + 1 + 1 + 1 → w2.cell? ⟨x, y, none⟩ = w1.cell? ⟨x, y, none⟩) : (w2.cell? ⟨b, 0, none⟩ = some (.int .i64 pa) ∧ w2.cell? ⟨b, 1, none⟩ = some (.int .i64 pb) ∧ w2.cell? ⟨b, 2, none⟩ = some (.int .i64 pc) ∧ w2.cell? ⟨b, 3, none⟩ = some (.int .i64 pd)) ∧ (w2.cell? ⟨b + 1, 0, none⟩ = some (.int .i64 qa) ∧ w2.cell? ⟨b + 1, 1, none⟩ = some (.int .i64 qb) ∧ w2.cell? ⟨b + 1, 2, none⟩ = some (.int .i64 qc) ∧ w2.cell? ⟨b + 1, 3, none⟩ = some (.int .i64 qd)) ∧ (w2.cell? ⟨b + 1 + 1, 0, none⟩ = some (.int .i64 ra) ∧ w2.cell? ⟨b + 1 + 1, 1, none⟩ = some (.int .i64 rb) ∧ w2.cell? ⟨b + 1 + 1, 2, none⟩ = some (.int .i64 rc) ∧ w2.cell? ⟨b + 1 + 1, 3, none⟩ = some (.int .i64 rd)) := by
  obtain ⟨⟨h1, h2, h3, h4⟩, ⟨h5, h6, h7, h8⟩, ⟨h9, h10, h11, h12⟩⟩ := h
  exact ⟨⟨(e _ _ (by omega)).trans h1, (e _ _ (by omega)).trans h2, (e _ _ (by omega)).trans h3, (e _ _ (by omega)).trans h4⟩, ⟨(e _ _ (by omega)).trans h5, (e _ _ (by omega)).trans h6, (e _ _ (by omega)).trans h7, (e _ _ (by omega)).trans h8⟩, ⟨(e _ _ (by omega)).trans h9, (e _ _ (by omega)).trans h10, (e _ _ (by omega)).trans h11, (e _ _ (by omega)).trans h12⟩⟩
set_option maxRecDepth 100000 in
set_option maxHeartbeats 6400000 in
theorem iCols_any (pa pb pc pd qa qb qc qd ra rb rc rd : Int) (w : World) :
    Calls Tryz.prog 185 #[.agg #[.int .i64 pa, .int .i64 pb, .int .i64 pc, .int .i64 pd], .agg #[.int .i64 qa, .int .i64 qb, .int .i64 qc, .int .i64 qd], .agg #[.int .i64 ra, .int .i64 rb, .int .i64 rc, .int .i64 rd]] w fun e w' =>
      e = .returned (.tuple #[.agg #[.int .i64 pa, .int .i64 qa, .int .i64 ra], .agg #[.int .i64 pb, .int .i64 qb, .int .i64 rb], .agg #[.int .i64 pc, .int .i64 qc, .int .i64 rc], .agg #[.int .i64 pd, .int .i64 qd, .int .i64 rd]]) ∧ Below w.heap.size w w' := by
  have hb : ∀ u : World, Below u.heap.size u (u.alloc (.cells #[.int .i64 0, .int .i64 0, .int .i64 0] 205)) := fun u => (Below.refl _ _).alloc (Nat.le_refl _) _
  have HR := Lib.hid (((((R3.start w pa pb pc pd qa qb qc qd ra rb rc rd 65).after (hb _)).after (hb _)).after (hb _)).after (hb _))
  have Z0 := Lib.hid ((heap_alloc_old ((((((w.alloc (.cells #[.int .i64 pa, .int .i64 pb, .int .i64 pc, .int .i64 pd] 65)).alloc (.cells #[.int .i64 qa, .int .i64 qb, .int .i64 qc, .int .i64 qd] 65)).alloc (.cells #[.int .i64 ra, .int .i64 rb, .int .i64 rc, .int .i64 rd] 65)).alloc (.cells #[.int .i64 0, .int .i64 0, .int .i64 0] 205)).alloc (.cells #[.int .i64 0, .int .i64 0, .int .i64 0] 205)).alloc (.cells #[.int .i64 0, .int .i64 0, .int .i64 0] 205)) (.cells #[.int .i64 0, .int .i64 0, .int .i64 0] 205) (by first | (simp; done) | (simp; omega))).trans ((heap_alloc_old (((((w.alloc (.cells #[.int .i64 pa, .int .i64 pb, .int .i64 pc, .int .i64 pd] 65)).alloc (.cells #[.int .i64 qa, .int .i64 qb, .int .i64 qc, .int .i64 qd] 65)).alloc (.cells #[.int .i64 ra, .int .i64 rb, .int .i64 rc, .int .i64 rd] 65)).alloc (.cells #[.int .i64 0, .int .i64 0, .int .i64 0] 205)).alloc (.cells #[.int .i64 0, .int .i64 0, .int .i64 0] 205)) (.cells #[.int .i64 0, .int .i64 0, .int .i64 0] 205) (by first | (simp; done) | (simp; omega))).trans ((heap_alloc_old ((((w.alloc (.cells #[.int .i64 pa, .int .i64 pb, .int .i64 pc, .int .i64 pd] 65)).alloc (.cells #[.int .i64 qa, .int .i64 qb, .int .i64 qc, .int .i64 qd] 65)).alloc (.cells #[.int .i64 ra, .int .i64 rb, .int .i64 rc, .int .i64 rd] 65)).alloc (.cells #[.int .i64 0, .int .i64 0, .int .i64 0] 205)) (.cells #[.int .i64 0, .int .i64 0, .int .i64 0] 205) (by first | (simp; done) | (simp; omega))).trans (heap_alloc_new (((w.alloc (.cells #[.int .i64 pa, .int .i64 pb, .int .i64 pc, .int .i64 pd] 65)).alloc (.cells #[.int .i64 qa, .int .i64 qb, .int .i64 qc, .int .i64 qd] 65)).alloc (.cells #[.int .i64 ra, .int .i64 rb, .int .i64 rc, .int .i64 rd] 65)) (.cells #[.int .i64 0, .int .i64 0, .int .i64 0] 205)))))
  have Z1 := Lib.hid ((heap_alloc_old ((((((w.alloc (.cells #[.int .i64 pa, .int .i64 pb, .int .i64 pc, .int .i64 pd] 65)).alloc (.cells #[.int .i64 qa, .int .i64 qb, .int .i64 qc, .int .i64 qd] 65)).alloc (.cells #[.int .i64 ra, .int .i64 rb, .int .i64 rc, .int .i64 rd] 65)).alloc (.cells #[.int .i64 0, .int .i64 0, .int .i64 0] 205)).alloc (.cells #[.int .i64 0, .int .i64 0, .int .i64 0] 205)).alloc (.cells #[.int .i64 0, .int .i64 0, .int .i64 0] 205)) (.cells #[.int .i64 0, .int .i64 0, .int .i64 0] 205) (by first | (simp; done) | (simp; omega))).trans ((heap_alloc_old (((((w.alloc (.cells #[.int .i64 pa, .int .i64 pb, .int .i64 pc, .int .i64 pd] 65)).alloc (.cells #[.int .i64 qa, .int .i64 qb, .int .i64 qc, .int .i64 qd] 65)).alloc (.cells #[.int .i64 ra, .int .i64 rb, .int .i64 rc, .int .i64 rd] 65)).alloc (.cells #[.int .i64 0, .int .i64 0, .int .i64 0] 205)).alloc (.cells #[.int .i64 0, .int .i64 0, .int .i64 0] 205)) (.cells #[.int .i64 0, .int .i64 0, .int .i64 0] 205) (by first | (simp; done) | (simp; omega))).trans (heap_alloc_new ((((w.alloc (.cells #[.int .i64 pa, .int .i64 pb, .int .i64 pc, .int .i64 pd] 65)).alloc (.cells #[.int .i64 qa, .int .i64 qb, .int .i64 qc, .int .i64 qd] 65)).alloc (.cells #[.int .i64 ra, .int .i64 rb, .int .i64 rc, .int .i64 rd] 65)).alloc (.cells #[.int .i64 0, .int .i64 0, .int .i64 0] 205)) (.cells #[.int .i64 0, .int .i64 0, .int .i64 0] 205))))
  have Z2 := Lib.hid ((heap_alloc_old ((((((w.alloc (.cells #[.int .i64 pa, .int .i64 pb, .int .i64 pc, .int .i64 pd] 65)).alloc (.cells #[.int .i64 qa, .int .i64 qb, .int .i64 qc, .int .i64 qd] 65)).alloc (.cells #[.int .i64 ra, .int .i64 rb, .int .i64 rc, .int .i64 rd] 65)).alloc (.cells #[.int .i64 0, .int .i64 0, .int .i64 0] 205)).alloc (.cells #[.int .i64 0, .int .i64 0, .int .i64 0] 205)).alloc (.cells #[.int .i64 0, .int .i64 0, .int .i64 0] 205)) (.cells #[.int .i64 0, .int .i64 0, .int .i64 0] 205) (by first | (simp; done) | (simp; omega))).trans (heap_alloc_new (((((w.alloc (.cells #[.int .i64 pa, .int .i64 pb, .int .i64 pc, .int .i64 pd] 65)).alloc (.cells #[.int .i64 qa, .int .i64 qb, .int .i64 qc, .int .i64 qd] 65)).alloc (.cells #[.int .i64 ra, .int .i64 rb, .int .i64 rc, .int .i64 rd] 65)).alloc (.cells #[.int .i64 0, .int .i64 0, .int .i64 0] 205)).alloc (.cells #[.int .i64 0, .int .i64 0, .int .i64 0] 205)) (.cells #[.int .i64 0, .int .i64 0, .int .i64 0] 205)))
  have Z3 := Lib.hid (heap_alloc_new ((((((w.alloc (.cells #[.int .i64 pa, .int .i64 pb, .int .i64 pc, .int .i64 pd] 65)).alloc (.cells #[.int .i64 qa, .int .i64 qb, .int .i64 qc, .int .i64 qd] 65)).alloc (.cells #[.int .i64 ra, .int .i64 rb, .int .i64 rc, .int .i64 rd] 65)).alloc (.cells #[.int .i64 0, .int .i64 0, .int .i64 0] 205)).alloc (.cells #[.int .i64 0, .int .i64 0, .int .i64 0] 205)).alloc (.cells #[.int .i64 0, .int .i64 0, .int .i64 0] 205)) (.cells #[.int .i64 0, .int .i64 0, .int .i64 0] 205))
  simp only [World.size_alloc] at Z0 Z1 Z2 Z3
  clear hb
  go_enter Tryz.func185, Tryz.ntmps185
  go_upto_region 1 with fail
  generalize (((((((w.alloc (.cells #[.int .i64 pa, .int .i64 pb, .int .i64 pc, .int .i64 pd] 65)).alloc (.cells #[.int .i64 qa, .int .i64 qb, .int .i64 qc, .int .i64 qd] 65)).alloc (.cells #[.int .i64 ra, .int .i64 rb, .int .i64 rc, .int .i64 rd] 65)).alloc (.cells #[.int .i64 0, .int .i64 0, .int .i64 0] 205)).alloc (.cells #[.int .i64 0, .int .i64 0, .int .i64 0] 205)).alloc (.cells #[.int .i64 0, .int .i64 0, .int .i64 0] 205)).alloc (.cells #[.int .i64 0, .int .i64 0, .int .i64 0] 205)) = w7 at *
  obtain ⟨p0, p1, p2, p3⟩ := HR.out.p.1
  obtain ⟨q0, q1, q2, q3⟩ := HR.out.q.1
  obtain ⟨r0, r1, r2, r3⟩ := HR.out.r.1
  go_cut [6, 7, 8, 9] (fun s6 s7 s8 s9 wx => s6 = .pointer (some ⟨w.heap.size + 1 + 1 + 1, 0, none⟩) ∧ s7 = .pointer (some ⟨w.heap.size + 1 + 1 + 1 + 1, 0, none⟩) ∧ s8 = .pointer (some ⟨w.heap.size + 1 + 1 + 1 + 1 + 1, 0, none⟩) ∧ s9 = .pointer (some ⟨w.heap.size + 1 + 1 + 1 + 1 + 1 + 1, 0, none⟩) ∧ Hid (wx.heap[w.heap.size + 1 + 1 + 1]? = some (.cells #[.int .i64 pa, .int .i64 qa, .int .i64 ra] 205 (0, 0))) ∧ Hid (wx.heap[w.heap.size + 1 + 1 + 1 + 1]? = some (.cells #[.int .i64 pb, .int .i64 qb, .int .i64 rb] 205 (0, 0))) ∧ Hid (wx.heap[w.heap.size + 1 + 1 + 1 + 1 + 1]? = some (.cells #[.int .i64 pc, .int .i64 qc, .int .i64 rc] 205 (0, 0))) ∧ Hid (wx.heap[w.heap.size + 1 + 1 + 1 + 1 + 1 + 1]? = some (.cells #[.int .i64 pd, .int .i64 qd, .int .i64 rd] 205 (0, 0))) ∧ Hid (Below w.heap.size w wx))
  case first =>
    have HB0 := Lib.hid HR.out.below
    clear HR
    refine wp_region_held_drew (S := fun w' => (w'.cell? ⟨w.heap.size, 0, none⟩ = some (.int .i64 pa) ∧ w'.cell? ⟨w.heap.size, 1, none⟩ = some (.int .i64 pb) ∧ w'.cell? ⟨w.heap.size, 2, none⟩ = some (.int .i64 pc) ∧ w'.cell? ⟨w.heap.size, 3, none⟩ = some (.int .i64 pd)) ∧ (w'.cell? ⟨w.heap.size + 1, 0, none⟩ = some (.int .i64 qa) ∧ w'.cell? ⟨w.heap.size + 1, 1, none⟩ = some (.int .i64 qb) ∧ w'.cell? ⟨w.heap.size + 1, 2, none⟩ = some (.int .i64 qc) ∧ w'.cell? ⟨w.heap.size + 1, 3, none⟩ = some (.int .i64 qd)) ∧ (w'.cell? ⟨w.heap.size + 1 + 1, 0, none⟩ = some (.int .i64 ra) ∧ w'.cell? ⟨w.heap.size + 1 + 1, 1, none⟩ = some (.int .i64 rb) ∧ w'.cell? ⟨w.heap.size + 1 + 1, 2, none⟩ = some (.int .i64 rc) ∧ w'.cell? ⟨w.heap.size + 1 + 1, 3, none⟩ = some (.int .i64 rd))) (by kernel_rfl) (by exact ⟨⟨p0, p1, p2, p3⟩, ⟨q0, q1, q2, q3⟩, ⟨r0, r1, r2, r3⟩⟩) (fun hHeld => ?_)
    refine take_heldS (i := 0) (d := 10) rfl rfl (by kernel_rfl) (by kernel_rfl) (by kernel_rfl) (fun _ _ _ h => h) (by kernel_rfl) (fun w hSw => by (try dsimp only at hSw); go_simp; try rfl) (by assumption) ?_
    try simp only [Act.put, List.setIfInBounds_toArray, List.set_cons_zero, List.set_cons_succ]
    refine take_heldS (i := 1) (d := 11) rfl rfl (by kernel_rfl) (by kernel_rfl) (by kernel_rfl) (fun _ _ _ h => h) (by kernel_rfl) (fun w hSw => by (try dsimp only at hSw); go_simp; try rfl) (by assumption) ?_
    try simp only [Act.put, List.setIfInBounds_toArray, List.set_cons_zero, List.set_cons_succ]
    refine take_heldS (i := 2) (d := 12) rfl rfl (by kernel_rfl) (by kernel_rfl) (by kernel_rfl) (fun _ _ _ h => h) (by kernel_rfl) (fun w hSw => by (try dsimp only at hSw); go_simp; try rfl) (by assumption) ?_
    try simp only [Act.put, List.setIfInBounds_toArray, List.set_cons_zero, List.set_cons_succ]
    refine take_heldS (i := 3) (d := 13) rfl rfl (by kernel_rfl) (by kernel_rfl) (by kernel_rfl) (fun _ _ _ h => h) (by kernel_rfl) (fun w hSw => by (try dsimp only at hSw); go_simp; try rfl) (by assumption) ?_
    try simp only [Act.put, List.setIfInBounds_toArray, List.set_cons_zero, List.set_cons_succ]
    refine take_heldS (i := 4) (d := 14) rfl rfl (by kernel_rfl) (by kernel_rfl) (by kernel_rfl) (fun _ _ _ h => h) (by kernel_rfl) (fun w hSw => by (try dsimp only at hSw); go_simp; try rfl) (by assumption) ?_
    try simp only [Act.put, List.setIfInBounds_toArray, List.set_cons_zero, List.set_cons_succ]
    refine take_heldS (i := 5) (d := 15) rfl rfl (by kernel_rfl) (by kernel_rfl) (by kernel_rfl) (fun _ _ _ h => h) (by kernel_rfl) (fun w hSw => by (try dsimp only at hSw); go_simp; try rfl) (by assumption) ?_
    try simp only [Act.put, List.setIfInBounds_toArray, List.set_cons_zero, List.set_cons_succ]
    refine take_heldS (i := 6) (d := 16) rfl rfl (by kernel_rfl) (by kernel_rfl) (by kernel_rfl) (fun _ _ _ h => h) (by kernel_rfl) (fun w hSw => by (try dsimp only at hSw); go_simp; try rfl) (by assumption) ?_
    try simp only [Act.put, List.setIfInBounds_toArray, List.set_cons_zero, List.set_cons_succ]
    refine take_heldS (i := 7) (d := 17) rfl rfl (by kernel_rfl) (by kernel_rfl) (by kernel_rfl) (fun _ _ _ h => h) (by kernel_rfl) (fun w hSw => by (try dsimp only at hSw); go_simp; try rfl) (by assumption) ?_
    try simp only [Act.put, List.setIfInBounds_toArray, List.set_cons_zero, List.set_cons_succ]
    refine take_heldS (i := 8) (d := 18) rfl rfl (by kernel_rfl) (by kernel_rfl) (by kernel_rfl) (fun _ _ _ h => h) (by kernel_rfl) (fun w hSw => by (try dsimp only at hSw); go_simp; try rfl) (by assumption) ?_
    try simp only [Act.put, List.setIfInBounds_toArray, List.set_cons_zero, List.set_cons_succ]
    refine take_heldS (i := 9) (d := 19) rfl rfl (by kernel_rfl) (by kernel_rfl) (by kernel_rfl) (fun _ _ _ h => h) (by kernel_rfl) (fun w hSw => by (try dsimp only at hSw); go_simp; try rfl) (by assumption) ?_
    try simp only [Act.put, List.setIfInBounds_toArray, List.set_cons_zero, List.set_cons_succ]
    refine take_heldS (i := 10) (d := 20) rfl rfl (by kernel_rfl) (by kernel_rfl) (by kernel_rfl) (fun _ _ _ h => h) (by kernel_rfl) (fun w hSw => by (try dsimp only at hSw); go_simp; try rfl) (by assumption) ?_
    try simp only [Act.put, List.setIfInBounds_toArray, List.set_cons_zero, List.set_cons_succ]
    refine take_heldS (i := 11) (d := 21) rfl rfl (by kernel_rfl) (by kernel_rfl) (by kernel_rfl) (fun _ _ _ h => h) (by kernel_rfl) (fun w hSw => by (try dsimp only at hSw); go_simp; try rfl) (by assumption) ?_
    try simp only [Act.put, List.setIfInBounds_toArray, List.set_cons_zero, List.set_cons_succ]
    refine take_heldS (i := 12) (d := 22) rfl rfl (by kernel_rfl) (by kernel_rfl) (by kernel_rfl) (fun _ _ _ h => h) (by kernel_rfl) (fun w hSw => by (try dsimp only at hSw); go_simp; try rfl) (by assumption) ?_
    try simp only [Act.put, List.setIfInBounds_toArray, List.set_cons_zero, List.set_cons_succ]
    refine take_heldS (i := 13) (d := 23) rfl rfl (by kernel_rfl) (by kernel_rfl) (by kernel_rfl) (fun _ _ _ h => h) (by kernel_rfl) (fun w hSw => by (try dsimp only at hSw); go_simp; try rfl) (by assumption) ?_
    try simp only [Act.put, List.setIfInBounds_toArray, List.set_cons_zero, List.set_cons_succ]
    refine take_heldS (i := 14) (d := 24) rfl rfl (by kernel_rfl) (by kernel_rfl) (by kernel_rfl) (fun _ _ _ h => h) (by kernel_rfl) (fun w hSw => by (try dsimp only at hSw); go_simp; try rfl) (by assumption) ?_
    try simp only [Act.put, List.setIfInBounds_toArray, List.set_cons_zero, List.set_cons_succ]
    refine take_heldS (i := 15) (d := 25) rfl rfl (by kernel_rfl) (by kernel_rfl) (by kernel_rfl) (fun _ _ _ h => h) (by kernel_rfl) (fun w hSw => by (try dsimp only at hSw); go_simp; try rfl) (by assumption) ?_
    try simp only [Act.put, List.setIfInBounds_toArray, List.set_cons_zero, List.set_cons_succ]
    refine take_heldS (i := 16) (d := 26) rfl rfl (by kernel_rfl) (by kernel_rfl) (by kernel_rfl) (fun _ _ _ h => h) (by kernel_rfl) (fun w hSw => by (try dsimp only at hSw); go_simp; try rfl) (by assumption) ?_
    try simp only [Act.put, List.setIfInBounds_toArray, List.set_cons_zero, List.set_cons_succ]
    refine take_heldS (i := 17) (d := 27) rfl rfl (by kernel_rfl) (by kernel_rfl) (by kernel_rfl) (fun _ _ _ h => h) (by kernel_rfl) (fun w hSw => by (try dsimp only at hSw); go_simp; try rfl) (by assumption) ?_
    try simp only [Act.put, List.setIfInBounds_toArray, List.set_cons_zero, List.set_cons_succ]
    refine take_heldS (i := 18) (d := 28) rfl rfl (by kernel_rfl) (by kernel_rfl) (by kernel_rfl) (fun _ _ _ h => h) (by kernel_rfl) (fun w hSw => by (try dsimp only at hSw); go_simp; try rfl) (by assumption) ?_
    try simp only [Act.put, List.setIfInBounds_toArray, List.set_cons_zero, List.set_cons_succ]
    refine take_heldS (i := 19) (d := 29) rfl rfl (by kernel_rfl) (by kernel_rfl) (by kernel_rfl) (fun _ _ _ h => h) (by kernel_rfl) (fun w hSw => by (try dsimp only at hSw); go_simp; try rfl) (by assumption) ?_
    try simp only [Act.put, List.setIfInBounds_toArray, List.set_cons_zero, List.set_cons_succ]
    refine take_heldS (i := 20) (d := 30) rfl rfl (by kernel_rfl) (by kernel_rfl) (by kernel_rfl) (fun _ _ _ h => h) (by kernel_rfl) (fun w hSw => by (try dsimp only at hSw); go_simp; try rfl) (by assumption) ?_
    try simp only [Act.put, List.setIfInBounds_toArray, List.set_cons_zero, List.set_cons_succ]
    refine take_heldS (i := 21) (d := 31) rfl rfl (by kernel_rfl) (by kernel_rfl) (by kernel_rfl) (fun _ _ _ h => h) (by kernel_rfl) (fun w hSw => by (try dsimp only at hSw); go_simp; try rfl) (by assumption) ?_
    try simp only [Act.put, List.setIfInBounds_toArray, List.set_cons_zero, List.set_cons_succ]
    refine take_heldS (i := 22) (d := 32) rfl rfl (by kernel_rfl) (by kernel_rfl) (by kernel_rfl) (fun _ _ _ h => h) (by kernel_rfl) (fun w hSw => by (try dsimp only at hSw); go_simp; try rfl) (by assumption) ?_
    try simp only [Act.put, List.setIfInBounds_toArray, List.set_cons_zero, List.set_cons_succ]
    refine take_heldS (i := 23) (d := 33) rfl rfl (by kernel_rfl) (by kernel_rfl) (by kernel_rfl) (fun _ _ _ h => h) (by kernel_rfl) (fun w hSw => by (try dsimp only at hSw); go_simp; try rfl) (by assumption) ?_
    try simp only [Act.put, List.setIfInBounds_toArray, List.set_cons_zero, List.set_cons_succ]
    refine take_heldS (i := 24) (d := 34) rfl rfl (by kernel_rfl) (by kernel_rfl) (by kernel_rfl) (fun _ _ _ h => h) (by kernel_rfl) (fun w hSw => by (try dsimp only at hSw); go_simp; try rfl) (by assumption) ?_
    try simp only [Act.put, List.setIfInBounds_toArray, List.set_cons_zero, List.set_cons_succ]
    refine take_heldS (i := 25) (d := 35) rfl rfl (by kernel_rfl) (by kernel_rfl) (by kernel_rfl) (fun _ _ _ h => h) (by kernel_rfl) (fun w hSw => by (try dsimp only at hSw); go_simp; try rfl) (by assumption) ?_
    try simp only [Act.put, List.setIfInBounds_toArray, List.set_cons_zero, List.set_cons_succ]
    refine take_heldS (i := 26) (d := 36) rfl rfl (by kernel_rfl) (by kernel_rfl) (by kernel_rfl) (fun _ _ _ h => h) (by kernel_rfl) (fun w hSw => by (try dsimp only at hSw); go_simp; try rfl) (by assumption) ?_
    try simp only [Act.put, List.setIfInBounds_toArray, List.set_cons_zero, List.set_cons_succ]
    refine take_heldS (i := 27) (d := 37) rfl rfl (by kernel_rfl) (by kernel_rfl) (by kernel_rfl) (fun _ _ _ h => h) (by kernel_rfl) (fun w hSw => by (try dsimp only at hSw); go_simp; try rfl) (by assumption) ?_
    try simp only [Act.put, List.setIfInBounds_toArray, List.set_cons_zero, List.set_cons_succ]
    refine wpAnyH_ready (rs := [28]) (by kernel_rfl) (by simp) ?_
    refine AllReadyH.cons rfl (fun K hK => ?_) AllReadyH.nil
    refine step_storeRow rfl 205 (.tmp 6) (.tmp 16) rfl (w.heap.size + 1 + 1 + 1) #[.int .i64 pa, .int .i64 qa, .int .i64 ra] rfl rfl 205 #[.int .i64 0, .int .i64 0, .int .i64 0] (by exact Z0.out) (by kernel_rfl) rfl (by simp [Value.oneCell']) ?_
    intro wa O0 Y
    have Y0 := Lib.hid Y
    have N1 := Lib.hid ((O0.block (w.heap.size + 1 + 1 + 1 + 1) (by omega)).trans Z1.out)
    have N2 := Lib.hid ((O0.block (w.heap.size + 1 + 1 + 1 + 1 + 1) (by omega)).trans Z2.out)
    have N3 := Lib.hid ((O0.block (w.heap.size + 1 + 1 + 1 + 1 + 1 + 1) (by omega)).trans Z3.out)
    have NB := Lib.hid ((below_dr HB0.out).trans (O0.below (B := w.heap.size) (by omega)))
    clear Y Z1 Z2 Z3 Z0 HB0
    have Z1 := N1
    have Z2 := N2
    have Z3 := N3
    have HB1 := NB
    clear NB N1 N2 N3
    refine hK.out _ _ (by exact keepR (by assumption) (fun x y hx => O0.cell (p := ⟨x, y, none⟩) (by simp; omega))) (fun hHeld => ?_)
    clear hK K
    try simp only [Act.put, List.setIfInBounds_toArray, List.set_cons_zero, List.set_cons_succ]
    refine wpAnyH_ready (rs := [29]) (by kernel_rfl) (by simp) ?_
    refine AllReadyH.cons rfl (fun K hK => ?_) AllReadyH.nil
    refine step_storeRow rfl 205 (.tmp 7) (.tmp 23) rfl (w.heap.size + 1 + 1 + 1 + 1) #[.int .i64 pb, .int .i64 qb, .int .i64 rb] rfl rfl 205 #[.int .i64 0, .int .i64 0, .int .i64 0] (by exact Z1.out) (by kernel_rfl) rfl (by simp [Value.oneCell']) ?_
    intro wb O1 Y
    have Y1 := Lib.hid Y
    have N0 := Lib.hid ((O1.block (w.heap.size + 1 + 1 + 1) (by omega)).trans Y0.out)
    have N2 := Lib.hid ((O1.block (w.heap.size + 1 + 1 + 1 + 1 + 1) (by omega)).trans Z2.out)
    have N3 := Lib.hid ((O1.block (w.heap.size + 1 + 1 + 1 + 1 + 1 + 1) (by omega)).trans Z3.out)
    have NB := Lib.hid ((HB1.out).trans (O1.below (B := w.heap.size) (by omega)))
    clear Y Y0 Z2 Z3 Z1 HB1
    have Y0 := N0
    have Z2 := N2
    have Z3 := N3
    have HB2 := NB
    clear NB N0 N2 N3
    refine hK.out _ _ (by exact keepR (by assumption) (fun x y hx => O1.cell (p := ⟨x, y, none⟩) (by simp; omega))) (fun hHeld => ?_)
    clear hK K
    try simp only [Act.put, List.setIfInBounds_toArray, List.set_cons_zero, List.set_cons_succ]
    refine wpAnyH_ready (rs := [30]) (by kernel_rfl) (by simp) ?_
    refine AllReadyH.cons rfl (fun K hK => ?_) AllReadyH.nil
    refine step_storeRow rfl 205 (.tmp 8) (.tmp 30) rfl (w.heap.size + 1 + 1 + 1 + 1 + 1) #[.int .i64 pc, .int .i64 qc, .int .i64 rc] rfl rfl 205 #[.int .i64 0, .int .i64 0, .int .i64 0] (by exact Z2.out) (by kernel_rfl) rfl (by simp [Value.oneCell']) ?_
    intro wc O2 Y
    have Y2 := Lib.hid Y
    have N0 := Lib.hid ((O2.block (w.heap.size + 1 + 1 + 1) (by omega)).trans Y0.out)
    have N1 := Lib.hid ((O2.block (w.heap.size + 1 + 1 + 1 + 1) (by omega)).trans Y1.out)
    have N3 := Lib.hid ((O2.block (w.heap.size + 1 + 1 + 1 + 1 + 1 + 1) (by omega)).trans Z3.out)
    have NB := Lib.hid ((HB2.out).trans (O2.below (B := w.heap.size) (by omega)))
    clear Y Y0 Y1 Z3 Z2 HB2
    have Y0 := N0
    have Y1 := N1
    have Z3 := N3
    have HB3 := NB
    clear NB N0 N1 N3
    refine hK.out _ _ (by exact keepR (by assumption) (fun x y hx => O2.cell (p := ⟨x, y, none⟩) (by simp; omega))) (fun hHeld => ?_)
    clear hK K
    try simp only [Act.put, List.setIfInBounds_toArray, List.set_cons_zero, List.set_cons_succ]
    refine wpAnyH_ready (rs := [31]) (by kernel_rfl) (by simp) ?_
    refine AllReadyH.cons rfl (fun K hK => ?_) AllReadyH.nil
    refine step_storeRow rfl 205 (.tmp 9) (.tmp 37) rfl (w.heap.size + 1 + 1 + 1 + 1 + 1 + 1) #[.int .i64 pd, .int .i64 qd, .int .i64 rd] rfl rfl 205 #[.int .i64 0, .int .i64 0, .int .i64 0] (by exact Z3.out) (by kernel_rfl) rfl (by simp [Value.oneCell']) ?_
    intro wd O3 Y
    have Y3 := Lib.hid Y
    have N0 := Lib.hid ((O3.block (w.heap.size + 1 + 1 + 1) (by omega)).trans Y0.out)
    have N1 := Lib.hid ((O3.block (w.heap.size + 1 + 1 + 1 + 1) (by omega)).trans Y1.out)
    have N2 := Lib.hid ((O3.block (w.heap.size + 1 + 1 + 1 + 1 + 1) (by omega)).trans Y2.out)
    have NB := Lib.hid ((HB3.out).trans (O3.below (B := w.heap.size) (by omega)))
    clear Y Y0 Y1 Y2 Z3 HB3
    have Y0 := N0
    have Y1 := N1
    have Y2 := N2
    have HB4 := NB
    clear NB N0 N1 N2
    refine hK.out _ _ (by exact keepR (by assumption) (fun x y hx => O3.cell (p := ⟨x, y, none⟩) (by simp; omega))) (fun hHeld => ?_)
    clear hK K
    try simp only [Act.put, List.setIfInBounds_toArray, List.set_cons_zero, List.set_cons_succ]
    refine wpAnyH_done (by kernel_rfl) ?_ _
    go_wp2_with fail
    go_meet
    exact ⟨rfl, rfl, rfl, rfl, Y0, Y1, Y2, Y3, HB4⟩
  case rest =>
  obtain ⟨rfl, rfl, rfl, rfl, Y0, Y1, Y2, Y3, HB⟩ := hcut
  clear HR Z0 Z1 Z2 Z3 p0 p1 p2 p3 q0 q1 q2 q3 r0 r1 r2 r3
  go_wp2
  (try simp only [Exit.inBlock, Exit.then])
  refine bodyPost_ret (results_cell4 rfl _ _ _ _ _ _ 205 _ _ _ _ _ _ rfl rfl rfl rfl Y0.out Y1.out Y2.out Y3.out Tryz.underlying205 rfl (by kernel_rfl) (by kernel_rfl) (by kernel_rfl) (by kernel_rfl)) rfl ?_
  exact ⟨rfl, HB.out⟩
end Go.Proofs.YtbpnbhemdbgmjaaGreat
end
