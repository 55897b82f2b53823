/-
  Texts that the law stands on, part 15.
-/
import Derived.Test.YtbpnbhemdbgmjaaGreatC1
import Derived.Test.YtbpnbhemdbgmjaaGreatC12
import Derived.Test.YtbpnbhemdbgmjaaGreatC13
import Derived.Test.YtbpnbhemdbgmjaaGreatC14
import Derived.WalkMore
import Derived.Deep.DeepCutAuto
set_option linter.unusedVariables false
set_option linter.unusedSimpArgs false
namespace Go.Proofs.YtbpnbhemdbgmjaaGreat
section
open Go.RowKit
theorem step_storeRow {P : Program} {ops : Array Oper} {o : Oper} {a : Act} {w : World} {K : Act → World → Prop} {Q : Exit → Act → World → Prop} {F : Prop} (hgd : o.guard = none) (ty : TypeId) (x y : Operand) (ho : o.op = .store ty x y)
  (g : Nat) (cells : Array Value) (hx : a.eval x = .pointer (some ⟨g, 0, none⟩)) (hy : a.eval y = .agg cells)
  (t : TypeId) (old : Array Value) (hg : w.heap[g]? = some (.cells old t (0, 0))) (hi : (P.info? ty).map (·.size) = some cells.size)
  (hold : old.size = cells.size) (h1 : cells.all (·.oneCell') = true)
  (h : ∀ w', Only g w w' → w'.heap[g]? = some (.cells cells t (0, 0)) → K (a.put o.dst undef) w') : if Region.wanted o (yielded ops a.tmps) = true then o.wp P a w K Q else F := by
 have hw : Region.wanted o (yielded ops a.tmps) = true := by simp [Region.wanted, hgd]
 rw [if_pos hw]
 exact wp_store_row ty x y ho g cells hx hy t old hg hi hold h1 (h _ ⟨rfl, rfl, rfl, by simp, fun k hk => setRow_other w g k cells hk⟩ (setRow_heap w g old cells t (0, 0) hg))
theorem results_cell4 {P : Program} {fn : Func} {a b c d : Tmp} {ty : TypeId} (h : fn.results = #[.cell a ty, .cell b ty, .cell c ty, .cell d ty]) (tmps : Array Value) (w : World) (ga gb gc gd : Nat) (t : TypeId) (ca cb cc cd : Array Value) (fr : Nat × Nat) (e : TypeDesc)
  (pa : tmps.getD a undef = .pointer (some ⟨ga, 0, none⟩)) (pb : tmps.getD b undef = .pointer (some ⟨gb, 0, none⟩)) (pc : tmps.getD c undef = .pointer (some ⟨gc, 0, none⟩)) (pd : tmps.getD d undef = .pointer (some ⟨gd, 0, none⟩))
  (ha : w.heap[ga]? = some (.cells ca t fr)) (hb : w.heap[gb]? = some (.cells cb t fr)) (hc : w.heap[gc]? = some (.cells cc t fr)) (hd : w.heap[gd]? = some (.cells cd t fr))
  (hu : P.underlying ty = some e) (he : (match e with | .struct _ | .array _ _ => true | _ => false) = true) (ia : (P.info? ty).map (·.size) = some ca.size) (ib : (P.info? ty).map (·.size) = some cb.size) (ic : (P.info? ty).map (·.size) = some cc.size) (id : (P.info? ty).map (·.size) = some cd.size) :
  (results fn tmps).run P w = .ok (.tuple #[.agg ca, .agg cb, .agg cc, .agg cd]) w := by
 have pa' : tmps[a]?.getD undef = .pointer (some ⟨ga, 0, none⟩) := by simpa using pa
 have pb' : tmps[b]?.getD undef = .pointer (some ⟨gb, 0, none⟩) := by simpa using pb
 have pc' : tmps[c]?.getD undef = .pointer (some ⟨gc, 0, none⟩) := by simpa using pc
 have pd' : tmps[d]?.getD undef = .pointer (some ⟨gd, 0, none⟩) := by simpa using pd
 simp [results, h, pa', pb', pc', pd', asAddr, run_loadVar_row w ga t ty ca fr e ha hu he ia, run_loadVar_row w gb t ty cb fr e hb hu he ib, run_loadVar_row w gc t ty cc fr e hc hu he ic, run_loadVar_row w gd t ty cd fr e hd hu he id]
theorem keepR {w1 w2 : World} {b : Nat} {pa pb pc pd qa qb qc qd ra rb rc rd : Int} (h : (w1.cell? ⟨b, 0, none⟩ = some (.int .i64 pa) ∧ w1.cell? ⟨b, 1, none⟩ = some (.int .i64 pb) ∧ w1.cell? ⟨b, 2, none⟩ = some (.int .i64 pc) ∧ w1.cell? ⟨b, 3, none⟩ = some (.int .i64 pd)) ∧ (w1.cell? ⟨b + 1, 0, none⟩ = some (.int .i64 qa) ∧ w1.cell? ⟨b + 1, 1, none⟩ = some (.int .i64 qb) ∧ w1.cell? ⟨b + 1, 2, none⟩ = some (.int .i64 qc) ∧ w1.cell? ⟨b + 1, 3, none⟩ = some (.int .i64 qd)) ∧ (w1.cell? ⟨b + 1 + 1, 0, none⟩ = some (.int .i64 ra) ∧ w1.cell? ⟨b + 1 + 1, 1, none⟩ = some (.int .i64 rb) ∧ w1.cell? ⟨b + 1 + 1, 2, none⟩ = some (.int .i64 rc) ∧ w1.cell? ⟨b + 1 + 1, 3, none⟩ = some (.int .i64 rd))) (e : ∀ x y, x < b + 1 + 1 + 1 → w2.cell? ⟨x, y, none⟩ = w1.cell? ⟨x, y, none⟩) : (w2.cell? ⟨b, 0, none⟩ = some (.int .i64 pa) ∧ w2.cell? ⟨b, 1, none⟩ = some (.int .i64 pb) ∧ w2.cell? ⟨b, 2, none⟩ = some (.int .i64 pc) ∧ w2.cell? ⟨b, 3, none⟩ = some (.int .i64 pd)) ∧ (w2.cell? ⟨b + 1, 0, none⟩ = some (.int .i64 qa) ∧ w2.cell? ⟨b + 1, 1, none⟩ = some (.int .i64 qb) ∧ w2.cell? ⟨b + 1, 2, none⟩ = some (.int .i64 qc) ∧ w2.cell? ⟨b + 1, 3, none⟩ = some (.int .i64 qd)) ∧ (w2.cell? ⟨b + 1 + 1, 0, none⟩ = some (.int .i64 ra) ∧ w2.cell? ⟨b + 1 + 1, 1, none⟩ = some (.int .i64 rb) ∧ w2.cell? ⟨b + 1 + 1, 2, none⟩ = some (.int .i64 rc) ∧ w2.cell? ⟨b + 1 + 1, 3, none⟩ = some (.int .i64 rd)) := by
 obtain ⟨⟨h1, h2, h3, h4⟩, ⟨h5, h6, h7, h8⟩, ⟨h9, h10, h11, h12⟩⟩ := h
 exact ⟨⟨(e _ _ (by omega)).trans h1, (e _ _ (by omega)).trans h2, (e _ _ (by omega)).trans h3, (e _ _ (by omega)).trans h4⟩, ⟨(e _ _ (by omega)).trans h5, (e _ _ (by omega)).trans h6, (e _ _ (by omega)).trans h7, (e _ _ (by omega)).trans h8⟩, ⟨(e _ _ (by omega)).trans h9, (e _ _ (by omega)).trans h10, (e _ _ (by omega)).trans h11, (e _ _ (by omega)).trans h12⟩⟩
set_option maxRecDepth 100000 in
set_option maxHeartbeats 6400000 in
theorem iCols_any (pa pb pc pd qa qb qc qd ra rb rc rd : Int) (w : World) :
  Calls Tryz.prog 185 #[.agg #[.int .i64 pa, .int .i64 pb, .int .i64 pc, .int .i64 pd], .agg #[.int .i64 qa, .int .i64 qb, .int .i64 qc, .int .i64 qd], .agg #[.int .i64 ra, .int .i64 rb, .int .i64 rc, .int .i64 rd]] w fun e w' =>
   e = .returned (.tuple #[.agg #[.int .i64 pa, .int .i64 qa, .int .i64 ra], .agg #[.int .i64 pb, .int .i64 qb, .int .i64 rb], .agg #[.int .i64 pc, .int .i64 qc, .int .i64 rc], .agg #[.int .i64 pd, .int .i64 qd, .int .i64 rd]]) ∧ Below w.heap.size w w' := by
 have hb : ∀ u : World, Below u.heap.size u (u.alloc (.cells #[.int .i64 0, .int .i64 0, .int .i64 0] 205)) := fun u => (Below.refl _ _).alloc (Nat.le_refl _) _
 have HR := Lib.hid (((((R3.start w pa pb pc pd qa qb qc qd ra rb rc rd 65).after (hb _)).after (hb _)).after (hb _)).after (hb _))
 have Z0 := Lib.hid ((heap_alloc_old ((((((w.alloc (.cells #[.int .i64 pa, .int .i64 pb, .int .i64 pc, .int .i64 pd] 65)).alloc (.cells #[.int .i64 qa, .int .i64 qb, .int .i64 qc, .int .i64 qd] 65)).alloc (.cells #[.int .i64 ra, .int .i64 rb, .int .i64 rc, .int .i64 rd] 65)).alloc (.cells #[.int .i64 0, .int .i64 0, .int .i64 0] 205)).alloc (.cells #[.int .i64 0, .int .i64 0, .int .i64 0] 205)).alloc (.cells #[.int .i64 0, .int .i64 0, .int .i64 0] 205)) (.cells #[.int .i64 0, .int .i64 0, .int .i64 0] 205) (by first | (simp; done) | (simp; omega))).trans ((heap_alloc_old (((((w.alloc (.cells #[.int .i64 pa, .int .i64 pb, .int .i64 pc, .int .i64 pd] 65)).alloc (.cells #[.int .i64 qa, .int .i64 qb, .int .i64 qc, .int .i64 qd] 65)).alloc (.cells #[.int .i64 ra, .int .i64 rb, .int .i64 rc, .int .i64 rd] 65)).alloc (.cells #[.int .i64 0, .int .i64 0, .int .i64 0] 205)).alloc (.cells #[.int .i64 0, .int .i64 0, .int .i64 0] 205)) (.cells #[.int .i64 0, .int .i64 0, .int .i64 0] 205) (by first | (simp; done) | (simp; omega))).trans ((heap_alloc_old ((((w.alloc (.cells #[.int .i64 pa, .int .i64 pb, .int .i64 pc, .int .i64 pd] 65)).alloc (.cells #[.int .i64 qa, .int .i64 qb, .int .i64 qc, .int .i64 qd] 65)).alloc (.cells #[.int .i64 ra, .int .i64 rb, .int .i64 rc, .int .i64 rd] 65)).alloc (.cells #[.int .i64 0, .int .i64 0, .int .i64 0] 205)) (.cells #[.int .i64 0, .int .i64 0, .int .i64 0] 205) (by first | (simp; done) | (simp; omega))).trans (heap_alloc_new (((w.alloc (.cells #[.int .i64 pa, .int .i64 pb, .int .i64 pc, .int .i64 pd] 65)).alloc (.cells #[.int .i64 qa, .int .i64 qb, .int .i64 qc, .int .i64 qd] 65)).alloc (.cells #[.int .i64 ra, .int .i64 rb, .int .i64 rc, .int .i64 rd] 65)) (.cells #[.int .i64 0, .int .i64 0, .int .i64 0] 205)))))
 have Z1 := Lib.hid ((heap_alloc_old ((((((w.alloc (.cells #[.int .i64 pa, .int .i64 pb, .int .i64 pc, .int .i64 pd] 65)).alloc (.cells #[.int .i64 qa, .int .i64 qb, .int .i64 qc, .int .i64 qd] 65)).alloc (.cells #[.int .i64 ra, .int .i64 rb, .int .i64 rc, .int .i64 rd] 65)).alloc (.cells #[.int .i64 0, .int .i64 0, .int .i64 0] 205)).alloc (.cells #[.int .i64 0, .int .i64 0, .int .i64 0] 205)).alloc (.cells #[.int .i64 0, .int .i64 0, .int .i64 0] 205)) (.cells #[.int .i64 0, .int .i64 0, .int .i64 0] 205) (by first | (simp; done) | (simp; omega))).trans ((heap_alloc_old (((((w.alloc (.cells #[.int .i64 pa, .int .i64 pb, .int .i64 pc, .int .i64 pd] 65)).alloc (.cells #[.int .i64 qa, .int .i64 qb, .int .i64 qc, .int .i64 qd] 65)).alloc (.cells #[.int .i64 ra, .int .i64 rb, .int .i64 rc, .int .i64 rd] 65)).alloc (.cells #[.int .i64 0, .int .i64 0, .int .i64 0] 205)).alloc (.cells #[.int .i64 0, .int .i64 0, .int .i64 0] 205)) (.cells #[.int .i64 0, .int .i64 0, .int .i64 0] 205) (by first | (simp; done) | (simp; omega))).trans (heap_alloc_new ((((w.alloc (.cells #[.int .i64 pa, .int .i64 pb, .int .i64 pc, .int .i64 pd] 65)).alloc (.cells #[.int .i64 qa, .int .i64 qb, .int .i64 qc, .int .i64 qd] 65)).alloc (.cells #[.int .i64 ra, .int .i64 rb, .int .i64 rc, .int .i64 rd] 65)).alloc (.cells #[.int .i64 0, .int .i64 0, .int .i64 0] 205)) (.cells #[.int .i64 0, .int .i64 0, .int .i64 0] 205))))
 have Z2 := Lib.hid ((heap_alloc_old ((((((w.alloc (.cells #[.int .i64 pa, .int .i64 pb, .int .i64 pc, .int .i64 pd] 65)).alloc (.cells #[.int .i64 qa, .int .i64 qb, .int .i64 qc, .int .i64 qd] 65)).alloc (.cells #[.int .i64 ra, .int .i64 rb, .int .i64 rc, .int .i64 rd] 65)).alloc (.cells #[.int .i64 0, .int .i64 0, .int .i64 0] 205)).alloc (.cells #[.int .i64 0, .int .i64 0, .int .i64 0] 205)).alloc (.cells #[.int .i64 0, .int .i64 0, .int .i64 0] 205)) (.cells #[.int .i64 0, .int .i64 0, .int .i64 0] 205) (by first | (simp; done) | (simp; omega))).trans (heap_alloc_new (((((w.alloc (.cells #[.int .i64 pa, .int .i64 pb, .int .i64 pc, .int .i64 pd] 65)).alloc (.cells #[.int .i64 qa, .int .i64 qb, .int .i64 qc, .int .i64 qd] 65)).alloc (.cells #[.int .i64 ra, .int .i64 rb, .int .i64 rc, .int .i64 rd] 65)).alloc (.cells #[.int .i64 0, .int .i64 0, .int .i64 0] 205)).alloc (.cells #[.int .i64 0, .int .i64 0, .int .i64 0] 205)) (.cells #[.int .i64 0, .int .i64 0, .int .i64 0] 205)))
 have Z3 := Lib.hid (heap_alloc_new ((((((w.alloc (.cells #[.int .i64 pa, .int .i64 pb, .int .i64 pc, .int .i64 pd] 65)).alloc (.cells #[.int .i64 qa, .int .i64 qb, .int .i64 qc, .int .i64 qd] 65)).alloc (.cells #[.int .i64 ra, .int .i64 rb, .int .i64 rc, .int .i64 rd] 65)).alloc (.cells #[.int .i64 0, .int .i64 0, .int .i64 0] 205)).alloc (.cells #[.int .i64 0, .int .i64 0, .int .i64 0] 205)).alloc (.cells #[.int .i64 0, .int .i64 0, .int .i64 0] 205)) (.cells #[.int .i64 0, .int .i64 0, .int .i64 0] 205))
 simp only [World.size_alloc] at Z0 Z1 Z2 Z3
 clear hb
 go_enter Tryz.func185, Tryz.ntmps185
 go_upto_region 1 with fail
 generalize (((((((w.alloc (.cells #[.int .i64 pa, .int .i64 pb, .int .i64 pc, .int .i64 pd] 65)).alloc (.cells #[.int .i64 qa, .int .i64 qb, .int .i64 qc, .int .i64 qd] 65)).alloc (.cells #[.int .i64 ra, .int .i64 rb, .int .i64 rc, .int .i64 rd] 65)).alloc (.cells #[.int .i64 0, .int .i64 0, .int .i64 0] 205)).alloc (.cells #[.int .i64 0, .int .i64 0, .int .i64 0] 205)).alloc (.cells #[.int .i64 0, .int .i64 0, .int .i64 0] 205)).alloc (.cells #[.int .i64 0, .int .i64 0, .int .i64 0] 205)) = w7 at *
 obtain ⟨p0, p1, p2, p3⟩ := HR.out.p.1
 obtain ⟨q0, q1, q2, q3⟩ := HR.out.q.1
 obtain ⟨r0, r1, r2, r3⟩ := HR.out.r.1
 go_cut [6, 7, 8, 9] (fun s6 s7 s8 s9 wx => s6 = .pointer (some ⟨w.heap.size + 1 + 1 + 1, 0, none⟩) ∧ s7 = .pointer (some ⟨w.heap.size + 1 + 1 + 1 + 1, 0, none⟩) ∧ s8 = .pointer (some ⟨w.heap.size + 1 + 1 + 1 + 1 + 1, 0, none⟩) ∧ s9 = .pointer (some ⟨w.heap.size + 1 + 1 + 1 + 1 + 1 + 1, 0, none⟩) ∧ Hid (wx.heap[w.heap.size + 1 + 1 + 1]? = some (.cells #[.int .i64 pa, .int .i64 qa, .int .i64 ra] 205 (0, 0))) ∧ Hid (wx.heap[w.heap.size + 1 + 1 + 1 + 1]? = some (.cells #[.int .i64 pb, .int .i64 qb, .int .i64 rb] 205 (0, 0))) ∧ Hid (wx.heap[w.heap.size + 1 + 1 + 1 + 1 + 1]? = some (.cells #[.int .i64 pc, .int .i64 qc, .int .i64 rc] 205 (0, 0))) ∧ Hid (wx.heap[w.heap.size + 1 + 1 + 1 + 1 + 1 + 1]? = some (.cells #[.int .i64 pd, .int .i64 qd, .int .i64 rd] 205 (0, 0))) ∧ Hid (Below w.heap.size w wx))
 case first =>
  have HB0 := Lib.hid HR.out.below
  clear HR
  refine wp_region_held_drew (S := fun w' => (w'.cell? ⟨w.heap.size, 0, none⟩ = some (.int .i64 pa) ∧ w'.cell? ⟨w.heap.size, 1, none⟩ = some (.int .i64 pb) ∧ w'.cell? ⟨w.heap.size, 2, none⟩ = some (.int .i64 pc) ∧ w'.cell? ⟨w.heap.size, 3, none⟩ = some (.int .i64 pd)) ∧ (w'.cell? ⟨w.heap.size + 1, 0, none⟩ = some (.int .i64 qa) ∧ w'.cell? ⟨w.heap.size + 1, 1, none⟩ = some (.int .i64 qb) ∧ w'.cell? ⟨w.heap.size + 1, 2, none⟩ = some (.int .i64 qc) ∧ w'.cell? ⟨w.heap.size + 1, 3, none⟩ = some (.int .i64 qd)) ∧ (w'.cell? ⟨w.heap.size + 1 + 1, 0, none⟩ = some (.int .i64 ra) ∧ w'.cell? ⟨w.heap.size + 1 + 1, 1, none⟩ = some (.int .i64 rb) ∧ w'.cell? ⟨w.heap.size + 1 + 1, 2, none⟩ = some (.int .i64 rc) ∧ w'.cell? ⟨w.heap.size + 1 + 1, 3, none⟩ = some (.int .i64 rd))) (by kernel_rfl) (by exact ⟨⟨p0, p1, p2, p3⟩, ⟨q0, q1, q2, q3⟩, ⟨r0, r1, r2, r3⟩⟩) (fun hHeld => ?_)
  refine take_heldS (i := 0) (d := 10) rfl rfl ?_
  try simp only [Act.put, ly3]
  refine take_heldS (i := 1) (d := 11) rfl rfl ?_
  try simp only [Act.put, ly3]
  refine take_heldS (i := 2) (d := 12) rfl rfl ?_
  try simp only [Act.put, ly3]
  refine take_heldS (i := 3) (d := 13) rfl rfl ?_
  try simp only [Act.put, ly3]
  refine take_heldS (i := 4) (d := 14) rfl rfl ?_
  try simp only [Act.put, ly3]
  refine take_heldS (i := 5) (d := 15) rfl rfl ?_
  try simp only [Act.put, ly3]
  refine take_heldS (i := 6) (d := 16) rfl rfl ?_
  try simp only [Act.put, ly3]
  refine take_heldS (i := 7) (d := 17) rfl rfl ?_
  try simp only [Act.put, ly3]
  refine take_heldS (i := 8) (d := 18) rfl rfl ?_
  try simp only [Act.put, ly3]
  refine take_heldS (i := 9) (d := 19) rfl rfl ?_
  try simp only [Act.put, ly3]
  refine take_heldS (i := 10) (d := 20) rfl rfl ?_
  try simp only [Act.put, ly3]
  refine take_heldS (i := 11) (d := 21) rfl rfl ?_
  try simp only [Act.put, ly3]
  refine take_heldS (i := 12) (d := 22) rfl rfl ?_
  try simp only [Act.put, ly3]
  refine take_heldS (i := 13) (d := 23) rfl rfl ?_
  try simp only [Act.put, ly3]
  refine take_heldS (i := 14) (d := 24) rfl rfl ?_
  try simp only [Act.put, ly3]
  refine take_heldS (i := 15) (d := 25) rfl rfl ?_
  try simp only [Act.put, ly3]
  refine take_heldS (i := 16) (d := 26) rfl rfl ?_
  try simp only [Act.put, ly3]
  refine take_heldS (i := 17) (d := 27) rfl rfl ?_
  try simp only [Act.put, ly3]
  refine take_heldS (i := 18) (d := 28) rfl rfl ?_
  try simp only [Act.put, ly3]
  refine take_heldS (i := 19) (d := 29) rfl rfl ?_
  try simp only [Act.put, ly3]
  refine take_heldS (i := 20) (d := 30) rfl rfl ?_
  try simp only [Act.put, ly3]
  refine take_heldS (i := 21) (d := 31) rfl rfl ?_
  try simp only [Act.put, ly3]
  refine take_heldS (i := 22) (d := 32) rfl rfl ?_
  try simp only [Act.put, ly3]
  refine take_heldS (i := 23) (d := 33) rfl rfl ?_
  try simp only [Act.put, ly3]
  refine take_heldS (i := 24) (d := 34) rfl rfl ?_
  try simp only [Act.put, ly3]
  refine take_heldS (i := 25) (d := 35) rfl rfl ?_
  try simp only [Act.put, ly3]
  refine take_heldS (i := 26) (d := 36) rfl rfl ?_
  try simp only [Act.put, ly3]
  refine take_heldS (i := 27) (d := 37) rfl rfl ?_
  try simp only [Act.put, ly3]
  refine wpAnyH_ready (rs := [28]) (by kernel_rfl) (by simp) ?_
  refine AllReadyH.cons rfl (fun K hK => ?_) AllReadyH.nil
  refine step_storeRow rfl 205 (.tmp 6) (.tmp 16) rfl (w.heap.size + 1 + 1 + 1) #[.int .i64 pa, .int .i64 qa, .int .i64 ra] rfl rfl 205 #[.int .i64 0, .int .i64 0, .int .i64 0] (by exact Z0.out) (by kernel_rfl) rfl (by simp [Value.oneCell']) ?_
  intro wa O0 Y
  have Y0 := Lib.hid Y
  have N1 := Lib.hid ((O0.block (w.heap.size + 1 + 1 + 1 + 1) (by omega)).trans Z1.out)
  have N2 := Lib.hid ((O0.block (w.heap.size + 1 + 1 + 1 + 1 + 1) (by omega)).trans Z2.out)
  have N3 := Lib.hid ((O0.block (w.heap.size + 1 + 1 + 1 + 1 + 1 + 1) (by omega)).trans Z3.out)
  have NB := Lib.hid ((below_dr HB0.out).trans (O0.below (B := w.heap.size) (by omega)))
  clear Y Z1 Z2 Z3 Z0 HB0
  have Z1 := N1
  have Z2 := N2
  have Z3 := N3
  have HB1 := NB
  clear NB N1 N2 N3
  refine hK.out _ _ (by exact keepR (by assumption) (fun x y hx => O0.cell (p := ⟨x, y, none⟩) (by simp; omega))) (fun hHeld => ?_)
  clear hK K
  try simp only [Act.put, ly3]
  refine wpAnyH_ready (rs := [29]) (by kernel_rfl) (by simp) ?_
  refine AllReadyH.cons rfl (fun K hK => ?_) AllReadyH.nil
  refine step_storeRow rfl 205 (.tmp 7) (.tmp 23) rfl (w.heap.size + 1 + 1 + 1 + 1) #[.int .i64 pb, .int .i64 qb, .int .i64 rb] rfl rfl 205 #[.int .i64 0, .int .i64 0, .int .i64 0] (by exact Z1.out) (by kernel_rfl) rfl (by simp [Value.oneCell']) ?_
  intro wb O1 Y
  have Y1 := Lib.hid Y
  have N0 := Lib.hid ((O1.block (w.heap.size + 1 + 1 + 1) (by omega)).trans Y0.out)
  have N2 := Lib.hid ((O1.block (w.heap.size + 1 + 1 + 1 + 1 + 1) (by omega)).trans Z2.out)
  have N3 := Lib.hid ((O1.block (w.heap.size + 1 + 1 + 1 + 1 + 1 + 1) (by omega)).trans Z3.out)
  have NB := Lib.hid ((HB1.out).trans (O1.below (B := w.heap.size) (by omega)))
  clear Y Y0 Z2 Z3 Z1 HB1
  have Y0 := N0
  have Z2 := N2
  have Z3 := N3
  have HB2 := NB
  clear NB N0 N2 N3
  refine hK.out _ _ (by exact keepR (by assumption) (fun x y hx => O1.cell (p := ⟨x, y, none⟩) (by simp; omega))) (fun hHeld => ?_)
  clear hK K
  try simp only [Act.put, ly3]
  refine wpAnyH_ready (rs := [30]) (by kernel_rfl) (by simp) ?_
  refine AllReadyH.cons rfl (fun K hK => ?_) AllReadyH.nil
  refine step_storeRow rfl 205 (.tmp 8) (.tmp 30) rfl (w.heap.size + 1 + 1 + 1 + 1 + 1) #[.int .i64 pc, .int .i64 qc, .int .i64 rc] rfl rfl 205 #[.int .i64 0, .int .i64 0, .int .i64 0] (by exact Z2.out) (by kernel_rfl) rfl (by simp [Value.oneCell']) ?_
  intro wc O2 Y
  have Y2 := Lib.hid Y
  have N0 := Lib.hid ((O2.block (w.heap.size + 1 + 1 + 1) (by omega)).trans Y0.out)
  have N1 := Lib.hid ((O2.block (w.heap.size + 1 + 1 + 1 + 1) (by omega)).trans Y1.out)
  have N3 := Lib.hid ((O2.block (w.heap.size + 1 + 1 + 1 + 1 + 1 + 1) (by omega)).trans Z3.out)
  have NB := Lib.hid ((HB2.out).trans (O2.below (B := w.heap.size) (by omega)))
  clear Y Y0 Y1 Z3 Z2 HB2
  have Y0 := N0
  have Y1 := N1
  have Z3 := N3
  have HB3 := NB
  clear NB N0 N1 N3
  refine hK.out _ _ (by exact keepR (by assumption) (fun x y hx => O2.cell (p := ⟨x, y, none⟩) (by simp; omega))) (fun hHeld => ?_)
  clear hK K
  try simp only [Act.put, ly3]
  refine wpAnyH_ready (rs := [31]) (by kernel_rfl) (by simp) ?_
  refine AllReadyH.cons rfl (fun K hK => ?_) AllReadyH.nil
  refine step_storeRow rfl 205 (.tmp 9) (.tmp 37) rfl (w.heap.size + 1 + 1 + 1 + 1 + 1 + 1) #[.int .i64 pd, .int .i64 qd, .int .i64 rd] rfl rfl 205 #[.int .i64 0, .int .i64 0, .int .i64 0] (by exact Z3.out) (by kernel_rfl) rfl (by simp [Value.oneCell']) ?_
  intro wd O3 Y
  have Y3 := Lib.hid Y
  have N0 := Lib.hid ((O3.block (w.heap.size + 1 + 1 + 1) (by omega)).trans Y0.out)
  have N1 := Lib.hid ((O3.block (w.heap.size + 1 + 1 + 1 + 1) (by omega)).trans Y1.out)
  have N2 := Lib.hid ((O3.block (w.heap.size + 1 + 1 + 1 + 1 + 1) (by omega)).trans Y2.out)
  have NB := Lib.hid ((HB3.out).trans (O3.below (B := w.heap.size) (by omega)))
  clear Y Y0 Y1 Y2 Z3 HB3
  have Y0 := N0
  have Y1 := N1
  have Y2 := N2
  have HB4 := NB
  clear NB N0 N1 N2
  refine hK.out _ _ (by exact keepR (by assumption) (fun x y hx => O3.cell (p := ⟨x, y, none⟩) (by simp; omega))) (fun hHeld => ?_)
  clear hK K
  try simp only [Act.put, ly3]
  refine wpAnyH_done (by kernel_rfl) ?_ _
  go_wp2_with fail
  go_meet
  exact ⟨rfl, rfl, rfl, rfl, Y0, Y1, Y2, Y3, HB4⟩
 case rest =>
 obtain ⟨rfl, rfl, rfl, rfl, Y0, Y1, Y2, Y3, HB⟩ := hcut
 clear HR Z0 Z1 Z2 Z3 p0 p1 p2 p3 q0 q1 q2 q3 r0 r1 r2 r3
 go_wp2
 (try simp only [Exit.inBlock, Exit.then])
 refine bodyPost_ret (results_cell4 rfl _ _ _ _ _ _ 205 _ _ _ _ _ _ rfl rfl rfl rfl Y0.out Y1.out Y2.out Y3.out Tryz.underlying205 rfl (by kernel_rfl) (by kernel_rfl) (by kernel_rfl) (by kernel_rfl)) rfl ?_
 exact ⟨rfl, HB.out⟩
end
section
open Go.RowKit
theorem rows3_B (pa pb pc pd qa qb qc qd ra rb rc rd : Int) : allB (rowAt [pa, pb, pc, pd, qa, qb, qc, qd, ra, rb, rc, rd]) 3 = solOk pa pb pc pd qa qb qc qd ra rb rc rd := by
 simp [allB, List.range, List.range.loop, rowAt, nth, solOk]
theorem rows3_at (w : World) (g : Nat) (hg : w.heap.size = g) (pa pb pc pd qa qb qc qd ra rb rc rd : Int) (T : TypeId) : RecsAt (w.alloc (.cells #[.int .i64 pa, .int .i64 pb, .int .i64 pc, .int .i64 pd, .int .i64 qa, .int .i64 qb, .int .i64 qc, .int .i64 qd, .int .i64 ra, .int .i64 rb, .int .i64 rc, .int .i64 rd] T)) (w.alloc (.cells #[.int .i64 pa, .int .i64 pb, .int .i64 pc, .int .i64 pd, .int .i64 qa, .int .i64 qb, .int .i64 qc, .int .i64 qd, .int .i64 ra, .int .i64 rb, .int .i64 rc, .int .i64 rd] T)).heap.size 4 (some ⟨g, 0, none⟩) 3 [pa, pb, pc, pd, qa, qb, qc, qd, ra, rb, rc, rd] :=
 hg ▸ RowF.recs (RowF.of_row (World.rowIs_alloc w #[.int .i64 pa, .int .i64 pb, .int .i64 pc, .int .i64 pd, .int .i64 qa, .int .i64 qb, .int .i64 qc, .int .i64 qd, .int .i64 ra, .int .i64 rb, .int .i64 rc, .int .i64 rd] T (ints [pa, pb, pc, pd, qa, qb, qc, qd, ra, rb, rc, rd]) (fun i hi => by
  simp at hi
  match i, hi with | 0, _ => rfl | 1, _ => rfl | 2, _ => rfl | 3, _ => rfl | 4, _ => rfl | 5, _ => rfl | 6, _ => rfl | 7, _ => rfl | 8, _ => rfl | 9, _ => rfl | 10, _ => rfl | 11, _ => rfl))) rfl
def Stp (p : Prop) : Prop := p
theorem wpList_storeR {P : Program} {ops : Array Oper} {rest : List Oper} {o : Oper} {a : Act} {w : World} {Q : Exit → Act → World → Prop} (hgd : o.guard = none) (ty : TypeId) (x y : Operand) (ho : o.op = .store ty x y)
  (g : Nat) (cells : Array Value) (hx : a.eval x = .pointer (some ⟨g, 0, none⟩)) (hy : a.eval y = .agg cells)
  (t : TypeId) (old : Array Value) (hg : w.heap[g]? = some (.cells old t (0, 0))) (hi : (P.info? ty).map (·.size) = some cells.size)
  (hold : old.size = cells.size) (h1 : cells.all (·.oneCell') = true)
  (h : ∀ w', Only g w w' → w'.heap[g]? = some (.cells cells t (0, 0)) → Stp (wpList P ops Q rest (a.put o.dst undef) w')) : wpList P ops Q (o :: rest) a w :=
 wpList_plain hgd fun _ hK => wp_store_row ty x y ho g cells hx hy t old hg hi hold h1 (hK _ _ (h _ ⟨rfl, rfl, rfl, by simp, fun k hk => setRow_other w g k cells hk⟩ (setRow_heap w g old cells t (0, 0) hg)))
set_option maxRecDepth 100000 in
set_option maxHeartbeats 3200000 in
theorem iDetRows_any (pa pb pc pd qa qb qc qd ra rb rc rd : Int) (w : World) :
  Calls Tryz.prog 184 #[.agg #[.int .i64 pa, .int .i64 pb, .int .i64 pc, .int .i64 pd], .agg #[.int .i64 qa, .int .i64 qb, .int .i64 qc, .int .i64 qd], .agg #[.int .i64 ra, .int .i64 rb, .int .i64 rc, .int .i64 rd]] w fun e w' => e = .returned (.int .i64 (solD pa pb pc pd qa qb qc qd ra rb rc rd)) ∧ Below w.heap.size w w' := by
 have HR0 := Lib.hid (R3.start w pa pb pc pd qa qb qc qd ra rb rc rd 65)
 have HS := Lib.hid (rows3_at (((w.alloc (.cells #[.int .i64 pa, .int .i64 pb, .int .i64 pc, .int .i64 pd] 65)).alloc (.cells #[.int .i64 qa, .int .i64 qb, .int .i64 qc, .int .i64 qd] 65)).alloc (.cells #[.int .i64 ra, .int .i64 rb, .int .i64 rc, .int .i64 rd] 65)) (w.heap.size + 1 + 1 + 1) (by simp) pa pb pc pd qa qb qc qd ra rb rc rd 65)
 have HR := Lib.hid (HR0.out.after ((Below.refl _ _).alloc (Nat.le_refl _) (.cells #[.int .i64 pa, .int .i64 pb, .int .i64 pc, .int .i64 pd, .int .i64 qa, .int .i64 qb, .int .i64 qc, .int .i64 qd, .int .i64 ra, .int .i64 rb, .int .i64 rc, .int .i64 rd] 65)))
 clear HR0
 have HOK := Lib.hid (rows3_B pa pb pc pd qa qb qc qd ra rb rc rd)
 go_enter Tryz.func184, Tryz.ntmps184
 go_wp2_with fail
 refine (rowsOk_any _ _ _ _ _ HS.out (by omega)).mono ?_
 rw [HOK.out]
 rintro e w1 ⟨rfl, hb1⟩
 have HR1 := Lib.hid (HR.out.after hb1)
 clear hb1 HR HS HOK
 cases hok : solOk pa pb pc pd qa qb qc qd ra rb rc rd
 ·have HF := Lib.hid (solD_f hok)
  clear hok
  go_wp2
  go_ret
  exact ⟨ret_int HF.out.symm, HR1.out.below⟩
 ·have HF := Lib.hid (solD_t hok)
  simp only [solOk, Bool.and_eq_true] at hok
  have HD := Lib.hid (rows_detT hok.1 hok.2.1 hok.2.2).1
  have HT := Lib.hid (det9_T pa qa ra pb qb rb pc qc rc)
  clear hok
  obtain ⟨p0, p1, p2, p3⟩ := HR1.out.p.1
  obtain ⟨q0, q1, q2, q3⟩ := HR1.out.q.1
  obtain ⟨r0, r1, r2, r3⟩ := HR1.out.r.1
  go_wp2_with fail
  refine (iCols_any _ _ _ _ _ _ _ _ _ _ _ _ _).mono ?_
  rintro e w2 ⟨rfl, hb2⟩
  have HB2 := Lib.hid (HR1.out.below.trans (hb2.mono HR1.out.below.size))
  clear hb2 HR1 p0 p1 p2 p3 q0 q1 q2 q3 r0 r1 r2 r3
  have Z0 := Lib.hid ((heap_alloc_old (((w2.alloc (.cells #[.int .i64 0, .int .i64 0, .int .i64 0] 205)).alloc (.cells #[.int .i64 0, .int .i64 0, .int .i64 0] 205)).alloc (.cells #[.int .i64 0, .int .i64 0, .int .i64 0] 205)) (.cells #[.int .i64 0, .int .i64 0, .int .i64 0] 205) (by first | (simp; done) | (simp; omega))).trans ((heap_alloc_old ((w2.alloc (.cells #[.int .i64 0, .int .i64 0, .int .i64 0] 205)).alloc (.cells #[.int .i64 0, .int .i64 0, .int .i64 0] 205)) (.cells #[.int .i64 0, .int .i64 0, .int .i64 0] 205) (by first | (simp; done) | (simp; omega))).trans ((heap_alloc_old (w2.alloc (.cells #[.int .i64 0, .int .i64 0, .int .i64 0] 205)) (.cells #[.int .i64 0, .int .i64 0, .int .i64 0] 205) (by first | (simp; done) | (simp; omega))).trans (heap_alloc_new w2 (.cells #[.int .i64 0, .int .i64 0, .int .i64 0] 205)))))
  have Z1 := Lib.hid ((heap_alloc_old (((w2.alloc (.cells #[.int .i64 0, .int .i64 0, .int .i64 0] 205)).alloc (.cells #[.int .i64 0, .int .i64 0, .int .i64 0] 205)).alloc (.cells #[.int .i64 0, .int .i64 0, .int .i64 0] 205)) (.cells #[.int .i64 0, .int .i64 0, .int .i64 0] 205) (by first | (simp; done) | (simp; omega))).trans ((heap_alloc_old ((w2.alloc (.cells #[.int .i64 0, .int .i64 0, .int .i64 0] 205)).alloc (.cells #[.int .i64 0, .int .i64 0, .int .i64 0] 205)) (.cells #[.int .i64 0, .int .i64 0, .int .i64 0] 205) (by first | (simp; done) | (simp; omega))).trans (heap_alloc_new (w2.alloc (.cells #[.int .i64 0, .int .i64 0, .int .i64 0] 205)) (.cells #[.int .i64 0, .int .i64 0, .int .i64 0] 205))))
  have Z2 := Lib.hid ((heap_alloc_old (((w2.alloc (.cells #[.int .i64 0, .int .i64 0, .int .i64 0] 205)).alloc (.cells #[.int .i64 0, .int .i64 0, .int .i64 0] 205)).alloc (.cells #[.int .i64 0, .int .i64 0, .int .i64 0] 205)) (.cells #[.int .i64 0, .int .i64 0, .int .i64 0] 205) (by first | (simp; done) | (simp; omega))).trans (heap_alloc_new ((w2.alloc (.cells #[.int .i64 0, .int .i64 0, .int .i64 0] 205)).alloc (.cells #[.int .i64 0, .int .i64 0, .int .i64 0] 205)) (.cells #[.int .i64 0, .int .i64 0, .int .i64 0] 205)))
  have Z3 := Lib.hid (heap_alloc_new (((w2.alloc (.cells #[.int .i64 0, .int .i64 0, .int .i64 0] 205)).alloc (.cells #[.int .i64 0, .int .i64 0, .int .i64 0] 205)).alloc (.cells #[.int .i64 0, .int .i64 0, .int .i64 0] 205)) (.cells #[.int .i64 0, .int .i64 0, .int .i64 0] 205))
  simp only [World.size_alloc] at Z0 Z1 Z2 Z3
  have HS0 := Lib.hid HB2.out.size
  have HC0 := Lib.hid ((((((((HB2.out).alloc (by have := HS0.out; first | exact this | (simp; omega)) (.cells #[.int .i64 0, .int .i64 0, .int .i64 0] 205))).alloc (by have := HS0.out; first | exact this | (simp; omega)) (.cells #[.int .i64 0, .int .i64 0, .int .i64 0] 205))).alloc (by have := HS0.out; first | exact this | (simp; omega)) (.cells #[.int .i64 0, .int .i64 0, .int .i64 0] 205))).alloc (by have := HS0.out; first | exact this | (simp; omega)) (.cells #[.int .i64 0, .int .i64 0, .int .i64 0] 205))
  go_wp2_with (refine wpList_storeR rfl 205 (.tmp 7) (.tmp 22) rfl (w2.heap.size) #[.int .i64 pa, .int .i64 qa, .int .i64 ra] rfl rfl 205 #[.int .i64 0, .int .i64 0, .int .i64 0] (by exact Z0.out) (by kernel_rfl) rfl (by simp [Value.oneCell']) ?_; intro v1 O0 Y; have Y0 := Lib.hid Y; clear Y)
  unfold Stp
  have N1 := Lib.hid ((O0.block (w2.heap.size + 1) (by omega)).trans Z1.out)
  have N2 := Lib.hid ((O0.block (w2.heap.size + 1 + 1) (by omega)).trans Z2.out)
  have N3 := Lib.hid ((O0.block (w2.heap.size + 1 + 1 + 1) (by omega)).trans Z3.out)
  have HC1 := Lib.hid (HC0.out.trans (O0.below (B := w.heap.size) (by have := HS0.out; omega)))
  clear O0 HC0 Z0 Z1 Z2 Z3
  have Z1 := N1
  have Z2 := N2
  have Z3 := N3
  clear N1 N2 N3
  go_wp2_with (refine wpList_storeR rfl 205 (.tmp 8) (.tmp 23) rfl (w2.heap.size + 1) #[.int .i64 pb, .int .i64 qb, .int .i64 rb] rfl rfl 205 #[.int .i64 0, .int .i64 0, .int .i64 0] (by exact Z1.out) (by kernel_rfl) rfl (by simp [Value.oneCell']) ?_; intro v2 O1 Y; have Y1 := Lib.hid Y; clear Y)
  unfold Stp
  have N0 := Lib.hid ((O1.block (w2.heap.size) (by omega)).trans Y0.out)
  have N2 := Lib.hid ((O1.block (w2.heap.size + 1 + 1) (by omega)).trans Z2.out)
  have N3 := Lib.hid ((O1.block (w2.heap.size + 1 + 1 + 1) (by omega)).trans Z3.out)
  have HC2 := Lib.hid (HC1.out.trans (O1.below (B := w.heap.size) (by have := HS0.out; omega)))
  clear O1 HC1 Z1 Y0 Z2 Z3
  have Y0 := N0
  have Z2 := N2
  have Z3 := N3
  clear N0 N2 N3
  go_wp2_with (refine wpList_storeR rfl 205 (.tmp 9) (.tmp 24) rfl (w2.heap.size + 1 + 1) #[.int .i64 pc, .int .i64 qc, .int .i64 rc] rfl rfl 205 #[.int .i64 0, .int .i64 0, .int .i64 0] (by exact Z2.out) (by kernel_rfl) rfl (by simp [Value.oneCell']) ?_; intro v3 O2 Y; have Y2 := Lib.hid Y; clear Y)
  unfold Stp
  have N0 := Lib.hid ((O2.block (w2.heap.size) (by omega)).trans Y0.out)
  have N1 := Lib.hid ((O2.block (w2.heap.size + 1) (by omega)).trans Y1.out)
  have N3 := Lib.hid ((O2.block (w2.heap.size + 1 + 1 + 1) (by omega)).trans Z3.out)
  have HC3 := Lib.hid (HC2.out.trans (O2.below (B := w.heap.size) (by have := HS0.out; omega)))
  clear O2 HC2 Z2 Y0 Y1 Z3
  have Y0 := N0
  have Y1 := N1
  have Z3 := N3
  clear N0 N1 N3
  go_wp2_with (refine wpList_storeR rfl 205 (.tmp 10) (.tmp 25) rfl (w2.heap.size + 1 + 1 + 1) #[.int .i64 pd, .int .i64 qd, .int .i64 rd] rfl rfl 205 #[.int .i64 0, .int .i64 0, .int .i64 0] (by exact Z3.out) (by kernel_rfl) rfl (by simp [Value.oneCell']) ?_; intro v4 O3 Y; have Y3 := Lib.hid Y; clear Y)
  unfold Stp
  have N0 := Lib.hid ((O3.block (w2.heap.size) (by omega)).trans Y0.out)
  have N1 := Lib.hid ((O3.block (w2.heap.size + 1) (by omega)).trans Y1.out)
  have N2 := Lib.hid ((O3.block (w2.heap.size + 1 + 1) (by omega)).trans Y2.out)
  have HC4 := Lib.hid (HC3.out.trans (O3.below (B := w.heap.size) (by have := HS0.out; omega)))
  clear O3 HC3 Z3 Y0 Y1 Y2
  have Y0 := N0
  have Y1 := N1
  have Y2 := N2
  clear N0 N1 N2
  have y00 := cell_of_row _ (w2.heap.size) 0 _ _ _ Y0.out
  simp only [List.getElem?_toArray, List.getElem?_cons_zero, List.getElem?_cons_succ] at y00
  have y01 := cell_of_row _ (w2.heap.size) 1 _ _ _ Y0.out
  simp only [List.getElem?_toArray, List.getElem?_cons_zero, List.getElem?_cons_succ] at y01
  have y02 := cell_of_row _ (w2.heap.size) 2 _ _ _ Y0.out
  simp only [List.getElem?_toArray, List.getElem?_cons_zero, List.getElem?_cons_succ] at y02
  have y10 := cell_of_row _ (w2.heap.size + 1) 0 _ _ _ Y1.out
  simp only [List.getElem?_toArray, List.getElem?_cons_zero, List.getElem?_cons_succ] at y10
  have y11 := cell_of_row _ (w2.heap.size + 1) 1 _ _ _ Y1.out
  simp only [List.getElem?_toArray, List.getElem?_cons_zero, List.getElem?_cons_succ] at y11
  have y12 := cell_of_row _ (w2.heap.size + 1) 2 _ _ _ Y1.out
  simp only [List.getElem?_toArray, List.getElem?_cons_zero, List.getElem?_cons_succ] at y12
  have y20 := cell_of_row _ (w2.heap.size + 1 + 1) 0 _ _ _ Y2.out
  simp only [List.getElem?_toArray, List.getElem?_cons_zero, List.getElem?_cons_succ] at y20
  have y21 := cell_of_row _ (w2.heap.size + 1 + 1) 1 _ _ _ Y2.out
  simp only [List.getElem?_toArray, List.getElem?_cons_zero, List.getElem?_cons_succ] at y21
  have y22 := cell_of_row _ (w2.heap.size + 1 + 1) 2 _ _ _ Y2.out
  simp only [List.getElem?_toArray, List.getElem?_cons_zero, List.getElem?_cons_succ] at y22
  have y30 := cell_of_row _ (w2.heap.size + 1 + 1 + 1) 0 _ _ _ Y3.out
  simp only [List.getElem?_toArray, List.getElem?_cons_zero, List.getElem?_cons_succ] at y30
  have y31 := cell_of_row _ (w2.heap.size + 1 + 1 + 1) 1 _ _ _ Y3.out
  simp only [List.getElem?_toArray, List.getElem?_cons_zero, List.getElem?_cons_succ] at y31
  have y32 := cell_of_row _ (w2.heap.size + 1 + 1 + 1) 2 _ _ _ Y3.out
  simp only [List.getElem?_toArray, List.getElem?_cons_zero, List.getElem?_cons_succ] at y32
  go_wp2_with fail
  refine (iDet_any _ _ _ _ _ _ _ _ _ _ HD.out).mono ?_
  rintro e v5 ⟨rfl, hb5⟩
  have HB5 := Lib.hid (HC4.out.trans (hb5.mono HC4.out.size))
  clear hb5
  go_wp2
  go_ret
  exact ⟨ret_int (HT.out.trans HF.out.symm), HB5.out⟩
theorem results_cell1t {P : Program} {fn : Func} {p u : Tmp} {ty : TypeId} (h : fn.results = #[.cell p ty, .tmp u]) (tmps : Array Value) (w : World) (g : Nat) (t : TypeId) (cs : Array Value) (fr : Nat × Nat) (d : TypeDesc) (x : Value)
  (hp : tmps.getD p undef = .pointer (some ⟨g, 0, none⟩)) (hx : tmps.getD u undef = x) (hg : w.heap[g]? = some (.cells cs t fr))
  (hu : P.underlying ty = some d) (hd : (match d with | .struct _ | .array _ _ => true | _ => false) = true) (hi : (P.info? ty).map (·.size) = some cs.size) :
  (results fn tmps).run P w = .ok (.tuple #[.agg cs, x]) w := by
 have hp' : tmps[p]?.getD undef = .pointer (some ⟨g, 0, none⟩) := by simpa using hp
 have hx' : tmps[u]?.getD undef = x := by simpa using hx
 simp [results, h, hp', hx', asAddr, run_loadVar_row w g t ty cs fr d hg hu hd hi]
set_option maxRecDepth 100000 in
set_option maxHeartbeats 3200000 in
theorem iSolve_any (pa pb pc pd qa qb qc qd ra rb rc rd : Int) (w : World) :
  Calls Tryz.prog 157 #[.agg #[.int .i64 pa, .int .i64 pb, .int .i64 pc, .int .i64 pd], .agg #[.int .i64 qa, .int .i64 qb, .int .i64 qc, .int .i64 qd], .agg #[.int .i64 ra, .int .i64 rb, .int .i64 rc, .int .i64 rd]] w fun e w' => e = .returned (solV pa pb pc pd qa qb qc qd ra rb rc rd) ∧ Below w.heap.size w w' := by
 have HR0 := Lib.hid (R3.start w pa pb pc pd qa qb qc qd ra rb rc rd 65)
 have HT := Lib.hid (heap_alloc_new (((w.alloc (.cells #[.int .i64 pa, .int .i64 pb, .int .i64 pc, .int .i64 pd] 65)).alloc (.cells #[.int .i64 qa, .int .i64 qb, .int .i64 qc, .int .i64 qd] 65)).alloc (.cells #[.int .i64 ra, .int .i64 rb, .int .i64 rc, .int .i64 rd] 65)) (.cells #[.int .i64 0, .int .i64 0, .int .i64 0, .int .i64 0] 31))
 simp only [World.size_alloc] at HT
 have HR := Lib.hid (HR0.out.after ((Below.refl _ _).alloc (Nat.le_refl _) (.cells #[.int .i64 0, .int .i64 0, .int .i64 0, .int .i64 0] 31)))
 have HL := Lib.hid (show w.heap.size + 1 + 1 + 1 < ((((w.alloc (.cells #[.int .i64 pa, .int .i64 pb, .int .i64 pc, .int .i64 pd] 65)).alloc (.cells #[.int .i64 qa, .int .i64 qb, .int .i64 qc, .int .i64 qd] 65)).alloc (.cells #[.int .i64 ra, .int .i64 rb, .int .i64 rc, .int .i64 rd] 65)).alloc (.cells #[.int .i64 0, .int .i64 0, .int .i64 0, .int .i64 0] 31)).heap.size by simp)
 clear HR0
 go_enter Tryz.func157, Tryz.ntmps157
 go_wp2_with fail
 refine (iDetRows_any _ _ _ _ _ _ _ _ _ _ _ _ _).mono ?_
 rintro e w1 ⟨rfl, hb1⟩
 have HR1 := Lib.hid (HR.out.after hb1)
 have HT1 := Lib.hid ((hb1.block _ HL.out).trans HT.out)
 have HL1 := Lib.hid (Nat.lt_of_lt_of_le HL.out hb1.size)
 clear HR HT hb1 HL
 by_cases h0 : solD pa pb pc pd qa qb qc qd ra rb rc rd = 0
 ·have HF := Lib.hid (solV_0 h0)
  rw [h0]
  have HB1 := Lib.hid HR1.out.below
  clear HR1
  go_wp2_with (refine wpList_storeR rfl 31 (.tmp 6) (.tmp 19) rfl (w.heap.size + 1 + 1 + 1) #[.int .i64 0, .int .i64 0, .int .i64 0, .int .i64 0] rfl rfl 31 #[.int .i64 0, .int .i64 0, .int .i64 0, .int .i64 0] (by exact HT1.out) (by kernel_rfl) rfl (by simp [Value.oneCell']) ?_; intro w2 O Y; have HO := Lib.hid O; have HY := Lib.hid Y; clear O Y)
  unfold Stp
  go_wp2
  (try simp only [Exit.inBlock, Exit.then])
  refine bodyPost_ret (results_cell1t rfl _ _ _ 31 _ _ _ _ rfl rfl HY.out Tryz.underlying31 rfl (by kernel_rfl)) rfl ?_
  exact ⟨by rw [HF.out]; rfl, HB1.out.trans (HO.out.below (by omega))⟩
 ·obtain ⟨g1, g2, g3⟩ := solD_ne h0
  have HD := Lib.hid (rows_detT g1 g2 g3).2
  have HE1 := Lib.hid (det9_T pd qd rd pb qb rb pc qc rc)
  have HE2 := Lib.hid (det9_T pa qa ra pd qd rd pc qc rc)
  have HE3 := Lib.hid (det9_T pa qa ra pb qb rb pd qd rd)
  obtain ⟨m0, m1, m2, m3, mb, hmk⟩ : ∃ m0 m1 m2 m3 mb, mkV (det9 pd pb pc qd qb qc rd rb rc) (det9 pa pd pc qa qd qc ra rd rc) (det9 pa pb pd qa qb qd ra rb rd) (solD pa pb pc pd qa qb qc qd ra rb rc rd) = thrV m0 m1 m2 m3 mb := ⟨_, _, _, _, _, rfl⟩
  have HVV : Hid (solV pa pb pc pd qa qb qc qd ra rb rc rd = thrV m0 m1 m2 m3 mb) := Lib.hid hmk
  have HMK := Lib.hid hmk
  clear hmk
  obtain ⟨D, hD⟩ : ∃ D, solD pa pb pc pd qa qb qc qd ra rb rc rd = D := ⟨_, rfl⟩
  rw [hD] at h0 HMK ⊢
  have hd0 : (D == 0) = false := by simp [h0]
  clear g1 g2 g3 hD
  obtain ⟨p0, p1, p2, p3⟩ := HR1.out.p.1
  obtain ⟨q0, q1, q2, q3⟩ := HR1.out.q.1
  obtain ⟨r0, r1, r2, r3⟩ := HR1.out.r.1
  go_wp2_with fail
  refine (iCols_any _ _ _ _ _ _ _ _ _ _ _ _ _).mono ?_
  rintro e w2 ⟨rfl, hb2⟩
  have HB2 := Lib.hid (HR1.out.below.trans (hb2.mono HR1.out.below.size))
  have HT2 := Lib.hid ((hb2.block _ HL1.out).trans HT1.out)
  have HL2 := Lib.hid (Nat.lt_of_lt_of_le HL1.out hb2.size)
  have hlt3 := HL2.out
  clear hb2 HR1 p0 p1 p2 p3 q0 q1 q2 q3 r0 r1 r2 r3 HT1 HL1
  have Z0 := Lib.hid ((heap_alloc_old (((w2.alloc (.cells #[.int .i64 0, .int .i64 0, .int .i64 0] 205)).alloc (.cells #[.int .i64 0, .int .i64 0, .int .i64 0] 205)).alloc (.cells #[.int .i64 0, .int .i64 0, .int .i64 0] 205)) (.cells #[.int .i64 0, .int .i64 0, .int .i64 0] 205) (by first | (simp; done) | (simp; omega))).trans ((heap_alloc_old ((w2.alloc (.cells #[.int .i64 0, .int .i64 0, .int .i64 0] 205)).alloc (.cells #[.int .i64 0, .int .i64 0, .int .i64 0] 205)) (.cells #[.int .i64 0, .int .i64 0, .int .i64 0] 205) (by first | (simp; done) | (simp; omega))).trans ((heap_alloc_old (w2.alloc (.cells #[.int .i64 0, .int .i64 0, .int .i64 0] 205)) (.cells #[.int .i64 0, .int .i64 0, .int .i64 0] 205) (by first | (simp; done) | (simp; omega))).trans (heap_alloc_new w2 (.cells #[.int .i64 0, .int .i64 0, .int .i64 0] 205)))))
  have Z1 := Lib.hid ((heap_alloc_old (((w2.alloc (.cells #[.int .i64 0, .int .i64 0, .int .i64 0] 205)).alloc (.cells #[.int .i64 0, .int .i64 0, .int .i64 0] 205)).alloc (.cells #[.int .i64 0, .int .i64 0, .int .i64 0] 205)) (.cells #[.int .i64 0, .int .i64 0, .int .i64 0] 205) (by first | (simp; done) | (simp; omega))).trans ((heap_alloc_old ((w2.alloc (.cells #[.int .i64 0, .int .i64 0, .int .i64 0] 205)).alloc (.cells #[.int .i64 0, .int .i64 0, .int .i64 0] 205)) (.cells #[.int .i64 0, .int .i64 0, .int .i64 0] 205) (by first | (simp; done) | (simp; omega))).trans (heap_alloc_new (w2.alloc (.cells #[.int .i64 0, .int .i64 0, .int .i64 0] 205)) (.cells #[.int .i64 0, .int .i64 0, .int .i64 0] 205))))
  have Z2 := Lib.hid ((heap_alloc_old (((w2.alloc (.cells #[.int .i64 0, .int .i64 0, .int .i64 0] 205)).alloc (.cells #[.int .i64 0, .int .i64 0, .int .i64 0] 205)).alloc (.cells #[.int .i64 0, .int .i64 0, .int .i64 0] 205)) (.cells #[.int .i64 0, .int .i64 0, .int .i64 0] 205) (by first | (simp; done) | (simp; omega))).trans (heap_alloc_new ((w2.alloc (.cells #[.int .i64 0, .int .i64 0, .int .i64 0] 205)).alloc (.cells #[.int .i64 0, .int .i64 0, .int .i64 0] 205)) (.cells #[.int .i64 0, .int .i64 0, .int .i64 0] 205)))
  have Z3 := Lib.hid (heap_alloc_new (((w2.alloc (.cells #[.int .i64 0, .int .i64 0, .int .i64 0] 205)).alloc (.cells #[.int .i64 0, .int .i64 0, .int .i64 0] 205)).alloc (.cells #[.int .i64 0, .int .i64 0, .int .i64 0] 205)) (.cells #[.int .i64 0, .int .i64 0, .int .i64 0] 205))
  simp only [World.size_alloc] at Z0 Z1 Z2 Z3
  have HS0 := Lib.hid HB2.out.size
  have HC0 := Lib.hid ((((((((HB2.out).alloc (by have := HS0.out; first | exact this | (simp; omega)) (.cells #[.int .i64 0, .int .i64 0, .int .i64 0] 205))).alloc (by have := HS0.out; first | exact this | (simp; omega)) (.cells #[.int .i64 0, .int .i64 0, .int .i64 0] 205))).alloc (by have := HS0.out; first | exact this | (simp; omega)) (.cells #[.int .i64 0, .int .i64 0, .int .i64 0] 205))).alloc (by have := HS0.out; first | exact this | (simp; omega)) (.cells #[.int .i64 0, .int .i64 0, .int .i64 0] 205))
  have T0 := Lib.hid ((heap_alloc_old (((w2.alloc (.cells #[.int .i64 0, .int .i64 0, .int .i64 0] 205)).alloc (.cells #[.int .i64 0, .int .i64 0, .int .i64 0] 205)).alloc (.cells #[.int .i64 0, .int .i64 0, .int .i64 0] 205)) (.cells #[.int .i64 0, .int .i64 0, .int .i64 0] 205) (by have := HS0.out; simp; omega)).trans ((heap_alloc_old ((w2.alloc (.cells #[.int .i64 0, .int .i64 0, .int .i64 0] 205)).alloc (.cells #[.int .i64 0, .int .i64 0, .int .i64 0] 205)) (.cells #[.int .i64 0, .int .i64 0, .int .i64 0] 205) (by have := HS0.out; simp; omega)).trans ((heap_alloc_old (w2.alloc (.cells #[.int .i64 0, .int .i64 0, .int .i64 0] 205)) (.cells #[.int .i64 0, .int .i64 0, .int .i64 0] 205) (by have := HS0.out; simp; omega)).trans ((heap_alloc_old w2 (.cells #[.int .i64 0, .int .i64 0, .int .i64 0] 205) (by have := HS0.out; simp; omega)).trans HT2.out))))
  go_wp2_with (refine wpList_storeR rfl 205 (.tmp 9) (.tmp 25) rfl (w2.heap.size) #[.int .i64 pa, .int .i64 qa, .int .i64 ra] rfl rfl 205 #[.int .i64 0, .int .i64 0, .int .i64 0] (by exact Z0.out) (by kernel_rfl) rfl (by simp [Value.oneCell']) ?_; intro v1 O0 Y; have Y0 := Lib.hid Y; clear Y)
  unfold Stp
  have N1 := Lib.hid ((O0.block (w2.heap.size + 1) (by omega)).trans Z1.out)
  have N2 := Lib.hid ((O0.block (w2.heap.size + 1 + 1) (by omega)).trans Z2.out)
  have N3 := Lib.hid ((O0.block (w2.heap.size + 1 + 1 + 1) (by omega)).trans Z3.out)
  have HC1 := Lib.hid (HC0.out.trans (O0.below (B := w.heap.size) (by have := HS0.out; omega)))
  have T1 := Lib.hid ((O0.block (w.heap.size + 1 + 1 + 1) (by have := HS0.out; omega)).trans T0.out)
  clear T0
  clear O0 HC0 Z0 Z1 Z2 Z3
  have Z1 := N1
  have Z2 := N2
  have Z3 := N3
  clear N1 N2 N3
  go_wp2_with (refine wpList_storeR rfl 205 (.tmp 10) (.tmp 26) rfl (w2.heap.size + 1) #[.int .i64 pb, .int .i64 qb, .int .i64 rb] rfl rfl 205 #[.int .i64 0, .int .i64 0, .int .i64 0] (by exact Z1.out) (by kernel_rfl) rfl (by simp [Value.oneCell']) ?_; intro v2 O1 Y; have Y1 := Lib.hid Y; clear Y)
  unfold Stp
  have N0 := Lib.hid ((O1.block (w2.heap.size) (by omega)).trans Y0.out)
  have N2 := Lib.hid ((O1.block (w2.heap.size + 1 + 1) (by omega)).trans Z2.out)
  have N3 := Lib.hid ((O1.block (w2.heap.size + 1 + 1 + 1) (by omega)).trans Z3.out)
  have HC2 := Lib.hid (HC1.out.trans (O1.below (B := w.heap.size) (by have := HS0.out; omega)))
  have T2 := Lib.hid ((O1.block (w.heap.size + 1 + 1 + 1) (by have := HS0.out; omega)).trans T1.out)
  clear T1
  clear O1 HC1 Z1 Y0 Z2 Z3
  have Y0 := N0
  have Z2 := N2
  have Z3 := N3
  clear N0 N2 N3
  go_wp2_with (refine wpList_storeR rfl 205 (.tmp 11) (.tmp 27) rfl (w2.heap.size + 1 + 1) #[.int .i64 pc, .int .i64 qc, .int .i64 rc] rfl rfl 205 #[.int .i64 0, .int .i64 0, .int .i64 0] (by exact Z2.out) (by kernel_rfl) rfl (by simp [Value.oneCell']) ?_; intro v3 O2 Y; have Y2 := Lib.hid Y; clear Y)
  unfold Stp
  have N0 := Lib.hid ((O2.block (w2.heap.size) (by omega)).trans Y0.out)
  have N1 := Lib.hid ((O2.block (w2.heap.size + 1) (by omega)).trans Y1.out)
  have N3 := Lib.hid ((O2.block (w2.heap.size + 1 + 1 + 1) (by omega)).trans Z3.out)
  have HC3 := Lib.hid (HC2.out.trans (O2.below (B := w.heap.size) (by have := HS0.out; omega)))
  have T3 := Lib.hid ((O2.block (w.heap.size + 1 + 1 + 1) (by have := HS0.out; omega)).trans T2.out)
  clear T2
  clear O2 HC2 Z2 Y0 Y1 Z3
  have Y0 := N0
  have Y1 := N1
  have Z3 := N3
  clear N0 N1 N3
  go_wp2_with (refine wpList_storeR rfl 205 (.tmp 12) (.tmp 28) rfl (w2.heap.size + 1 + 1 + 1) #[.int .i64 pd, .int .i64 qd, .int .i64 rd] rfl rfl 205 #[.int .i64 0, .int .i64 0, .int .i64 0] (by exact Z3.out) (by kernel_rfl) rfl (by simp [Value.oneCell']) ?_; intro v4 O3 Y; have Y3 := Lib.hid Y; clear Y)
  unfold Stp
  have N0 := Lib.hid ((O3.block (w2.heap.size) (by omega)).trans Y0.out)
  have N1 := Lib.hid ((O3.block (w2.heap.size + 1) (by omega)).trans Y1.out)
  have N2 := Lib.hid ((O3.block (w2.heap.size + 1 + 1) (by omega)).trans Y2.out)
  have HC4 := Lib.hid (HC3.out.trans (O3.below (B := w.heap.size) (by have := HS0.out; omega)))
  have T4 := Lib.hid ((O3.block (w.heap.size + 1 + 1 + 1) (by have := HS0.out; omega)).trans T3.out)
  clear T3
  clear O3 HC3 Z3 Y0 Y1 Y2
  have Y0 := N0
  have Y1 := N1
  have Y2 := N2
  clear N0 N1 N2
  have y00 := cell_of_row _ (w2.heap.size) 0 _ _ _ Y0.out
  simp only [List.getElem?_toArray, List.getElem?_cons_zero, List.getElem?_cons_succ] at y00
  have y01 := cell_of_row _ (w2.heap.size) 1 _ _ _ Y0.out
  simp only [List.getElem?_toArray, List.getElem?_cons_zero, List.getElem?_cons_succ] at y01
  have y02 := cell_of_row _ (w2.heap.size) 2 _ _ _ Y0.out
  simp only [List.getElem?_toArray, List.getElem?_cons_zero, List.getElem?_cons_succ] at y02
  have y10 := cell_of_row _ (w2.heap.size + 1) 0 _ _ _ Y1.out
  simp only [List.getElem?_toArray, List.getElem?_cons_zero, List.getElem?_cons_succ] at y10
  have y11 := cell_of_row _ (w2.heap.size + 1) 1 _ _ _ Y1.out
  simp only [List.getElem?_toArray, List.getElem?_cons_zero, List.getElem?_cons_succ] at y11
  have y12 := cell_of_row _ (w2.heap.size + 1) 2 _ _ _ Y1.out
  simp only [List.getElem?_toArray, List.getElem?_cons_zero, List.getElem?_cons_succ] at y12
  have y20 := cell_of_row _ (w2.heap.size + 1 + 1) 0 _ _ _ Y2.out
  simp only [List.getElem?_toArray, List.getElem?_cons_zero, List.getElem?_cons_succ] at y20
  have y21 := cell_of_row _ (w2.heap.size + 1 + 1) 1 _ _ _ Y2.out
  simp only [List.getElem?_toArray, List.getElem?_cons_zero, List.getElem?_cons_succ] at y21
  have y22 := cell_of_row _ (w2.heap.size + 1 + 1) 2 _ _ _ Y2.out
  simp only [List.getElem?_toArray, List.getElem?_cons_zero, List.getElem?_cons_succ] at y22
  have y30 := cell_of_row _ (w2.heap.size + 1 + 1 + 1) 0 _ _ _ Y3.out
  simp only [List.getElem?_toArray, List.getElem?_cons_zero, List.getElem?_cons_succ] at y30
  have y31 := cell_of_row _ (w2.heap.size + 1 + 1 + 1) 1 _ _ _ Y3.out
  simp only [List.getElem?_toArray, List.getElem?_cons_zero, List.getElem?_cons_succ] at y31
  have y32 := cell_of_row _ (w2.heap.size + 1 + 1 + 1) 2 _ _ _ Y3.out
  simp only [List.getElem?_toArray, List.getElem?_cons_zero, List.getElem?_cons_succ] at y32
  have HL0 := Lib.hid (Array.getElem?_eq_some_iff.1 Y0.out).1
  have HL1 := Lib.hid (Array.getElem?_eq_some_iff.1 Y1.out).1
  have HL2' := Lib.hid (Array.getElem?_eq_some_iff.1 Y2.out).1
  have HL3 := Lib.hid (Array.getElem?_eq_some_iff.1 Y3.out).1
  have HLT := Lib.hid (Array.getElem?_eq_some_iff.1 T4.out).1
  clear HL2
  have HL2 := HL2'
  have HNE0 := Lib.hid hlt3
  clear HL2' Y0 Y1 Y2 Y3 hlt3 HT2 HB2
  go_wp2_with fail
  refine wp_region_held_drew (S := fun w' => (w'.cell? ⟨w2.heap.size, 0, none⟩ = some (.int .i64 pa) ∧ w'.cell? ⟨w2.heap.size, 1, none⟩ = some (.int .i64 qa) ∧ w'.cell? ⟨w2.heap.size, 2, none⟩ = some (.int .i64 ra)) ∧ (w'.cell? ⟨w2.heap.size + 1, 0, none⟩ = some (.int .i64 pb) ∧ w'.cell? ⟨w2.heap.size + 1, 1, none⟩ = some (.int .i64 qb) ∧ w'.cell? ⟨w2.heap.size + 1, 2, none⟩ = some (.int .i64 rb)) ∧ (w'.cell? ⟨w2.heap.size + 1 + 1, 0, none⟩ = some (.int .i64 pc) ∧ w'.cell? ⟨w2.heap.size + 1 + 1, 1, none⟩ = some (.int .i64 qc) ∧ w'.cell? ⟨w2.heap.size + 1 + 1, 2, none⟩ = some (.int .i64 rc)) ∧ (w'.cell? ⟨w2.heap.size + 1 + 1 + 1, 0, none⟩ = some (.int .i64 pd) ∧ w'.cell? ⟨w2.heap.size + 1 + 1 + 1, 1, none⟩ = some (.int .i64 qd) ∧ w'.cell? ⟨w2.heap.size + 1 + 1 + 1, 2, none⟩ = some (.int .i64 rd))) (by kernel_rfl) (by exact ⟨⟨y00, y01, y02⟩, ⟨y10, y11, y12⟩, ⟨y20, y21, y22⟩, ⟨y30, y31, y32⟩⟩) (fun hHeld => ?_)
  refine take_heldS (i := 0) (d := 29) rfl rfl ?_
  try simp only [Act.put, ly3]
  refine take_heldS (i := 1) (d := 30) rfl rfl ?_
  try simp only [Act.put, ly3]
  refine take_heldS (i := 2) (d := 31) rfl rfl ?_
  try simp only [Act.put, ly3]
  refine take_heldS (i := 4) (d := 33) rfl rfl ?_
  try simp only [Act.put, ly3]
  refine take_heldS (i := 5) (d := 34) rfl rfl ?_
  try simp only [Act.put, ly3]
  refine take_heldS (i := 6) (d := 35) rfl rfl ?_
  try simp only [Act.put, ly3]
  refine take_heldS (i := 8) (d := 37) rfl rfl ?_
  try simp only [Act.put, ly3]
  refine take_heldS (i := 9) (d := 38) rfl rfl ?_
  try simp only [Act.put, ly3]
  refine take_heldS (i := 10) (d := 39) rfl rfl ?_
  try simp only [Act.put, ly3]
  refine take_heldS (i := 12) (d := 41) rfl rfl ?_
  try simp only [Act.put, ly3]
  refine wpAnyH_ready (rs := [3]) (by kernel_rfl) (by simp) ?_
  refine AllReadyH.cons rfl (fun K hK => ?_) AllReadyH.nil
  go_simp
  (with_reducible refine (iDet_any _ _ _ _ _ _ _ _ _ _ HD.out.1).mono ?_); rintro e u1 ⟨rfl, hb1⟩; rw [HE1.out]; have H1b := Lib.hid (below_then (below_dr (Below.refl v4.heap.size v4)) hb1); clear hb1
  refine hK.out _ _ (by exact ⟨⟨(H1b.out.cell (by exact HL0.out)).trans y00, (H1b.out.cell (by exact HL0.out)).trans y01, (H1b.out.cell (by exact HL0.out)).trans y02⟩, ⟨(H1b.out.cell (by exact HL1.out)).trans y10, (H1b.out.cell (by exact HL1.out)).trans y11, (H1b.out.cell (by exact HL1.out)).trans y12⟩, ⟨(H1b.out.cell (by exact HL2.out)).trans y20, (H1b.out.cell (by exact HL2.out)).trans y21, (H1b.out.cell (by exact HL2.out)).trans y22⟩, ⟨(H1b.out.cell (by exact HL3.out)).trans y30, (H1b.out.cell (by exact HL3.out)).trans y31, (H1b.out.cell (by exact HL3.out)).trans y32⟩⟩) (fun hHeld => ?_)
  clear hK K
  try simp only [Act.put, ly3]
  refine wpAnyH_ready (rs := [7]) (by kernel_rfl) (by simp) ?_
  refine AllReadyH.cons rfl (fun K hK => ?_) AllReadyH.nil
  go_simp
  (with_reducible refine (iDet_any _ _ _ _ _ _ _ _ _ _ HD.out.2.1).mono ?_); rintro e u2 ⟨rfl, hb2⟩; rw [HE2.out]; have H2b := Lib.hid (below_then H1b.out hb2); clear hb2
  refine hK.out _ _ (by exact ⟨⟨(H2b.out.cell (by exact HL0.out)).trans y00, (H2b.out.cell (by exact HL0.out)).trans y01, (H2b.out.cell (by exact HL0.out)).trans y02⟩, ⟨(H2b.out.cell (by exact HL1.out)).trans y10, (H2b.out.cell (by exact HL1.out)).trans y11, (H2b.out.cell (by exact HL1.out)).trans y12⟩, ⟨(H2b.out.cell (by exact HL2.out)).trans y20, (H2b.out.cell (by exact HL2.out)).trans y21, (H2b.out.cell (by exact HL2.out)).trans y22⟩, ⟨(H2b.out.cell (by exact HL3.out)).trans y30, (H2b.out.cell (by exact HL3.out)).trans y31, (H2b.out.cell (by exact HL3.out)).trans y32⟩⟩) (fun hHeld => ?_)
  clear hK K
  try simp only [Act.put, ly3]
  refine wpAnyH_ready (rs := [11]) (by kernel_rfl) (by simp) ?_
  refine AllReadyH.cons rfl (fun K hK => ?_) AllReadyH.nil
  go_simp
  (with_reducible refine (iDet_any _ _ _ _ _ _ _ _ _ _ HD.out.2.2).mono ?_); rintro e u3 ⟨rfl, hb3⟩; rw [HE3.out]; have H3b := Lib.hid (below_then H2b.out hb3); clear hb3
  refine hK.out _ _ (by exact ⟨⟨(H3b.out.cell (by exact HL0.out)).trans y00, (H3b.out.cell (by exact HL0.out)).trans y01, (H3b.out.cell (by exact HL0.out)).trans y02⟩, ⟨(H3b.out.cell (by exact HL1.out)).trans y10, (H3b.out.cell (by exact HL1.out)).trans y11, (H3b.out.cell (by exact HL1.out)).trans y12⟩, ⟨(H3b.out.cell (by exact HL2.out)).trans y20, (H3b.out.cell (by exact HL2.out)).trans y21, (H3b.out.cell (by exact HL2.out)).trans y22⟩, ⟨(H3b.out.cell (by exact HL3.out)).trans y30, (H3b.out.cell (by exact HL3.out)).trans y31, (H3b.out.cell (by exact HL3.out)).trans y32⟩⟩) (fun hHeld => ?_)
  clear hK K
  try simp only [Act.put, ly3]
  refine wpAnyH_ready (rs := [13]) (by kernel_rfl) (by simp) ?_
  refine AllReadyH.cons rfl (fun K hK => ?_) AllReadyH.nil
  go_simp
  (with_reducible refine (iMake_any _ _ _ _ _).mono ?_); rintro e u4 ⟨rfl, hb4⟩; rw [HMK.out, thrV]; have H4b := Lib.hid (below_then H3b.out hb4); clear hb4
  refine hK.out _ _ (by exact ⟨⟨(H4b.out.cell (by exact HL0.out)).trans y00, (H4b.out.cell (by exact HL0.out)).trans y01, (H4b.out.cell (by exact HL0.out)).trans y02⟩, ⟨(H4b.out.cell (by exact HL1.out)).trans y10, (H4b.out.cell (by exact HL1.out)).trans y11, (H4b.out.cell (by exact HL1.out)).trans y12⟩, ⟨(H4b.out.cell (by exact HL2.out)).trans y20, (H4b.out.cell (by exact HL2.out)).trans y21, (H4b.out.cell (by exact HL2.out)).trans y22⟩, ⟨(H4b.out.cell (by exact HL3.out)).trans y30, (H4b.out.cell (by exact HL3.out)).trans y31, (H4b.out.cell (by exact HL3.out)).trans y32⟩⟩) (fun hHeld => ?_)
  clear hK K
  try simp only [Act.put, ly3]
  refine take_heldS (i := 14) (d := 43) rfl rfl ?_
  try simp only [Act.put, ly3]
  refine take_heldS (i := 15) (d := 44) rfl rfl ?_
  try simp only [Act.put, ly3]
  refine wpAnyH_ready (rs := [16]) (by kernel_rfl) (by simp) ?_
  refine AllReadyH.cons rfl (fun K hK => ?_) AllReadyH.nil
  refine step_storeRow rfl 31 (.tmp 6) (.tmp 43) rfl (w.heap.size + 1 + 1 + 1) #[.int .i64 m0, .int .i64 m1, .int .i64 m2, .int .i64 m3] rfl rfl 31 #[.int .i64 0, .int .i64 0, .int .i64 0, .int .i64 0] (by exact (H4b.out.block _ HLT.out).trans T4.out) (by kernel_rfl) rfl (by simp [Value.oneCell']) ?_
  intro u5 O Y
  have HO := Lib.hid O
  have HY := Lib.hid Y
  clear O Y
  refine hK.out _ _ (by exact ⟨⟨(HO.out.cell (p := ⟨w2.heap.size, 0, none⟩) (by have := HNE0.out; simp; omega)).trans ((H4b.out.cell (by exact HL0.out)).trans y00), (HO.out.cell (p := ⟨w2.heap.size, 1, none⟩) (by have := HNE0.out; simp; omega)).trans ((H4b.out.cell (by exact HL0.out)).trans y01), (HO.out.cell (p := ⟨w2.heap.size, 2, none⟩) (by have := HNE0.out; simp; omega)).trans ((H4b.out.cell (by exact HL0.out)).trans y02)⟩, ⟨(HO.out.cell (p := ⟨w2.heap.size + 1, 0, none⟩) (by have := HNE0.out; simp; omega)).trans ((H4b.out.cell (by exact HL1.out)).trans y10), (HO.out.cell (p := ⟨w2.heap.size + 1, 1, none⟩) (by have := HNE0.out; simp; omega)).trans ((H4b.out.cell (by exact HL1.out)).trans y11), (HO.out.cell (p := ⟨w2.heap.size + 1, 2, none⟩) (by have := HNE0.out; simp; omega)).trans ((H4b.out.cell (by exact HL1.out)).trans y12)⟩, ⟨(HO.out.cell (p := ⟨w2.heap.size + 1 + 1, 0, none⟩) (by have := HNE0.out; simp; omega)).trans ((H4b.out.cell (by exact HL2.out)).trans y20), (HO.out.cell (p := ⟨w2.heap.size + 1 + 1, 1, none⟩) (by have := HNE0.out; simp; omega)).trans ((H4b.out.cell (by exact HL2.out)).trans y21), (HO.out.cell (p := ⟨w2.heap.size + 1 + 1, 2, none⟩) (by have := HNE0.out; simp; omega)).trans ((H4b.out.cell (by exact HL2.out)).trans y22)⟩, ⟨(HO.out.cell (p := ⟨w2.heap.size + 1 + 1 + 1, 0, none⟩) (by have := HNE0.out; simp; omega)).trans ((H4b.out.cell (by exact HL3.out)).trans y30), (HO.out.cell (p := ⟨w2.heap.size + 1 + 1 + 1, 1, none⟩) (by have := HNE0.out; simp; omega)).trans ((H4b.out.cell (by exact HL3.out)).trans y31), (HO.out.cell (p := ⟨w2.heap.size + 1 + 1 + 1, 2, none⟩) (by have := HNE0.out; simp; omega)).trans ((H4b.out.cell (by exact HL3.out)).trans y32)⟩⟩) (fun hHeld => ?_)
  clear hK K
  try simp only [Act.put, ly3]
  refine take_heldS (i := 17) (d := 7) rfl rfl ?_
  try simp only [Act.put, ly3]
  refine wpAnyH_done (by kernel_rfl) ?_ _
  have HB5 := Lib.hid ((HC4.out.trans (H4b.out.mono HC4.out.size)).trans (HO.out.below (by omega)))
  go_wp2_with fail
  (try simp only [Exit.inBlock, Exit.then])
  refine bodyPost_ret (results_cell1t rfl _ _ _ 31 _ _ _ _ rfl rfl HY.out Tryz.underlying31 rfl (by kernel_rfl)) rfl ?_
  exact ⟨by rw [HVV.out]; rfl, HB5.out⟩
end
end Go.Proofs.YtbpnbhemdbgmjaaGreat
