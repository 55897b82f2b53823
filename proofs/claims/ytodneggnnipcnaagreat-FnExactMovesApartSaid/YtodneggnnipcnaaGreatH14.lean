/-
  Texts that the law stands on, part 14.
-/
import Derived.Test.YtodneggnnipcnaaGreatH1
import Derived.Test.YtodneggnnipcnaaGreatH11
import Derived.Test.YtodneggnnipcnaaGreatH12
import Derived.Test.YtodneggnnipcnaaGreatH13
import Derived.Test.YtodneggnnipcnaaGreatH10
set_option maxRecDepth 100000
set_option linter.unusedVariables false
set_option linter.unusedSimpArgs false
namespace Go.Proofs.YtodneggnnipcnaaGreat
section
open Go.RowKit
theorem rows3_B (pa pb pc pd qa qb qc qd ra rb rc rd:Int):allB (rowAt [pa,pb,pc,pd,qa,qb,qc,qd,ra,rb,rc,rd]) 3=solOk pa pb pc pd qa qb qc qd ra rb rc rd:=by
 simp [allB,List.range,List.range.loop,rowAt,nth,solOk]
theorem rows3_at (w:World) (g:Nat) (hg:w.heap.size=g) (pa pb pc pd qa qb qc qd ra rb rc rd:Int) (T:TypeId):RecsAt (w.alloc (.cells #[.int .i64 pa,.int .i64 pb,.int .i64 pc,.int .i64 pd,.int .i64 qa,.int .i64 qb,.int .i64 qc,.int .i64 qd,.int .i64 ra,.int .i64 rb,.int .i64 rc,.int .i64 rd] T)) (w.alloc (.cells #[.int .i64 pa,.int .i64 pb,.int .i64 pc,.int .i64 pd,.int .i64 qa,.int .i64 qb,.int .i64 qc,.int .i64 qd,.int .i64 ra,.int .i64 rb,.int .i64 rc,.int .i64 rd] T)).heap.size 4 (some ⟨g,0,none⟩) 3 [pa,pb,pc,pd,qa,qb,qc,qd,ra,rb,rc,rd] :=
 hg ▸ RowF.recs (RowF.of_row (World.rowIs_alloc w #[.int .i64 pa,.int .i64 pb,.int .i64 pc,.int .i64 pd,.int .i64 qa,.int .i64 qb,.int .i64 qc,.int .i64 qd,.int .i64 ra,.int .i64 rb,.int .i64 rc,.int .i64 rd] T (ints [pa,pb,pc,pd,qa,qb,qc,qd,ra,rb,rc,rd]) (fun i hi=>by
  simp at hi;match i,hi with | 0,_=>rfl | 1,_=>rfl | 2,_=>rfl | 3,_=>rfl | 4,_=>rfl | 5,_=>rfl | 6,_=>rfl | 7,_=>rfl | 8,_=>rfl | 9,_=>rfl | 10,_=>rfl | 11,_=>rfl))) rfl
def Stp (p:Prop):Prop:=p
theorem wpList_storeR {P:Program} {ops:Array Oper} {rest:List Oper} {o:Oper} {a:Act} {w:World} {Q:Exit→Act→World→Prop} (hgd:o.guard=none) (ty:TypeId) (x y:Operand) (ho:o.op = .store ty x y)
  (g:Nat) (cells:Array Value) (hx:a.eval x = .pointer (some ⟨g,0,none⟩)) (hy:a.eval y = .agg cells)
  (t:TypeId) (old:Array Value) (hg:w.heap[g]?=some (.cells old t (0,0))) (hi:(P.info? ty).map (·.size)=some cells.size)
  (hold:old.size=cells.size) (h1:cells.all (·.oneCell')=true)
  (h:∀ w',Only g w w'→w'.heap[g]?=some (.cells cells t (0,0))→Stp (wpList P ops Q rest (a.put o.dst undef) w')):wpList P ops Q (o :: rest) a w :=
 wpList_plain hgd fun _ hK=>wp_store_row ty x y ho g cells hx hy t old hg hi hold h1 (hK _ _ (h _ ⟨rfl,rfl,rfl,by simp,fun k hk=>setRow_other w g k cells hk⟩ (setRow_heap w g old cells t (0,0) hg)))
set_option maxRecDepth 100000 in
set_option maxHeartbeats 3200000 in
theorem iDetRows_any (pa pb pc pd qa qb qc qd ra rb rc rd:Int) (w:World) :
  Calls Tryz.prog 170 #[.agg #[.int .i64 pa,.int .i64 pb,.int .i64 pc,.int .i64 pd],.agg #[.int .i64 qa,.int .i64 qb,.int .i64 qc,.int .i64 qd],.agg #[.int .i64 ra,.int .i64 rb,.int .i64 rc,.int .i64 rd]] w fun e w'=>e = .returned (.int .i64 (solD pa pb pc pd qa qb qc qd ra rb rc rd))∧Below w.heap.size w w':=by
 have HR0:=Lib.hid (R3.start w pa pb pc pd qa qb qc qd ra rb rc rd 168);have HS:=Lib.hid (rows3_at (((w.alloc (.cells #[.int .i64 pa,.int .i64 pb,.int .i64 pc,.int .i64 pd] 168)).alloc (.cells #[.int .i64 qa,.int .i64 qb,.int .i64 qc,.int .i64 qd] 168)).alloc (.cells #[.int .i64 ra,.int .i64 rb,.int .i64 rc,.int .i64 rd] 168)) (w.heap.size+1+1+1) (by simp) pa pb pc pd qa qb qc qd ra rb rc rd 168);have HR:=Lib.hid (HR0.out.after ((Below.refl _ _).alloc (Nat.le_refl _) (.cells #[.int .i64 pa,.int .i64 pb,.int .i64 pc,.int .i64 pd,.int .i64 qa,.int .i64 qb,.int .i64 qc,.int .i64 qd,.int .i64 ra,.int .i64 rb,.int .i64 rc,.int .i64 rd] 168)));clear HR0;have HOK:=Lib.hid (rows3_B pa pb pc pd qa qb qc qd ra rb rc rd);go_enter Tryz.func170,Tryz.ntmps170;go_wp2_with fail
 refine (rowsOk_any _ _ _ _ _ HS.out (by omega)).mono ?_;rw [HOK.out];rintro e w1 ⟨rfl,hb1⟩;have HR1:=Lib.hid (HR.out.after hb1);clear hb1 HR HS HOK;cases hok:solOk pa pb pc pd qa qb qc qd ra rb rc rd
 ·have HF:=Lib.hid (solD_f hok)
  clear hok;go_wp2;go_ret;exact ⟨ret_int HF.out.symm,HR1.out.below⟩
 ·have HF:=Lib.hid (solD_t hok)
  simp only [solOk,Bool.and_eq_true] at hok;have HD:=Lib.hid (rows_detT hok.1 hok.2.1 hok.2.2).1;have HT:=Lib.hid (det9_T pa qa ra pb qb rb pc qc rc);clear hok;obtain ⟨p0,p1,p2,p3⟩:=HR1.out.p.1;obtain ⟨q0,q1,q2,q3⟩:=HR1.out.q.1;obtain ⟨r0,r1,r2,r3⟩:=HR1.out.r.1;go_wp2_with fail
  refine (iCols_any _ _ _ _ _ _ _ _ _ _ _ _ _).mono ?_;rintro e w2 ⟨rfl,hb2⟩;have HB2:=Lib.hid (HR1.out.below.trans (hb2.mono HR1.out.below.size));clear hb2 HR1 p0 p1 p2 p3 q0 q1 q2 q3 r0 r1 r2 r3;have Z0:=Lib.hid ((heap_alloc_old (((w2.alloc (.cells #[.int .i64 0,.int .i64 0,.int .i64 0] 203)).alloc (.cells #[.int .i64 0,.int .i64 0,.int .i64 0] 203)).alloc (.cells #[.int .i64 0,.int .i64 0,.int .i64 0] 203)) (.cells #[.int .i64 0,.int .i64 0,.int .i64 0] 203) (by first | (simp; done) | (simp; omega))).trans ((heap_alloc_old ((w2.alloc (.cells #[.int .i64 0,.int .i64 0,.int .i64 0] 203)).alloc (.cells #[.int .i64 0,.int .i64 0,.int .i64 0] 203)) (.cells #[.int .i64 0,.int .i64 0,.int .i64 0] 203) (by first | (simp; done) | (simp; omega))).trans ((heap_alloc_old (w2.alloc (.cells #[.int .i64 0,.int .i64 0,.int .i64 0] 203)) (.cells #[.int .i64 0,.int .i64 0,.int .i64 0] 203) (by first | (simp; done) | (simp; omega))).trans (heap_alloc_new w2 (.cells #[.int .i64 0,.int .i64 0,.int .i64 0] 203)))))
  have Z1:=Lib.hid ((heap_alloc_old (((w2.alloc (.cells #[.int .i64 0,.int .i64 0,.int .i64 0] 203)).alloc (.cells #[.int .i64 0,.int .i64 0,.int .i64 0] 203)).alloc (.cells #[.int .i64 0,.int .i64 0,.int .i64 0] 203)) (.cells #[.int .i64 0,.int .i64 0,.int .i64 0] 203) (by first | (simp; done) | (simp; omega))).trans ((heap_alloc_old ((w2.alloc (.cells #[.int .i64 0,.int .i64 0,.int .i64 0] 203)).alloc (.cells #[.int .i64 0,.int .i64 0,.int .i64 0] 203)) (.cells #[.int .i64 0,.int .i64 0,.int .i64 0] 203) (by first | (simp; done) | (simp; omega))).trans (heap_alloc_new (w2.alloc (.cells #[.int .i64 0,.int .i64 0,.int .i64 0] 203)) (.cells #[.int .i64 0,.int .i64 0,.int .i64 0] 203))))
  have Z2:=Lib.hid ((heap_alloc_old (((w2.alloc (.cells #[.int .i64 0,.int .i64 0,.int .i64 0] 203)).alloc (.cells #[.int .i64 0,.int .i64 0,.int .i64 0] 203)).alloc (.cells #[.int .i64 0,.int .i64 0,.int .i64 0] 203)) (.cells #[.int .i64 0,.int .i64 0,.int .i64 0] 203) (by first | (simp; done) | (simp; omega))).trans (heap_alloc_new ((w2.alloc (.cells #[.int .i64 0,.int .i64 0,.int .i64 0] 203)).alloc (.cells #[.int .i64 0,.int .i64 0,.int .i64 0] 203)) (.cells #[.int .i64 0,.int .i64 0,.int .i64 0] 203)))
  have Z3:=Lib.hid (heap_alloc_new (((w2.alloc (.cells #[.int .i64 0,.int .i64 0,.int .i64 0] 203)).alloc (.cells #[.int .i64 0,.int .i64 0,.int .i64 0] 203)).alloc (.cells #[.int .i64 0,.int .i64 0,.int .i64 0] 203)) (.cells #[.int .i64 0,.int .i64 0,.int .i64 0] 203));simp only [World.size_alloc] at Z0 Z1 Z2 Z3;have HS0:=Lib.hid HB2.out.size;have HC0:=Lib.hid ((((((((HB2.out).alloc (by have:=HS0.out; first | exact this | (simp; omega)) (.cells #[.int .i64 0,.int .i64 0,.int .i64 0] 203))).alloc (by have:=HS0.out; first | exact this | (simp; omega)) (.cells #[.int .i64 0,.int .i64 0,.int .i64 0] 203))).alloc (by have:=HS0.out; first | exact this | (simp; omega)) (.cells #[.int .i64 0,.int .i64 0,.int .i64 0] 203))).alloc (by have:=HS0.out; first | exact this | (simp; omega)) (.cells #[.int .i64 0,.int .i64 0,.int .i64 0] 203))
  go_wp2_with (refine wpList_storeR rfl 203 (.tmp 7) (.tmp 22) rfl (w2.heap.size) #[.int .i64 pa,.int .i64 qa,.int .i64 ra] rfl rfl 203 #[.int .i64 0,.int .i64 0,.int .i64 0] (by exact Z0.out) (by kernel_rfl) rfl (by simp [Value.oneCell']) ?_; intro v1 O0 Y; have Y0:=Lib.hid Y; clear Y);unfold Stp;have N1:=Lib.hid ((O0.block (w2.heap.size+1) (by omega)).trans Z1.out);have N2:=Lib.hid ((O0.block (w2.heap.size+1+1) (by omega)).trans Z2.out);have N3:=Lib.hid ((O0.block (w2.heap.size+1+1+1) (by omega)).trans Z3.out);have HC1:=Lib.hid (HC0.out.trans (O0.below (B:=w.heap.size) (by have:=HS0.out; omega)))
  clear O0 HC0 Z0 Z1 Z2 Z3;have Z1:=N1;have Z2:=N2;have Z3:=N3;clear N1 N2 N3;go_wp2_with (refine wpList_storeR rfl 203 (.tmp 8) (.tmp 23) rfl (w2.heap.size+1) #[.int .i64 pb,.int .i64 qb,.int .i64 rb] rfl rfl 203 #[.int .i64 0,.int .i64 0,.int .i64 0] (by exact Z1.out) (by kernel_rfl) rfl (by simp [Value.oneCell']) ?_; intro v2 O1 Y; have Y1:=Lib.hid Y; clear Y);unfold Stp;have N0:=Lib.hid ((O1.block (w2.heap.size) (by omega)).trans Y0.out);have N2:=Lib.hid ((O1.block (w2.heap.size+1+1) (by omega)).trans Z2.out);have N3:=Lib.hid ((O1.block (w2.heap.size+1+1+1) (by omega)).trans Z3.out);have HC2:=Lib.hid (HC1.out.trans (O1.below (B:=w.heap.size) (by have:=HS0.out; omega)))
  clear O1 HC1 Z1 Y0 Z2 Z3;have Y0:=N0;have Z2:=N2;have Z3:=N3;clear N0 N2 N3;go_wp2_with (refine wpList_storeR rfl 203 (.tmp 9) (.tmp 24) rfl (w2.heap.size+1+1) #[.int .i64 pc,.int .i64 qc,.int .i64 rc] rfl rfl 203 #[.int .i64 0,.int .i64 0,.int .i64 0] (by exact Z2.out) (by kernel_rfl) rfl (by simp [Value.oneCell']) ?_; intro v3 O2 Y; have Y2:=Lib.hid Y; clear Y);unfold Stp;have N0:=Lib.hid ((O2.block (w2.heap.size) (by omega)).trans Y0.out);have N1:=Lib.hid ((O2.block (w2.heap.size+1) (by omega)).trans Y1.out);have N3:=Lib.hid ((O2.block (w2.heap.size+1+1+1) (by omega)).trans Z3.out);have HC3:=Lib.hid (HC2.out.trans (O2.below (B:=w.heap.size) (by have:=HS0.out; omega)))
  clear O2 HC2 Z2 Y0 Y1 Z3;have Y0:=N0;have Y1:=N1;have Z3:=N3;clear N0 N1 N3;go_wp2_with (refine wpList_storeR rfl 203 (.tmp 10) (.tmp 25) rfl (w2.heap.size+1+1+1) #[.int .i64 pd,.int .i64 qd,.int .i64 rd] rfl rfl 203 #[.int .i64 0,.int .i64 0,.int .i64 0] (by exact Z3.out) (by kernel_rfl) rfl (by simp [Value.oneCell']) ?_; intro v4 O3 Y; have Y3:=Lib.hid Y; clear Y);unfold Stp;have N0:=Lib.hid ((O3.block (w2.heap.size) (by omega)).trans Y0.out);have N1:=Lib.hid ((O3.block (w2.heap.size+1) (by omega)).trans Y1.out);have N2:=Lib.hid ((O3.block (w2.heap.size+1+1) (by omega)).trans Y2.out);have HC4:=Lib.hid (HC3.out.trans (O3.below (B:=w.heap.size) (by have:=HS0.out; omega)))
  clear O3 HC3 Z3 Y0 Y1 Y2;have Y0:=N0;have Y1:=N1;have Y2:=N2;clear N0 N1 N2;have y00:=cell_of_row _ (w2.heap.size) 0 _ _ _ Y0.out;simp only [List.getElem?_toArray,List.getElem?_cons_zero,List.getElem?_cons_succ] at y00;have y01:=cell_of_row _ (w2.heap.size) 1 _ _ _ Y0.out;simp only [List.getElem?_toArray,List.getElem?_cons_zero,List.getElem?_cons_succ] at y01;have y02:=cell_of_row _ (w2.heap.size) 2 _ _ _ Y0.out;simp only [List.getElem?_toArray,List.getElem?_cons_zero,List.getElem?_cons_succ] at y02;have y10:=cell_of_row _ (w2.heap.size+1) 0 _ _ _ Y1.out;simp only [List.getElem?_toArray,List.getElem?_cons_zero,List.getElem?_cons_succ] at y10;have y11:=cell_of_row _ (w2.heap.size+1) 1 _ _ _ Y1.out;simp only [List.getElem?_toArray,List.getElem?_cons_zero,List.getElem?_cons_succ] at y11;have y12:=cell_of_row _ (w2.heap.size+1) 2 _ _ _ Y1.out;simp only [List.getElem?_toArray,List.getElem?_cons_zero,List.getElem?_cons_succ] at y12;have y20:=cell_of_row _ (w2.heap.size+1+1) 0 _ _ _ Y2.out;simp only [List.getElem?_toArray,List.getElem?_cons_zero,List.getElem?_cons_succ] at y20;have y21:=cell_of_row _ (w2.heap.size+1+1) 1 _ _ _ Y2.out;simp only [List.getElem?_toArray,List.getElem?_cons_zero,List.getElem?_cons_succ] at y21;have y22:=cell_of_row _ (w2.heap.size+1+1) 2 _ _ _ Y2.out;simp only [List.getElem?_toArray,List.getElem?_cons_zero,List.getElem?_cons_succ] at y22;have y30:=cell_of_row _ (w2.heap.size+1+1+1) 0 _ _ _ Y3.out;simp only [List.getElem?_toArray,List.getElem?_cons_zero,List.getElem?_cons_succ] at y30;have y31:=cell_of_row _ (w2.heap.size+1+1+1) 1 _ _ _ Y3.out;simp only [List.getElem?_toArray,List.getElem?_cons_zero,List.getElem?_cons_succ] at y31;have y32:=cell_of_row _ (w2.heap.size+1+1+1) 2 _ _ _ Y3.out;simp only [List.getElem?_toArray,List.getElem?_cons_zero,List.getElem?_cons_succ] at y32;go_wp2_with fail
  refine (iDet_any _ _ _ _ _ _ _ _ _ _ HD.out).mono ?_;rintro e v5 ⟨rfl,hb5⟩;have HB5:=Lib.hid (HC4.out.trans (hb5.mono HC4.out.size));clear hb5;go_wp2;go_ret;exact ⟨ret_int (HT.out.trans HF.out.symm),HB5.out⟩
theorem results_cell1t {P:Program} {fn:Func} {p u:Tmp} {ty:TypeId} (h:fn.results = #[.cell p ty,.tmp u]) (tmps:Array Value) (w:World) (g:Nat) (t:TypeId) (cs:Array Value) (fr:Nat × Nat) (d:TypeDesc) (x:Value)
  (hp:tmps.getD p undef = .pointer (some ⟨g,0,none⟩)) (hx:tmps.getD u undef=x) (hg:w.heap[g]?=some (.cells cs t fr))
  (hu:P.underlying ty=some d) (hd:(match d with | .struct _ | .array _ _=>true | _=>false)=true) (hi:(P.info? ty).map (·.size)=some cs.size) :
  (results fn tmps).run P w = .ok (.tuple #[.agg cs,x]) w:=by
 have hp':tmps[p]?.getD undef = .pointer (some ⟨g,0,none⟩):=by simpa using hp
 have hx':tmps[u]?.getD undef=x:=by simpa using hx
 simp [results,h,hp',hx',asAddr,run_loadVar_row w g t ty cs fr d hg hu hd hi]
set_option maxRecDepth 100000 in
set_option maxHeartbeats 3200000 in
theorem iSolve_any (pa pb pc pd qa qb qc qd ra rb rc rd:Int) (w:World) :
  Calls Tryz.prog 149 #[.agg #[.int .i64 pa,.int .i64 pb,.int .i64 pc,.int .i64 pd],.agg #[.int .i64 qa,.int .i64 qb,.int .i64 qc,.int .i64 qd],.agg #[.int .i64 ra,.int .i64 rb,.int .i64 rc,.int .i64 rd]] w fun e w'=>e = .returned (solV pa pb pc pd qa qb qc qd ra rb rc rd)∧Below w.heap.size w w':=by
 have HR0:=Lib.hid (R3.start w pa pb pc pd qa qb qc qd ra rb rc rd 168);have HT:=Lib.hid (heap_alloc_new (((w.alloc (.cells #[.int .i64 pa,.int .i64 pb,.int .i64 pc,.int .i64 pd] 168)).alloc (.cells #[.int .i64 qa,.int .i64 qb,.int .i64 qc,.int .i64 qd] 168)).alloc (.cells #[.int .i64 ra,.int .i64 rb,.int .i64 rc,.int .i64 rd] 168)) (.cells #[.int .i64 0,.int .i64 0,.int .i64 0,.int .i64 0] 40));simp only [World.size_alloc] at HT;have HR:=Lib.hid (HR0.out.after ((Below.refl _ _).alloc (Nat.le_refl _) (.cells #[.int .i64 0,.int .i64 0,.int .i64 0,.int .i64 0] 40)));have HL:=Lib.hid (show w.heap.size+1+1+1<((((w.alloc (.cells #[.int .i64 pa,.int .i64 pb,.int .i64 pc,.int .i64 pd] 168)).alloc (.cells #[.int .i64 qa,.int .i64 qb,.int .i64 qc,.int .i64 qd] 168)).alloc (.cells #[.int .i64 ra,.int .i64 rb,.int .i64 rc,.int .i64 rd] 168)).alloc (.cells #[.int .i64 0,.int .i64 0,.int .i64 0,.int .i64 0] 40)).heap.size by simp);clear HR0;go_enter Tryz.func149,Tryz.ntmps149;go_wp2_with fail
 refine (iDetRows_any _ _ _ _ _ _ _ _ _ _ _ _ _).mono ?_;rintro e w1 ⟨rfl,hb1⟩;have HR1:=Lib.hid (HR.out.after hb1);have HT1:=Lib.hid ((hb1.block _ HL.out).trans HT.out);have HL1:=Lib.hid (Nat.lt_of_lt_of_le HL.out hb1.size);clear HR HT hb1 HL;by_cases h0:solD pa pb pc pd qa qb qc qd ra rb rc rd=0
 ·have HF:=Lib.hid (solV_0 h0)
  rw [h0];have HB1:=Lib.hid HR1.out.below;clear HR1;go_wp2_with (refine wpList_storeR rfl 40 (.tmp 6) (.tmp 19) rfl (w.heap.size+1+1+1) #[.int .i64 0,.int .i64 0,.int .i64 0,.int .i64 0] rfl rfl 40 #[.int .i64 0,.int .i64 0,.int .i64 0,.int .i64 0] (by exact HT1.out) (by kernel_rfl) rfl (by simp [Value.oneCell']) ?_; intro w2 O Y; have HO:=Lib.hid O; have HY:=Lib.hid Y; clear O Y);unfold Stp;go_wp2
  (try simp only [Exit.inBlock,Exit.then])
  refine bodyPost_ret (results_cell1t rfl _ _ _ 40 _ _ _ _ rfl rfl HY.out Tryz.underlying40 rfl (by kernel_rfl)) rfl ?_;exact ⟨by rw [HF.out]; rfl,HB1.out.trans (HO.out.below (by omega))⟩
 ·obtain ⟨g1,g2,g3⟩:=solD_ne h0
  have HD:=Lib.hid (rows_detT g1 g2 g3).2;have HE1:=Lib.hid (det9_T pd qd rd pb qb rb pc qc rc);have HE2:=Lib.hid (det9_T pa qa ra pd qd rd pc qc rc);have HE3:=Lib.hid (det9_T pa qa ra pb qb rb pd qd rd);obtain ⟨m0,m1,m2,m3,mb,hmk⟩:∃ m0 m1 m2 m3 mb,mkV (det9 pd pb pc qd qb qc rd rb rc) (det9 pa pd pc qa qd qc ra rd rc) (det9 pa pb pd qa qb qd ra rb rd) (solD pa pb pc pd qa qb qc qd ra rb rc rd)=thrV m0 m1 m2 m3 mb:=⟨_,_,_,_,_,rfl⟩;have HVV:Hid (solV pa pb pc pd qa qb qc qd ra rb rc rd=thrV m0 m1 m2 m3 mb):=Lib.hid hmk;have HMK:=Lib.hid hmk;clear hmk;obtain ⟨D,hD⟩:∃ D,solD pa pb pc pd qa qb qc qd ra rb rc rd=D:=⟨_,rfl⟩;rw [hD] at h0 HMK ⊢;have hd0:(D == 0)=false:=by simp [h0]
  clear g1 g2 g3 hD;obtain ⟨p0,p1,p2,p3⟩:=HR1.out.p.1;obtain ⟨q0,q1,q2,q3⟩:=HR1.out.q.1;obtain ⟨r0,r1,r2,r3⟩:=HR1.out.r.1;go_wp2_with fail
  refine (iCols_any _ _ _ _ _ _ _ _ _ _ _ _ _).mono ?_;rintro e w2 ⟨rfl,hb2⟩;have HB2:=Lib.hid (HR1.out.below.trans (hb2.mono HR1.out.below.size));have HT2:=Lib.hid ((hb2.block _ HL1.out).trans HT1.out);have HL2:=Lib.hid (Nat.lt_of_lt_of_le HL1.out hb2.size);have hlt3:=HL2.out;clear hb2 HR1 p0 p1 p2 p3 q0 q1 q2 q3 r0 r1 r2 r3 HT1 HL1;have Z0:=Lib.hid ((heap_alloc_old (((w2.alloc (.cells #[.int .i64 0,.int .i64 0,.int .i64 0] 203)).alloc (.cells #[.int .i64 0,.int .i64 0,.int .i64 0] 203)).alloc (.cells #[.int .i64 0,.int .i64 0,.int .i64 0] 203)) (.cells #[.int .i64 0,.int .i64 0,.int .i64 0] 203) (by first | (simp; done) | (simp; omega))).trans ((heap_alloc_old ((w2.alloc (.cells #[.int .i64 0,.int .i64 0,.int .i64 0] 203)).alloc (.cells #[.int .i64 0,.int .i64 0,.int .i64 0] 203)) (.cells #[.int .i64 0,.int .i64 0,.int .i64 0] 203) (by first | (simp; done) | (simp; omega))).trans ((heap_alloc_old (w2.alloc (.cells #[.int .i64 0,.int .i64 0,.int .i64 0] 203)) (.cells #[.int .i64 0,.int .i64 0,.int .i64 0] 203) (by first | (simp; done) | (simp; omega))).trans (heap_alloc_new w2 (.cells #[.int .i64 0,.int .i64 0,.int .i64 0] 203)))))
  have Z1:=Lib.hid ((heap_alloc_old (((w2.alloc (.cells #[.int .i64 0,.int .i64 0,.int .i64 0] 203)).alloc (.cells #[.int .i64 0,.int .i64 0,.int .i64 0] 203)).alloc (.cells #[.int .i64 0,.int .i64 0,.int .i64 0] 203)) (.cells #[.int .i64 0,.int .i64 0,.int .i64 0] 203) (by first | (simp; done) | (simp; omega))).trans ((heap_alloc_old ((w2.alloc (.cells #[.int .i64 0,.int .i64 0,.int .i64 0] 203)).alloc (.cells #[.int .i64 0,.int .i64 0,.int .i64 0] 203)) (.cells #[.int .i64 0,.int .i64 0,.int .i64 0] 203) (by first | (simp; done) | (simp; omega))).trans (heap_alloc_new (w2.alloc (.cells #[.int .i64 0,.int .i64 0,.int .i64 0] 203)) (.cells #[.int .i64 0,.int .i64 0,.int .i64 0] 203))))
  have Z2:=Lib.hid ((heap_alloc_old (((w2.alloc (.cells #[.int .i64 0,.int .i64 0,.int .i64 0] 203)).alloc (.cells #[.int .i64 0,.int .i64 0,.int .i64 0] 203)).alloc (.cells #[.int .i64 0,.int .i64 0,.int .i64 0] 203)) (.cells #[.int .i64 0,.int .i64 0,.int .i64 0] 203) (by first | (simp; done) | (simp; omega))).trans (heap_alloc_new ((w2.alloc (.cells #[.int .i64 0,.int .i64 0,.int .i64 0] 203)).alloc (.cells #[.int .i64 0,.int .i64 0,.int .i64 0] 203)) (.cells #[.int .i64 0,.int .i64 0,.int .i64 0] 203)))
  have Z3:=Lib.hid (heap_alloc_new (((w2.alloc (.cells #[.int .i64 0,.int .i64 0,.int .i64 0] 203)).alloc (.cells #[.int .i64 0,.int .i64 0,.int .i64 0] 203)).alloc (.cells #[.int .i64 0,.int .i64 0,.int .i64 0] 203)) (.cells #[.int .i64 0,.int .i64 0,.int .i64 0] 203));simp only [World.size_alloc] at Z0 Z1 Z2 Z3;have HS0:=Lib.hid HB2.out.size;have HC0:=Lib.hid ((((((((HB2.out).alloc (by have:=HS0.out; first | exact this | (simp; omega)) (.cells #[.int .i64 0,.int .i64 0,.int .i64 0] 203))).alloc (by have:=HS0.out; first | exact this | (simp; omega)) (.cells #[.int .i64 0,.int .i64 0,.int .i64 0] 203))).alloc (by have:=HS0.out; first | exact this | (simp; omega)) (.cells #[.int .i64 0,.int .i64 0,.int .i64 0] 203))).alloc (by have:=HS0.out; first | exact this | (simp; omega)) (.cells #[.int .i64 0,.int .i64 0,.int .i64 0] 203))
  have T0:=Lib.hid ((heap_alloc_old (((w2.alloc (.cells #[.int .i64 0,.int .i64 0,.int .i64 0] 203)).alloc (.cells #[.int .i64 0,.int .i64 0,.int .i64 0] 203)).alloc (.cells #[.int .i64 0,.int .i64 0,.int .i64 0] 203)) (.cells #[.int .i64 0,.int .i64 0,.int .i64 0] 203) (by have:=HS0.out; simp; omega)).trans ((heap_alloc_old ((w2.alloc (.cells #[.int .i64 0,.int .i64 0,.int .i64 0] 203)).alloc (.cells #[.int .i64 0,.int .i64 0,.int .i64 0] 203)) (.cells #[.int .i64 0,.int .i64 0,.int .i64 0] 203) (by have:=HS0.out; simp; omega)).trans ((heap_alloc_old (w2.alloc (.cells #[.int .i64 0,.int .i64 0,.int .i64 0] 203)) (.cells #[.int .i64 0,.int .i64 0,.int .i64 0] 203) (by have:=HS0.out; simp; omega)).trans ((heap_alloc_old w2 (.cells #[.int .i64 0,.int .i64 0,.int .i64 0] 203) (by have:=HS0.out; simp; omega)).trans HT2.out))))
  go_wp2_with (refine wpList_storeR rfl 203 (.tmp 9) (.tmp 25) rfl (w2.heap.size) #[.int .i64 pa,.int .i64 qa,.int .i64 ra] rfl rfl 203 #[.int .i64 0,.int .i64 0,.int .i64 0] (by exact Z0.out) (by kernel_rfl) rfl (by simp [Value.oneCell']) ?_; intro v1 O0 Y; have Y0:=Lib.hid Y; clear Y);unfold Stp;have N1:=Lib.hid ((O0.block (w2.heap.size+1) (by omega)).trans Z1.out);have N2:=Lib.hid ((O0.block (w2.heap.size+1+1) (by omega)).trans Z2.out);have N3:=Lib.hid ((O0.block (w2.heap.size+1+1+1) (by omega)).trans Z3.out);have HC1:=Lib.hid (HC0.out.trans (O0.below (B:=w.heap.size) (by have:=HS0.out; omega)))
  have T1:=Lib.hid ((O0.block (w.heap.size+1+1+1) (by have:=HS0.out; omega)).trans T0.out)
  clear T0;clear O0 HC0 Z0 Z1 Z2 Z3;have Z1:=N1;have Z2:=N2;have Z3:=N3;clear N1 N2 N3;go_wp2_with (refine wpList_storeR rfl 203 (.tmp 10) (.tmp 26) rfl (w2.heap.size+1) #[.int .i64 pb,.int .i64 qb,.int .i64 rb] rfl rfl 203 #[.int .i64 0,.int .i64 0,.int .i64 0] (by exact Z1.out) (by kernel_rfl) rfl (by simp [Value.oneCell']) ?_; intro v2 O1 Y; have Y1:=Lib.hid Y; clear Y);unfold Stp;have N0:=Lib.hid ((O1.block (w2.heap.size) (by omega)).trans Y0.out);have N2:=Lib.hid ((O1.block (w2.heap.size+1+1) (by omega)).trans Z2.out);have N3:=Lib.hid ((O1.block (w2.heap.size+1+1+1) (by omega)).trans Z3.out);have HC2:=Lib.hid (HC1.out.trans (O1.below (B:=w.heap.size) (by have:=HS0.out; omega)))
  have T2:=Lib.hid ((O1.block (w.heap.size+1+1+1) (by have:=HS0.out; omega)).trans T1.out)
  clear T1;clear O1 HC1 Z1 Y0 Z2 Z3;have Y0:=N0;have Z2:=N2;have Z3:=N3;clear N0 N2 N3;go_wp2_with (refine wpList_storeR rfl 203 (.tmp 11) (.tmp 27) rfl (w2.heap.size+1+1) #[.int .i64 pc,.int .i64 qc,.int .i64 rc] rfl rfl 203 #[.int .i64 0,.int .i64 0,.int .i64 0] (by exact Z2.out) (by kernel_rfl) rfl (by simp [Value.oneCell']) ?_; intro v3 O2 Y; have Y2:=Lib.hid Y; clear Y);unfold Stp;have N0:=Lib.hid ((O2.block (w2.heap.size) (by omega)).trans Y0.out);have N1:=Lib.hid ((O2.block (w2.heap.size+1) (by omega)).trans Y1.out);have N3:=Lib.hid ((O2.block (w2.heap.size+1+1+1) (by omega)).trans Z3.out);have HC3:=Lib.hid (HC2.out.trans (O2.below (B:=w.heap.size) (by have:=HS0.out; omega)))
  have T3:=Lib.hid ((O2.block (w.heap.size+1+1+1) (by have:=HS0.out; omega)).trans T2.out)
  clear T2;clear O2 HC2 Z2 Y0 Y1 Z3;have Y0:=N0;have Y1:=N1;have Z3:=N3;clear N0 N1 N3;go_wp2_with (refine wpList_storeR rfl 203 (.tmp 12) (.tmp 28) rfl (w2.heap.size+1+1+1) #[.int .i64 pd,.int .i64 qd,.int .i64 rd] rfl rfl 203 #[.int .i64 0,.int .i64 0,.int .i64 0] (by exact Z3.out) (by kernel_rfl) rfl (by simp [Value.oneCell']) ?_; intro v4 O3 Y; have Y3:=Lib.hid Y; clear Y);unfold Stp;have N0:=Lib.hid ((O3.block (w2.heap.size) (by omega)).trans Y0.out);have N1:=Lib.hid ((O3.block (w2.heap.size+1) (by omega)).trans Y1.out);have N2:=Lib.hid ((O3.block (w2.heap.size+1+1) (by omega)).trans Y2.out);have HC4:=Lib.hid (HC3.out.trans (O3.below (B:=w.heap.size) (by have:=HS0.out; omega)))
  have T4:=Lib.hid ((O3.block (w.heap.size+1+1+1) (by have:=HS0.out; omega)).trans T3.out)
  clear T3;clear O3 HC3 Z3 Y0 Y1 Y2;have Y0:=N0;have Y1:=N1;have Y2:=N2;clear N0 N1 N2;have y00:=cell_of_row _ (w2.heap.size) 0 _ _ _ Y0.out;simp only [List.getElem?_toArray,List.getElem?_cons_zero,List.getElem?_cons_succ] at y00;have y01:=cell_of_row _ (w2.heap.size) 1 _ _ _ Y0.out;simp only [List.getElem?_toArray,List.getElem?_cons_zero,List.getElem?_cons_succ] at y01;have y02:=cell_of_row _ (w2.heap.size) 2 _ _ _ Y0.out;simp only [List.getElem?_toArray,List.getElem?_cons_zero,List.getElem?_cons_succ] at y02;have y10:=cell_of_row _ (w2.heap.size+1) 0 _ _ _ Y1.out;simp only [List.getElem?_toArray,List.getElem?_cons_zero,List.getElem?_cons_succ] at y10;have y11:=cell_of_row _ (w2.heap.size+1) 1 _ _ _ Y1.out;simp only [List.getElem?_toArray,List.getElem?_cons_zero,List.getElem?_cons_succ] at y11;have y12:=cell_of_row _ (w2.heap.size+1) 2 _ _ _ Y1.out;simp only [List.getElem?_toArray,List.getElem?_cons_zero,List.getElem?_cons_succ] at y12;have y20:=cell_of_row _ (w2.heap.size+1+1) 0 _ _ _ Y2.out;simp only [List.getElem?_toArray,List.getElem?_cons_zero,List.getElem?_cons_succ] at y20;have y21:=cell_of_row _ (w2.heap.size+1+1) 1 _ _ _ Y2.out;simp only [List.getElem?_toArray,List.getElem?_cons_zero,List.getElem?_cons_succ] at y21;have y22:=cell_of_row _ (w2.heap.size+1+1) 2 _ _ _ Y2.out;simp only [List.getElem?_toArray,List.getElem?_cons_zero,List.getElem?_cons_succ] at y22;have y30:=cell_of_row _ (w2.heap.size+1+1+1) 0 _ _ _ Y3.out;simp only [List.getElem?_toArray,List.getElem?_cons_zero,List.getElem?_cons_succ] at y30;have y31:=cell_of_row _ (w2.heap.size+1+1+1) 1 _ _ _ Y3.out;simp only [List.getElem?_toArray,List.getElem?_cons_zero,List.getElem?_cons_succ] at y31;have y32:=cell_of_row _ (w2.heap.size+1+1+1) 2 _ _ _ Y3.out;simp only [List.getElem?_toArray,List.getElem?_cons_zero,List.getElem?_cons_succ] at y32;have HL0:=Lib.hid (Array.getElem?_eq_some_iff.1 Y0.out).1;have HL1:=Lib.hid (Array.getElem?_eq_some_iff.1 Y1.out).1;have HL2':=Lib.hid (Array.getElem?_eq_some_iff.1 Y2.out).1;have HL3:=Lib.hid (Array.getElem?_eq_some_iff.1 Y3.out).1;have HLT:=Lib.hid (Array.getElem?_eq_some_iff.1 T4.out).1;clear HL2;have HL2:=HL2';have HNE0:=Lib.hid hlt3;clear HL2' Y0 Y1 Y2 Y3 hlt3 HT2 HB2;go_wp2_with fail
  refine wp_region_held_drew (S:=fun w'=>(w'.cell? ⟨w2.heap.size,0,none⟩=some (.int .i64 pa)∧w'.cell? ⟨w2.heap.size,1,none⟩=some (.int .i64 qa)∧w'.cell? ⟨w2.heap.size,2,none⟩=some (.int .i64 ra))∧(w'.cell? ⟨w2.heap.size+1,0,none⟩=some (.int .i64 pb)∧w'.cell? ⟨w2.heap.size+1,1,none⟩=some (.int .i64 qb)∧w'.cell? ⟨w2.heap.size+1,2,none⟩=some (.int .i64 rb))∧(w'.cell? ⟨w2.heap.size+1+1,0,none⟩=some (.int .i64 pc)∧w'.cell? ⟨w2.heap.size+1+1,1,none⟩=some (.int .i64 qc)∧w'.cell? ⟨w2.heap.size+1+1,2,none⟩=some (.int .i64 rc))∧(w'.cell? ⟨w2.heap.size+1+1+1,0,none⟩=some (.int .i64 pd)∧w'.cell? ⟨w2.heap.size+1+1+1,1,none⟩=some (.int .i64 qd)∧w'.cell? ⟨w2.heap.size+1+1+1,2,none⟩=some (.int .i64 rd))) (by kernel_rfl) (by exact ⟨⟨y00,y01,y02⟩,⟨y10,y11,y12⟩,⟨y20,y21,y22⟩,⟨y30,y31,y32⟩⟩) (fun hHeld => ?_);refine take_heldS (i:=0) (d:=29) rfl rfl ?_;try simp only [Act.put,ly3]
  refine take_heldS (i:=1) (d:=30) rfl rfl ?_;try simp only [Act.put,ly3]
  refine take_heldS (i:=2) (d:=31) rfl rfl ?_;try simp only [Act.put,ly3]
  refine take_heldS (i:=4) (d:=33) rfl rfl ?_;try simp only [Act.put,ly3]
  refine take_heldS (i:=5) (d:=34) rfl rfl ?_;try simp only [Act.put,ly3]
  refine take_heldS (i:=6) (d:=35) rfl rfl ?_;try simp only [Act.put,ly3]
  refine take_heldS (i:=8) (d:=37) rfl rfl ?_;try simp only [Act.put,ly3]
  refine take_heldS (i:=9) (d:=38) rfl rfl ?_;try simp only [Act.put,ly3]
  refine take_heldS (i:=10) (d:=39) rfl rfl ?_;try simp only [Act.put,ly3]
  refine take_heldS (i:=12) (d:=41) rfl rfl ?_;try simp only [Act.put,ly3]
  refine wpAnyH_ready (rs := [3]) (by kernel_rfl) (by simp) ?_;refine AllReadyH.cons rfl (fun K hK => ?_) AllReadyH.nil;go_simp
  (with_reducible refine (iDet_any _ _ _ _ _ _ _ _ _ _ HD.out.1).mono ?_); rintro e u1 ⟨rfl,hb1⟩; rw [HE1.out]; have H1b:=Lib.hid (below_then (below_dr (Below.refl v4.heap.size v4)) hb1); clear hb1;refine hK.out _ _ (by exact ⟨⟨(H1b.out.cell (by exact HL0.out)).trans y00,(H1b.out.cell (by exact HL0.out)).trans y01,(H1b.out.cell (by exact HL0.out)).trans y02⟩,⟨(H1b.out.cell (by exact HL1.out)).trans y10,(H1b.out.cell (by exact HL1.out)).trans y11,(H1b.out.cell (by exact HL1.out)).trans y12⟩,⟨(H1b.out.cell (by exact HL2.out)).trans y20,(H1b.out.cell (by exact HL2.out)).trans y21,(H1b.out.cell (by exact HL2.out)).trans y22⟩,⟨(H1b.out.cell (by exact HL3.out)).trans y30,(H1b.out.cell (by exact HL3.out)).trans y31,(H1b.out.cell (by exact HL3.out)).trans y32⟩⟩) (fun hHeld => ?_);clear hK K;try simp only [Act.put,ly3]
  refine wpAnyH_ready (rs := [7]) (by kernel_rfl) (by simp) ?_;refine AllReadyH.cons rfl (fun K hK => ?_) AllReadyH.nil;go_simp
  (with_reducible refine (iDet_any _ _ _ _ _ _ _ _ _ _ HD.out.2.1).mono ?_); rintro e u2 ⟨rfl,hb2⟩; rw [HE2.out]; have H2b:=Lib.hid (below_then H1b.out hb2); clear hb2;refine hK.out _ _ (by exact ⟨⟨(H2b.out.cell (by exact HL0.out)).trans y00,(H2b.out.cell (by exact HL0.out)).trans y01,(H2b.out.cell (by exact HL0.out)).trans y02⟩,⟨(H2b.out.cell (by exact HL1.out)).trans y10,(H2b.out.cell (by exact HL1.out)).trans y11,(H2b.out.cell (by exact HL1.out)).trans y12⟩,⟨(H2b.out.cell (by exact HL2.out)).trans y20,(H2b.out.cell (by exact HL2.out)).trans y21,(H2b.out.cell (by exact HL2.out)).trans y22⟩,⟨(H2b.out.cell (by exact HL3.out)).trans y30,(H2b.out.cell (by exact HL3.out)).trans y31,(H2b.out.cell (by exact HL3.out)).trans y32⟩⟩) (fun hHeld => ?_);clear hK K;try simp only [Act.put,ly3]
  refine wpAnyH_ready (rs := [11]) (by kernel_rfl) (by simp) ?_;refine AllReadyH.cons rfl (fun K hK => ?_) AllReadyH.nil;go_simp
  (with_reducible refine (iDet_any _ _ _ _ _ _ _ _ _ _ HD.out.2.2).mono ?_); rintro e u3 ⟨rfl,hb3⟩; rw [HE3.out]; have H3b:=Lib.hid (below_then H2b.out hb3); clear hb3;refine hK.out _ _ (by exact ⟨⟨(H3b.out.cell (by exact HL0.out)).trans y00,(H3b.out.cell (by exact HL0.out)).trans y01,(H3b.out.cell (by exact HL0.out)).trans y02⟩,⟨(H3b.out.cell (by exact HL1.out)).trans y10,(H3b.out.cell (by exact HL1.out)).trans y11,(H3b.out.cell (by exact HL1.out)).trans y12⟩,⟨(H3b.out.cell (by exact HL2.out)).trans y20,(H3b.out.cell (by exact HL2.out)).trans y21,(H3b.out.cell (by exact HL2.out)).trans y22⟩,⟨(H3b.out.cell (by exact HL3.out)).trans y30,(H3b.out.cell (by exact HL3.out)).trans y31,(H3b.out.cell (by exact HL3.out)).trans y32⟩⟩) (fun hHeld => ?_);clear hK K;try simp only [Act.put,ly3]
  refine wpAnyH_ready (rs := [13]) (by kernel_rfl) (by simp) ?_;refine AllReadyH.cons rfl (fun K hK => ?_) AllReadyH.nil;go_simp
  (with_reducible refine (iMake_any _ _ _ _ _).mono ?_); rintro e u4 ⟨rfl,hb4⟩; rw [HMK.out,thrV]; have H4b:=Lib.hid (below_then H3b.out hb4); clear hb4;refine hK.out _ _ (by exact ⟨⟨(H4b.out.cell (by exact HL0.out)).trans y00,(H4b.out.cell (by exact HL0.out)).trans y01,(H4b.out.cell (by exact HL0.out)).trans y02⟩,⟨(H4b.out.cell (by exact HL1.out)).trans y10,(H4b.out.cell (by exact HL1.out)).trans y11,(H4b.out.cell (by exact HL1.out)).trans y12⟩,⟨(H4b.out.cell (by exact HL2.out)).trans y20,(H4b.out.cell (by exact HL2.out)).trans y21,(H4b.out.cell (by exact HL2.out)).trans y22⟩,⟨(H4b.out.cell (by exact HL3.out)).trans y30,(H4b.out.cell (by exact HL3.out)).trans y31,(H4b.out.cell (by exact HL3.out)).trans y32⟩⟩) (fun hHeld => ?_);clear hK K;try simp only [Act.put,ly3]
  refine take_heldS (i:=14) (d:=43) rfl rfl ?_;try simp only [Act.put,ly3]
  refine take_heldS (i:=15) (d:=44) rfl rfl ?_;try simp only [Act.put,ly3]
  refine wpAnyH_ready (rs := [16]) (by kernel_rfl) (by simp) ?_;refine AllReadyH.cons rfl (fun K hK => ?_) AllReadyH.nil;refine step_storeRow rfl 40 (.tmp 6) (.tmp 43) rfl (w.heap.size+1+1+1) #[.int .i64 m0,.int .i64 m1,.int .i64 m2,.int .i64 m3] rfl rfl 40 #[.int .i64 0,.int .i64 0,.int .i64 0,.int .i64 0] (by exact (H4b.out.block _ HLT.out).trans T4.out) (by kernel_rfl) rfl (by simp [Value.oneCell']) ?_;intro u5 O Y;have HO:=Lib.hid O;have HY:=Lib.hid Y;clear O Y;refine hK.out _ _ (by exact ⟨⟨(HO.out.cell (p:=⟨w2.heap.size,0,none⟩) (by have:=HNE0.out; simp; omega)).trans ((H4b.out.cell (by exact HL0.out)).trans y00),(HO.out.cell (p:=⟨w2.heap.size,1,none⟩) (by have:=HNE0.out; simp; omega)).trans ((H4b.out.cell (by exact HL0.out)).trans y01),(HO.out.cell (p:=⟨w2.heap.size,2,none⟩) (by have:=HNE0.out; simp; omega)).trans ((H4b.out.cell (by exact HL0.out)).trans y02)⟩,⟨(HO.out.cell (p:=⟨w2.heap.size+1,0,none⟩) (by have:=HNE0.out; simp; omega)).trans ((H4b.out.cell (by exact HL1.out)).trans y10),(HO.out.cell (p:=⟨w2.heap.size+1,1,none⟩) (by have:=HNE0.out; simp; omega)).trans ((H4b.out.cell (by exact HL1.out)).trans y11),(HO.out.cell (p:=⟨w2.heap.size+1,2,none⟩) (by have:=HNE0.out; simp; omega)).trans ((H4b.out.cell (by exact HL1.out)).trans y12)⟩,⟨(HO.out.cell (p:=⟨w2.heap.size+1+1,0,none⟩) (by have:=HNE0.out; simp; omega)).trans ((H4b.out.cell (by exact HL2.out)).trans y20),(HO.out.cell (p:=⟨w2.heap.size+1+1,1,none⟩) (by have:=HNE0.out; simp; omega)).trans ((H4b.out.cell (by exact HL2.out)).trans y21),(HO.out.cell (p:=⟨w2.heap.size+1+1,2,none⟩) (by have:=HNE0.out; simp; omega)).trans ((H4b.out.cell (by exact HL2.out)).trans y22)⟩,⟨(HO.out.cell (p:=⟨w2.heap.size+1+1+1,0,none⟩) (by have:=HNE0.out; simp; omega)).trans ((H4b.out.cell (by exact HL3.out)).trans y30),(HO.out.cell (p:=⟨w2.heap.size+1+1+1,1,none⟩) (by have:=HNE0.out; simp; omega)).trans ((H4b.out.cell (by exact HL3.out)).trans y31),(HO.out.cell (p:=⟨w2.heap.size+1+1+1,2,none⟩) (by have:=HNE0.out; simp; omega)).trans ((H4b.out.cell (by exact HL3.out)).trans y32)⟩⟩) (fun hHeld => ?_)
  clear hK K;try simp only [Act.put,ly3]
  refine take_heldS (i:=17) (d:=7) rfl rfl ?_;try simp only [Act.put,ly3]
  refine wpAnyH_done (by kernel_rfl) ?_ _;have HB5:=Lib.hid ((HC4.out.trans (H4b.out.mono HC4.out.size)).trans (HO.out.below (by omega)));go_wp2_with fail
  (try simp only [Exit.inBlock,Exit.then])
  refine bodyPost_ret (results_cell1t rfl _ _ _ 40 _ _ _ _ rfl rfl HY.out Tryz.underlying40 rfl (by kernel_rfl)) rfl ?_;exact ⟨by rw [HVV.out]; rfl,HB5.out⟩
end
section
open Go.RowKit
set_option maxRecDepth 100000 in
set_option maxHeartbeats 6400000 in
theorem iCf_any (A:Option Addr) (n c i:Nat) (rs:List Int) (w:World) (h:RecsAt w w.heap.size 4 A n rs) (hn:n≤20) (hi:i<n) :
  Calls Tryz.prog 120 #[.slice A n c,.int .i64 i] w fun e w'=>∃ v q,e = .returned v∧OwnZ w' w.heap.size 40 4 v q (cfI rs n i)∧Below w.heap.size w w':=by
 have HL:=Lib.hid h;clear h;have ei:IntKind.i64.wrap ((i:Int)+1)=(i:Int)+1:=IntWalk.i64_in _ (by omega);have HI1:Hid (cfI rs n i=cfK rs n i [] (n - (i+1))):=Lib.hid rfl;go_enter Tryz.func120,Tryz.ntmps120;go_wp2;go_loopw [5,6] (fun v5 v6 wr=>∃ t q:Nat,i+1+t≤n∧v6 = .int .i64 ((i:Int)+1+t)∧Hid (CorAcc (cfK rs n i [] t) q (20*t))∧Hid (OwnZ wr w.heap.size 40 4 v5 q (cfK rs n i [] t))∧Hid (Below w.heap.size w wr)) (fun _ v6 _=>n - (intOf v6).toNat)
 case atStart=>exact ⟨0,0,by omega,by simp,Lib.hid ⟨rfl,Nat.le_refl _⟩,Lib.hid (OwnZ.nil _ _ _ _),Lib.hid (Below.refl _ _)⟩
 case round =>
  obtain ⟨t,q,hk,rfl,HA,HO,HB⟩:=hrel;by_cases hlk:i+1+t<n
  ·have HK1:=Lib.hid (show cfK rs n i [] (t+1)=cfM rs n i (i+1+t) (cfK rs n i [] t) (n - (i+1+t+1)) from cfK_s i [] t)
   obtain ⟨a3,ha3⟩:∃ a,cfK rs n i [] t=a:=⟨_,rfl⟩;rw [ha3] at HA HO HK1;obtain ⟨k,ek⟩:∃ k,i+1+t=k:=⟨_,rfl⟩;have ek':(i:Int)+1+(t:Int)=(k:Int):=by omega
   rw [ek] at HK1 hlk;rw [ek'];have kk:(k:Int)<(n:Int):=by omega
   have ekk:IntKind.i64.wrap ((k:Int)+1)=(k:Int)+1:=IntWalk.i64_in _ (by omega);clear ha3;go_wp2;go_loopw [5,7] (fun v5 v7 wr=>∃ j q:Nat,k+1+j≤n∧v7 = .int .i64 ((k:Int)+1+j)∧Hid (CorAcc (cfM rs n i k a3 j) q (20*t+j))∧Hid (OwnZ wr w.heap.size 40 4 v5 q (cfM rs n i k a3 j))∧Hid (Below w.heap.size w wr)) (fun _ v7 _=>n - (intOf v7).toNat)
   case atStart=>exact ⟨0,q,by omega,by simp,HA,HO,HB⟩
   case round =>
    clear HA HO HB;obtain ⟨j,q,hm,rfl,HA,HO,HB⟩:=hrel;by_cases hlm:k+1+j<n
    ·have HM1:=Lib.hid (show cfM rs n i k a3 (j+1)=cfStep rs n i k (k+1+j) (cfM rs n i k a3 j) from cfM_s i k a3 j)
     obtain ⟨a4,ha4⟩:∃ a,cfM rs n i k a3 j=a:=⟨_,rfl⟩;rw [ha4] at HA HO HM1;obtain ⟨m,em⟩:∃ m,k+1+j=m:=⟨_,rfl⟩;have em':(k:Int)+1+(j:Int)=(m:Int):=by omega
     rw [em] at HM1 hlm;rw [em'];have mm:(m:Int)<(n:Int):=by omega
     have emm:IntKind.i64.wrap ((m:Int)+1)=(m:Int)+1:=IntWalk.i64_in _ (by omega);clear ha4;obtain ⟨b,off,rfl,hbB,hc⟩:=HL.out.2 (by omega);have hc':∀ x,x<n*4→wr.cell? ⟨b,off+x,none⟩=some (.int .i64 (nth rs x)):=fun x hx=>(HB.out.cell (by exact hbB)).trans (hc x hx)
     obtain ⟨x0,x1,x2,x3⟩:=rwCells hc' hi;obtain ⟨y0,y1,y2,y3⟩:=rwCells hc' hlk;obtain ⟨z0,z1,z2,z3⟩:=rwCells hc' hlm;clear hc hc';have hbk:b<wr.heap.size:=Nat.lt_of_lt_of_le hbB HB.out.size;obtain ⟨H,V,M,D,B,hcf,hve⟩:=cf_names rs n i k m a4;have HRR:=Lib.hid (HL.out.after HB.out);generalize nth rs (i*4)=pa at *
     generalize nth rs (i*4+1)=pb at *
     generalize nth rs (i*4+2)=pc at *
     generalize nth rs (i*4+3)=pd at *
     generalize nth rs (k*4)=qa at *
     generalize nth rs (k*4+1)=qb at *
     generalize nth rs (k*4+2)=qc at *
     generalize nth rs (k*4+3)=qd at *
     generalize nth rs (m*4)=ra at *
     generalize nth rs (m*4+1)=rb at *
     generalize nth rs (m*4+2)=rc at *
     generalize nth rs (m*4+3)=rd at *
     have HVE:=Lib.hid hve;have HCF:=Lib.hid hcf;clear hve hcf;obtain ⟨wk,rfl⟩:∃ wk:World,wk=wr:=⟨_,rfl⟩;have ii:(i:Int)<(n:Int):=by omega
     go_upto_region 8 with fail
     go_cut [8,9] (fun s8 s9 wx=>∃ g:Nat,s8 = .pointer (some ⟨g,0,none⟩)∧s9 = .bool B∧wk.heap.size≤g∧Hid (Box4 wx g H V M D)∧Hid (Below wk.heap.size wk wx))
     case first =>
      refine wp_region_held_drew (S:=fun w'=>(w'.cell? ⟨b,off+i*4,none⟩=some (.int .i64 pa)∧w'.cell? ⟨b,off+i*4+1,none⟩=some (.int .i64 pb)∧w'.cell? ⟨b,off+i*4+2,none⟩=some (.int .i64 pc)∧w'.cell? ⟨b,off+i*4+3,none⟩=some (.int .i64 pd))∧(w'.cell? ⟨b,off+k*4,none⟩=some (.int .i64 qa)∧w'.cell? ⟨b,off+k*4+1,none⟩=some (.int .i64 qb)∧w'.cell? ⟨b,off+k*4+2,none⟩=some (.int .i64 qc)∧w'.cell? ⟨b,off+k*4+3,none⟩=some (.int .i64 qd))∧(w'.cell? ⟨b,off+m*4,none⟩=some (.int .i64 ra)∧w'.cell? ⟨b,off+m*4+1,none⟩=some (.int .i64 rb)∧w'.cell? ⟨b,off+m*4+2,none⟩=some (.int .i64 rc)∧w'.cell? ⟨b,off+m*4+3,none⟩=some (.int .i64 rd))) (by kernel_rfl) (by exact ⟨⟨x0,x1,x2,x3⟩,⟨y0,y1,y2,y3⟩,⟨z0,z1,z2,z3⟩⟩) (fun hHeld => ?_);refine take_heldS (i:=0) (d:=27) rfl rfl ?_;try simp only [Act.put,ly3]
      refine take_heldS (i:=1) (d:=28) rfl rfl ?_;try simp only [Act.put,ly3]
      refine take_heldS (i:=2) (d:=29) rfl rfl ?_;try simp only [Act.put,ly3]
      refine take_heldS (i:=3) (d:=30) rfl rfl ?_;try simp only [Act.put,ly3]
      refine take_heldS (i:=4) (d:=31) rfl rfl ?_;try simp only [Act.put,ly3]
      refine take_heldS (i:=5) (d:=32) rfl rfl ?_;try simp only [Act.put,ly3]
      refine take_heldS (i:=6) (d:=33) rfl rfl ?_;try simp only [Act.put,ly3]
      refine take_heldS (i:=7) (d:=34) rfl rfl ?_;try simp only [Act.put,ly3]
      refine take_heldS (i:=8) (d:=35) rfl rfl ?_;try simp only [Act.put,ly3]
      refine take_heldS (i:=9) (d:=36) rfl rfl ?_;try simp only [Act.put,ly3]
      refine take_heldS (i:=10) (d:=37) rfl rfl ?_;try simp only [Act.put,ly3]
      refine take_heldS (i:=11) (d:=38) rfl rfl ?_;try simp only [Act.put,ly3]
      refine wpAnyH_ready (rs := [12,16]) (by kernel_rfl) (by simp) ?_;refine AllReadyH.cons rfl (fun K hK => ?_) (AllReadyH.cons rfl (fun K hK => ?_) AllReadyH.nil)
      ·go_simp
       (with_reducible refine (iSolve_any _ _ _ _ _ _ _ _ _ _ _ _ _).mono ?_)
       rintro e w1 ⟨rfl,hb1⟩;rw [HVE.out,thrV];refine hK.out _ _ (by exact keep12 (by assumption) (fun x=>hb1.cell (p:=⟨b,x,none⟩) (by first | exact hbk | (simp; omega)))) (fun hHeld => ?_)
       clear hK K;try simp only [Act.put,ly3]
       refine take_heldS (i:=13) (d:=26) rfl rfl ?_;try simp only [Act.put,ly3]
       refine take_heldS (i:=14) (d:=40) rfl rfl ?_;try simp only [Act.put,ly3]
       refine take_heldS (i:=15) (d:=41) rfl rfl ?_;try simp only [Act.put,ly3]
       refine wpAnyH_ready (rs := [16]) (by kernel_rfl) (by simp) ?_;refine AllReadyH.cons rfl (fun K hK => ?_) AllReadyH.nil;go_simp
       refine hK.out _ _ (by exact keep12 (by assumption) (fun x=>cell_alloc_lt (by have:=hb1.size; simp at this; omega))) (fun hHeld => ?_)
       clear hK K;try simp only [Act.put,ly3]
       refine wpAnyH_ready (rs := [17]) (by kernel_rfl) (by simp) ?_;refine AllReadyH.cons rfl (fun K hK => ?_) AllReadyH.nil;go_simp
       refine hK.out _ _ (by exact keep12 (by assumption) (fun x=>(cell_alloc_lt (by have:=hb1.size; simp at this; omega)).trans (cell_alloc_lt (by have:=hb1.size; simp at this; omega)).symm)) (fun hHeld => ?_)
       clear hK K;try simp only [Act.put,ly3]
       refine take_heldS (i:=18) (d:=9) rfl rfl ?_;try simp only [Act.put,ly3]
       refine wpAnyH_done (by kernel_rfl) ?_ _;go_wp2_with fail
       go_meet
       have hz1:=hb1.size;simp at hz1;exact ⟨w1.heap.size,rfl,rfl,by omega,Lib.hid (Box4.new _ _ _ _ _ _),Lib.hid (((below_drewN (Below.refl wk.heap.size wk) 1).trans (hb1.mono (by simp))).alloc (by omega) _)⟩
      ·go_simp
       refine hK.out _ _ (by exact keep12 (by assumption) (fun x=>cell_alloc_lt (by exact hbk))) (fun hHeld => ?_);clear hK K;try simp only [Act.put,ly3]
       refine wpAnyH_ready (rs := [12]) (by kernel_rfl) (by simp) ?_;refine AllReadyH.cons rfl (fun K hK => ?_) AllReadyH.nil;go_simp
       (with_reducible refine (iSolve_any _ _ _ _ _ _ _ _ _ _ _ _ _).mono ?_)
       rintro e w1 ⟨rfl,hb1⟩;rw [HVE.out,thrV];have HVW:Hid (RowF w1 wk.heap.size 40 4 (fun _ => .int .i64 0)):=Lib.hid ((show RowF _ wk.heap.size 40 4 (fun _ => .int .i64 0) from RowF.of_row (World.rowIs_alloc wk.drew #[.int .i64 0,.int .i64 0,.int .i64 0,.int .i64 0] 40 (fun _ => .int .i64 0) (fun i hi=>by simp at hi; match i,hi with | 0,_=>rfl | 1,_=>rfl | 2,_=>rfl | 3,_=>rfl))).after hb1)
       refine hK.out _ _ (by exact keep12 (by assumption) (fun x=>hb1.cell (p:=⟨b,x,none⟩) (by simp; omega))) (fun hHeld => ?_)
       clear hK K;try simp only [Act.put,ly3]
       refine take_heldS (i:=13) (d:=26) rfl rfl ?_;try simp only [Act.put,ly3]
       refine take_heldS (i:=14) (d:=40) rfl rfl ?_;try simp only [Act.put,ly3]
       refine take_heldS (i:=15) (d:=41) rfl rfl ?_;try simp only [Act.put,ly3]
       have u0:w1.cell? ⟨wk.heap.size,0,none⟩=some (.int .i64 0):=HVW.out.cell (i:=0) (by omega);have u1:w1.cell? ⟨wk.heap.size,1,none⟩=some (.int .i64 0):=HVW.out.cell (i:=1) (by omega);have u2:w1.cell? ⟨wk.heap.size,2,none⟩=some (.int .i64 0):=HVW.out.cell (i:=2) (by omega);have u3:w1.cell? ⟨wk.heap.size,3,none⟩=some (.int .i64 0):=HVW.out.cell (i:=3) (by omega);have f0:=HVW.out.frozen 0;have f1:=HVW.out.frozen 1;have f2:=HVW.out.frozen 2;have f3:=HVW.out.frozen 3;have hs:=RowF.lt HVW.out;have hz1:=hb1.size;simp at hz1;refine wpAnyH_ready (rs := [17]) (by kernel_rfl) (by simp) ?_;refine AllReadyH.cons rfl (fun K hK => ?_) AllReadyH.nil;go_simp
       refine hK.out _ _ (by exact keep12 (by assumption) (fun x=>(World.cell?_setCell_far _ _ _ _ (by first | (simp; done) | (simp; omega) | omega)).trans ((World.cell?_setCell_far _ _ _ _ (by first | (simp; done) | (simp; omega) | omega)).trans ((World.cell?_setCell_far _ _ _ _ (by first | (simp; done) | (simp; omega) | omega)).trans ((World.cell?_setCell_far _ _ _ _ (by first | (simp; done) | (simp; omega) | omega)).trans (rfl)))))) (fun hHeld => ?_)
       clear hK K;try simp only [Act.put,ly3]
       refine take_heldS (i:=18) (d:=9) rfl rfl ?_;try simp only [Act.put,ly3]
       refine wpAnyH_done (by kernel_rfl) ?_ _;go_wp2_with fail
       go_meet
       have HV4:=Lib.hid (((HVW.out.set 0 (.int .i64 H)).set 1 (.int .i64 V)).set 2 (.int .i64 M) |>.set 3 (.int .i64 D));exact ⟨wk.heap.size,rfl,rfl,Nat.le_refl _,Lib.hid ⟨⟨HV4.out.cell (i:=0) (by omega),HV4.out.cell (i:=1) (by omega),HV4.out.cell (i:=2) (by omega),HV4.out.cell (i:=3) (by omega)⟩,by simpa using hs⟩,Lib.hid (below_set4 (((below_drewN (Below.refl wk.heap.size wk) 1).alloc (Nat.le_refl _) _).trans (hb1.mono (by simp))) (Nat.le_refl _) _ _ _ _)⟩
     case rest =>
     obtain ⟨g,rfl,rfl,hg,HBX,HBW⟩:=hcut;have HOC:=Lib.hid (HO.out.below HBW.out);have HBC:=Lib.hid (below_then HB.out HBW.out);have HRC:=Lib.hid (HRR.out.after HBW.out);clear x0 x1 x2 x3 y0 y1 y2 y3 z0 z1 z2 z3 HVE HO HB HBW hbk HRR;cases B
     ·have HEQ:=Lib.hid (HCF.out.no rfl)
      have HAX:Hid (CorAcc (cfM rs n i k a3 (j+1)) q (20*t+(j+1))):=by rw [HM1.out,HEQ.out]; exact Lib.hid ⟨HA.out.len,by have:=HA.out.few; omega⟩
      have HOX:=HOC;rw [← HM1.out.trans HEQ.out] at HOX;go_wp2;go_roundw
      case rel=>exact ⟨j+1,q,by omega,by go_num,HAX,HOX,HBC⟩
      case measure=>simp [intOf]; omega
     obtain ⟨A3,c3,rfl,hc3⟩:=HOC.out.slice;obtain ⟨t0,t1,t2,t3⟩:=HBX.out.1;have hq8:q≤8000:=by have:=HA.out.few; omega
     go_wp2_with fail
     refine (iFulfillsAll_any _ _ _ rs _ _ _ _ _ HRC.out (by omega)).mono ?_;rintro e w1 ⟨rfl,hb1⟩;have HO1:=Lib.hid (HOC.out.below hb1);have HB1:=Lib.hid (below_then HBC.out hb1);have HX1:=Lib.hid (HBX.out.after hb1);clear t0 t1 t2 t3 hb1 HOC HBC HBX HRC;cases hh:fulAll rs n H V M D
     ·have HEQ:=Lib.hid (HCF.out.all0 hh)
      clear hh;have HAX:Hid (CorAcc (cfM rs n i k a3 (j+1)) q (20*t+(j+1))):=by rw [HM1.out,HEQ.out]; exact Lib.hid ⟨HA.out.len,by have:=HA.out.few; omega⟩
      have HOX:=HO1;rw [← HM1.out.trans HEQ.out] at HOX;go_wp2;go_roundw
      case rel=>exact ⟨j+1,q,by omega,by go_num,HAX,HOX,HB1⟩
      case measure=>simp [intOf]; omega
     have HEQ:=Lib.hid (HCF.out.yes rfl hh);clear hh;obtain ⟨t0,t1,t2,t3⟩:=HX1.out.1;have hcn:∀ y,y<1*4→(w1.alloc (.cells #[.int .i64 H,.int .i64 V,.int .i64 M,.int .i64 D] 40)).cell? ⟨w1.heap.size,y,none⟩=some (.int .i64 (nth [H,V,M,D] y)):=fun y hy =>
      World.rowIs.cell (World.rowIs_alloc w1 #[.int .i64 H,.int .i64 V,.int .i64 M,.int .i64 D] 40 (ints [H,V,M,D]) (fun i hi=>by simp at hi; match i,hi with | 0,_=>rfl | 1,_=>rfl | 2,_=>rfl | 3,_=>rfl)) (by simpa using hy)
     have HCN:=Lib.hid hcn;have HBA:=Lib.hid (HB1.out.alloc HB1.out.size (.cells #[.int .i64 H,.int .i64 V,.int .i64 M,.int .i64 D] 40));have hW0:w.heap.size≤(w1.alloc (.cells #[.int .i64 H,.int .i64 V,.int .i64 M,.int .i64 D] 40)).heap.size:=HBA.out.size;have HXX:Hid (a4 ++ [H,V,M,D]=cfM rs n i k a3 (j+1)):=Lib.hid (by rw [HM1.out,HEQ.out]);have HAX:Hid (CorAcc (cfM rs n i k a3 (j+1)) (q+1) (20*t+(j+1))):=by rw [HM1.out,HEQ.out]; exact Lib.hid ⟨by simp [HA.out.len]; omega,by have:=HA.out.few; omega⟩
     clear hcn;go_wp2_with (at_builtin; refine wpList_appZ _ rfl (.tmp 48) (.tmp 50) 81 rfl w.heap.size 40 4 32 #[.int .i64 0,.int .i64 0,.int .i64 0,.int .i64 0] Tryz.underlying81 infoThr rfl zz4 (by decide) (by decide) _ q a4 rfl (by exact HO1.out.alloc _) w1.heap.size 1 1 [H,V,M,D] rfl rfl (by exact HCN.out) (by omega) w.heap.size w (by exact HBA.out) (Nat.le_refl _) hW0 _ HXX.out ?_ (by omega); intro g' cap' w7 hown7 hb7; have HO7:=Lib.hid hown7; have HB7:=Lib.hid hb7);go_roundw
     case rel=>exact ⟨j+1,q+1,by omega,by go_num,HAX,HO7,HB7⟩
     case measure=>simp [intOf]; omega
    ·have hj:j=n - (k+1):=by omega
     have nn:¬ ((k:Int)+1+(j:Int))<(n:Int):=by omega
     have HA1:Hid (CorAcc (cfK rs n i [] (t+1)) q (20*(t+1))):=by rw [HK1.out,← hj]; exact Lib.hid ⟨HA.out.len,by have:=HA.out.few; omega⟩
     have HO1:=HO;rw [hj,← HK1.out] at HO1;go_wp2;go_roundw
     case rel=>exact ⟨t+1,q,by omega,by go_num,HA1,HO1,HB⟩
     case measure=>simp [intOf]; omega
  ·have ht:t=n - (i+1):=by omega
   have nn:¬ ((i:Int)+1+(t:Int))<(n:Int):=by omega
   have HO1:=HO;rw [ht,← HI1.out] at HO1;go_wp2;go_ret;exact ⟨_,rfl,⟨q,HO1.out⟩,HB.out⟩
end
namespace Rn
open Go.Conc Go.RowKit
open Go.ConcN (WgLive PayAt Has)
open Go.ConcR (KK WgAt Payload)
theorem emptyWR {noT:TypeId} {off:Nat} {v:World} (hno:Tryz.prog.toTables.info? noT=none) (hG:Tryz.prog.globals.size≤v.heap.size):WR (pctx noT off) (fun _ _=>False) (winWorld v Tryz.prog.globals.size #[] noT) v where
 lt:=fun a b h=>h.elim
 fn:=fun a b b' h=>h.elim
 inj:=fun a a' b h=>h.elim
 obj:=fun a b h=>h.elim
 win:=fun a b h=>h.elim
 winG:=fun a b h=>h.elim
 glob:=fun a b h=>h.elim
 big:=⟨by show Tryz.prog.globals.size≤_; simp [winWorld],hG⟩
 shz:=by intro a h; show (if a=Tryz.prog.globals.size then off else 0)=0; exact if_neg (fun e=>h e)
 roLt:=by intro a h; subst h; simp [winWorld]
 noInfo:=hno
theorem pro_way0 {noT : TypeId} (hno : Tryz.prog.toTables.info? noT = none) {w : World} (cf : Frame) (cs : List Frame) (c : Nat) (hG : Tryz.prog.globals.size ≤ w.heap.size) :
  WayG Tryz.prog true (fun own => Stays (fun b => own b ∨ False)) (fun own => Did own (fun _ => False)) (fun _ g _ => g = G (cf.finish (.slice none 0 0)) cs) (fun _ => False) (G (Frame.enter Tryz.prog 92 #[.slice none 0 c] .normal) (cf :: cs)) w := by
 have hWR := emptyWR (noT := noT) (off := 0) (v := w) hno hG;obtain ⟨r0, pr, r3, r4, r5, l, tl, e⟩ := pbody_form;have hrec : ∀ t d, RecsAt ((winWorld w Tryz.prog.globals.size #[] noT).tp t d) ((winWorld w Tryz.prog.globals.size #[] noT).tp t d).heap.size 4 none 0 [] := fun t d => RecsAt.nil
 have hres : Res (pctx noT 0).Px (fun b v w' => ∃ t d, PR 0 c none [] ((winWorld w Tryz.prog.globals.size #[] noT).tp t d) b v w') ⟨fra 92 (#[.slice none 0 c] ++ Array.replicate 54 undef) [.code (.seq r0 (.seq pr (.seq r3 (.seq r4 (.seq (.seq r5 (.refuse "")) .skip)))))] false, [Xb], winWorld w Tryz.prog.globals.size #[] noT⟩ :=
  Res.of_pro (fn := Tryz.f92) Tryz.func92 fun t d => (proW _ 0 c [] _ (hrec t d) (by omega) r0 pr r3 r4 r5 l tl e).mono (fun a w' x => ⟨x.1, t, d, x.2⟩) fun a w' x => ⟨x.1, x.2.imp fun v y => ⟨y.1, t, d, y.2⟩⟩
 have henter := enterC (.slice none 0 c);have hv1 : VR (pctx noT 0) (fun _ _ => False) (.slice none 0 c) (.slice none 0 c) := .sl0 0 c;have hva := (VAll.one hv1).append (VAll.replicate 54 (vr_undef (C := pctx noT 0) (r := fun _ _ => False)));have hfr : FrR (pctx noT 0) (fun _ _ => False) (fra 92 (#[.slice none 0 c] ++ Array.replicate 54 undef) [.code (.seq r0 (.seq pr (.seq r3 (.seq r4 (.seq (.seq r5 (.refuse "")) .skip)))))] false) (fra 92 (#[.slice none 0 c] ++ Array.replicate 54 undef) [.code pbody] false) :=
  .mk false (sameC noT 0) hva.on (proIL noT 0 e)
 have hway := way_of_res (main := true) (bs := cf :: cs) (ro := fun _ => False) (own := fun _ => False) (pro_ok noT 0) (fun _ _ => rfl) (pro_fine noT 0) hres _ hres.acc (Path.refl _ _) hfr (LR.nil) hWR (fun a b h => h.elim);rw [henter];have hway2 := hway.toG.bind' (R' := fun own => Stays (fun b => own b ∨ False)) (D' := fun own => Did own (fun _ => False)) (Stop' := fun o g w1 => ∀ w2, Stays (fun b => o b ∨ False) w1 w2 → AtEnd (pctx noT 0) (fun b v w' => ∃ t d, PR 0 c none [] ((winWorld w Tryz.prog.globals.size #[] noT).tp t d) b v w') (fun _ => False) (cf :: cs) o g w2)
  (fun _ _ _ x => x) (fun _ _ _ _ x => x) fun o g w x => .stop fun w1 h1 w2 h2 => x w2 (h1.trans h2)
 refine hway2.bind (fun _ _ => .refl _ _) (fun _ _ _ x => x) (fun _ _ _ _ x => x) ?_;intro o g w2 hend;have hrun : g.status = .running := by
  obtain ⟨_, _, _, _, _, _, rfl, _⟩ := hend w2 (.refl _ _);rfl
 refine .next hrun fun w3 h3 => ?_
 obtain ⟨r, wl, f, f', eb, x, rfl, hf, hwr, hte, hin, ⟨t, d, hbel, hpr⟩, hends⟩ := hend w3 h3;have hB : rowsB 0 [] = false := rfl;cases eb with
 | true => exact absurd hpr.1 (by rw [hB]; simp)
 | false =>
  obtain ⟨rfl, _⟩ := hpr;have hlv : f.leaving Tryz.prog wl (.returned (.slice none 0 0)) := by
   rcases hends with ⟨_, h⟩ | ⟨e, _⟩
   ·exact h
   ·cases e
  obtain ⟨y, v1, es, r1, hs, hext, hw1, hev, hvr⟩ := ret_step (pro_ok noT 0) hf hwr hte hlv cf cs true;have hd := hext.did hwr hw1 hin hev;cases hvr;exact ⟨_, v1, es, hs, hd, .stop fun w4 h4 => rfl⟩
def CornV (rs:List Int) (n:Nat) (own:Bl) (y:Value) (w:World):Prop :=
 (y = .slice none 0 0∧cornL rs n = []) ∨ ∃ g q cap cur,y = .slice (some ⟨g,0,none⟩) q cap∧own g∧q*4=(cornL rs n).length∧1≤q∧q≤cap∧cap≤maxLen∧w.heap[g]?=some (.cells cur 40 (0,0))∧cur.size=cap*4∧(∀ k,k<q*4→cur[k]?=some (.int .i64 (nth (cornL rs n) k)))∧∀ k,q*4≤k→k<cap*4→cur[k]?=some (.int .i64 0)
def RowsIn (A:Option Addr) (n:Nat) (xs:List Int) (w:World):Prop :=
 n≤1048576∧xs.length=n*4∧((n=0∧A=none) ∨ (1≤n∧∃ blk off,A=some ⟨blk,off,none⟩∧∀ k,k<4*n→w.cell? ⟨blk,off+k,none⟩=some (.int .i64 (nth xs k))))
theorem rows_corn (n:Nat) (xs:List Int):rowsB n xs=cornB xs n:=by unfold rowsB cornB; rw [Bool.and_comm]
theorem cornersWhole {noT:TypeId} (hno:Tryz.prog.toTables.info? noT=none) {A:Option Addr} {n c:Nat} {xs:List Int}
  {SB:Bl} {gs:Array Goroutine} {w:World} {t:Trace} (sl:Option (Nat × Nat)) (hc:Calm Tryz.prog SB gs w t) {cf:Frame} {cs:List Frame}
  (h0:gs[0]?=some (G (Frame.enter Tryz.prog 92 #[.slice A n c] .normal) (cf :: cs)))
  (hin:RowsIn A n xs w) (hb:∀ a,A=some a→a.block<w.heap.size∧¬ SB a.block) (hG:Tryz.prog.globals.size≤w.heap.size) :
  ∃ N gs' sl' t' w' SB' y own,runNT Tryz.prog N (crowd gs w sl) t=(.next (crowd gs' w' sl'),t')∧Calm Tryz.prog SB' gs' w' t'∧(∀ b,SB' b→SB b ∨ w.heap.size≤b)∧gs'[0]?=some (G (cf.finish y) cs)∧Stays (fun b=>b<w.heap.size) w w' ∧
   (∀ b,own b→w.heap.size≤b∧b<w'.heap.size∧¬ SB' b)∧CornV xs n own y w':=by
 obtain ⟨hn2,hxs,⟨rfl,rfl⟩ | ⟨hn,blk,off,rfl,hrows⟩⟩:=hin
 ·obtain ⟨N1,gs1,sl1,t1,a1,w1,own1,e1,_,c1,g1,s1,hst,hran⟩:=beside_way (pro_way0 hno cf cs c hG) (sl:=sl) hc h0 (fun b hb'=>by rcases hb' with hb' | hb' <;> exact hb'.elim)
  have hnil:xs = []:=List.eq_nil_of_length_eq_zero (by rw [hxs]);subst hnil;refine ⟨N1,gs1,sl1,t1,w1,SB,.slice none 0 0,fun _=>False,e1,c1,fun b h => .inl h,by rw [← hst]; exact g1,⟨hran.tape,hran.os,hran.output,hran.size,fun b hb' _=>hran.block b hb' (fun k=>k)⟩,fun b h=>h.elim,.inl ⟨rfl,?_⟩⟩;exact cornL_f (by rw [← rows_corn]; rfl)
 ·by_cases hB:rowsB n xs=true
  ·have hn20:n≤20:=by
    simp only [rowsB,Bool.and_eq_true,inB_iff] at hB;omega
   obtain ⟨N,gs',sl',t',w',SB',y,own,e,c',h1,h2,h3,h4,h5⟩:=cornersReal (zs:=cfI xs n) hno (fun i hi=>by
     obtain ⟨q,hq⟩:=cfI_acc (rs:=xs) hn20 i;have:=hq.len;have:=hq.few
     omega) (fun _ i hi W t d=>by
     have hrec:RecsAt ((winW W n xs noT).tp t d) ((winW W n xs noT).tp t d).heap.size 4 (some ⟨Tryz.prog.globals.size,0,none⟩) n xs:=⟨hxs,fun _=>⟨_,0,rfl,by rw [win_size]; omega,fun i hi=>by rw [Nat.zero_add,win_cell]; simp [show i<4*n by omega]⟩⟩;refine (iCf_any _ n c i xs _ hrec hn20 hi).mono ?_;rintro e w' ⟨v,q,rfl,ho,_⟩;refine ⟨v,rfl,?_⟩;have hlen:=ho.own.2;have hnz:=ho.nz;rcases ho.own.form with ⟨rfl,rfl,hx⟩ | ⟨g,cap,rfl,hg,hqc,hr⟩
     ·exact ⟨none,0,0,rfl,by rw [hx]; rfl,.inl ⟨rfl,rfl⟩⟩
     ·refine ⟨some ⟨g,0,none⟩,q,cap,rfl,hlen.symm,?_⟩
      have hq:0<q:=by
       rcases Nat.eq_zero_or_pos q with e | e
       ·subst e
        have:=hnz (List.eq_nil_of_length_eq_zero (by rw [hlen,Nat.zero_mul]));cases this
       ·exact e
      refine .inr ⟨hq,g,0,rfl,fun e => ?_,fun k hk=>by rw [Nat.zero_add]; exact hr.cell (by omega)⟩;have:((winW W n xs noT).tp t d).heap.size=Tryz.prog.globals.size+1:=win_size t d
      omega) sl hc h0 hn hn2 hxs hrows (hb _ rfl) hG
   refine ⟨N,gs',sl',t',w',SB',y,own,e,c',h1,h2,h3,h4,?_⟩;rcases h5 with ⟨e,_⟩ | ⟨_,h5⟩
   ·rw [hB] at e; cases e
   have hdd:=dd_corn (rs:=xs) (n:=n) (by rw [← rows_corn]; exact hB);rcases h5 with ⟨rfl,hnil⟩ | ⟨g,q,cap,cur,rfl,k1,k2,k3,k4,k5,k6,k7,k8,k9⟩
   ·exact .inl ⟨rfl,by rw [← hdd]; exact hnil⟩
   ·rw [hdd] at k2 k8
    exact .inr ⟨g,q,cap,cur,rfl,k1,k2,k3,k4,k5,k6,k7,k8,k9⟩
  ·have hB':rowsB n xs=false:=by simpa using hB
   obtain ⟨N,gs',sl',t',w',SB',y,own,e,c',h1,h2,h3,h4,h5⟩:=cornersReal (zs:=fun _ => []) hno (fun i hi=>by simp) (fun h=>absurd h hB) sl hc h0 hn hn2 hxs hrows (hb _ rfl) hG;refine ⟨N,gs',sl',t',w',SB',y,own,e,c',h1,h2,h3,h4,?_⟩;rcases h5 with ⟨_,rfl⟩ | ⟨e,_⟩
   ·exact .inl ⟨rfl,cornL_f (by rw [← rows_corn]; exact hB')⟩
   ·rw [hB'] at e; cases e
end Rn
end Go.Proofs.YtodneggnnipcnaaGreat
