/-
  Texts that the law stands on, part 19.
-/
import Derived.Test.YtjcgklifabcfkaaGreatM1
import Derived.Test.YtjcgklifabcfkaaGreatM11
import Derived.Test.YtjcgklifabcfkaaGreatM18
import Derived.WalkMore
import Derived.Deep.DeepCutAuto
import Derived.ScopeJumps
set_option maxRecDepth 100000
set_option linter.unusedVariables false
set_option linter.unusedSimpArgs false
namespace Go.Proofs.YtjcgklifabcfkaaGreat
namespace X
open Go.RowKit
set_option maxRecDepth 100000 in
set_option maxHeartbeats 1600000 in
theorem l11Det_any (a0 a1 a2 b0 b1 b2 c0 c1 c2:Int) (w:World) (hb:DetBd a0 a1 a2 b0 b1 b2 c0 c1 c2) :
  Calls Tryzx.prog 118 #[.agg #[.int .i64 a0,.int .i64 a1,.int .i64 a2],.agg #[.int .i64 b0,.int .i64 b1,.int .i64 b2],.agg #[.int .i64 c0,.int .i64 c1,.int .i64 c2]] w fun e w'=>e = .returned (.int .i64 (det9 a0 a1 a2 b0 b1 b2 c0 c1 c2))∧Below w.heap.size w w':=by
 obtain ⟨w1,w2,w3,w4,w5,w6,s1,s2,s3,m1,m2,m3,t1,t2⟩:=hb.wraps;have HA:=Lib.hid ((((Below.refl w.heap.size w).alloc (Nat.le_refl _) (.cells #[.int .i64 a0,.int .i64 a1,.int .i64 a2] 169)).alloc (by simp) (.cells #[.int .i64 b0,.int .i64 b1,.int .i64 b2] 169)).alloc (by simp; omega) (.cells #[.int .i64 c0,.int .i64 c1,.int .i64 c2] 169))
 go_enter Tryzx.func118,Tryz.ntmps118;go_wp2;go_ret;exact ⟨rfl,HA.out⟩
set_option maxRecDepth 100000 in
set_option maxHeartbeats 1600000 in
theorem l11Line_any (a b c d:Int) (w:World) :
  Calls Tryzx.prog 151 #[.agg #[.int .i64 a,.int .i64 b,.int .i64 c,.int .i64 d]] w fun e w'=>e = .returned (.agg #[.int .i64 a,.int .i64 b,.int .i64 c])∧Below w.heap.size w w':=by
 have HA:=Lib.hid (((Below.refl w.heap.size w).alloc (Nat.le_refl _) (.cells #[.int .i64 a,.int .i64 b,.int .i64 c,.int .i64 d] 133)).alloc (by simp) (.cells #[.int .i64 a,.int .i64 b,.int .i64 c] 169));go_enter Tryzx.func151,Tryz.ntmps151;go_wp2;refine bodyPost_ret (v := .agg #[.int .i64 a,.int .i64 b,.int .i64 c]) (by simp [results,Tryz.results151,go_sem, *]) rfl ?_;exact ⟨rfl,HA.out⟩
structure R3 (w wr:World) (pa pb pc pd qa qb qc qd ra rb rc rd:Int):Prop where
 p:Box4 wr w.heap.size pa pb pc pd
 q:Box4 wr (w.heap.size+1) qa qb qc qd
 r:Box4 wr (w.heap.size+1+1) ra rb rc rd
 below:Below w.heap.size w wr
theorem R3.after {w wr w1:World} {pa pb pc pd qa qb qc qd ra rb rc rd:Int} (h:R3 w wr pa pb pc pd qa qb qc qd ra rb rc rd) (hb:Below wr.heap.size wr w1):R3 w w1 pa pb pc pd qa qb qc qd ra rb rc rd:=⟨h.p.after hb,h.q.after hb,h.r.after hb,h.below.trans (hb.mono h.below.size)⟩
theorem R3.start (w:World) (pa pb pc pd qa qb qc qd ra rb rc rd:Int) (T:TypeId):R3 w (((w.alloc (.cells #[.int .i64 pa,.int .i64 pb,.int .i64 pc,.int .i64 pd] T)).alloc (.cells #[.int .i64 qa,.int .i64 qb,.int .i64 qc,.int .i64 qd] T)).alloc (.cells #[.int .i64 ra,.int .i64 rb,.int .i64 rc,.int .i64 rd] T)) pa pb pc pd qa qb qc qd ra rb rc rd:=by
 have h2:=Box4.new (w.alloc (.cells #[.int .i64 pa,.int .i64 pb,.int .i64 pc,.int .i64 pd] T)) qa qb qc qd T;have h3:=Box4.new ((w.alloc (.cells #[.int .i64 pa,.int .i64 pb,.int .i64 pc,.int .i64 pd] T)).alloc (.cells #[.int .i64 qa,.int .i64 qb,.int .i64 qc,.int .i64 qd] T)) ra rb rc rd T;simp only [World.size_alloc] at h2 h3;exact ⟨((Box4.new w pa pb pc pd T).after ((Below.refl _ _).alloc (Nat.le_refl _) _)).after ((Below.refl _ _).alloc (Nat.le_refl _) _),h2.after ((Below.refl _ _).alloc (Nat.le_refl _) _),h3,(((Below.refl _ _).alloc (Nat.le_refl _) _).alloc (by simp) _).alloc (by simp; omega) _⟩
def solOk (pa pb pc pd qa qb qc qd ra rb rc rd:Int):Bool:=rowB pa pb pc pd && (rowB qa qb qc qd && rowB ra rb rc rd)
theorem solD_f {pa pb pc pd qa qb qc qd ra rb rc rd:Int} (h:solOk pa pb pc pd qa qb qc qd ra rb rc rd=false):solD pa pb pc pd qa qb qc qd ra rb rc rd=0:=by
 unfold solOk at h; simp [solD,h]
theorem solD_t {pa pb pc pd qa qb qc qd ra rb rc rd:Int} (h:solOk pa pb pc pd qa qb qc qd ra rb rc rd=true):solD pa pb pc pd qa qb qc qd ra rb rc rd=det9 pa pb pc qa qb qc ra rb rc:=by
 unfold solOk at h; simp [solD,h]
set_option maxRecDepth 100000 in
set_option maxHeartbeats 3200000 in
theorem sDetOf_any (pa pb pc pd qa qb qc qd ra rb rc rd:Int) (w:World) :
  Calls Tryzx.prog 117 #[.agg #[.int .i64 pa,.int .i64 pb,.int .i64 pc,.int .i64 pd],.agg #[.int .i64 qa,.int .i64 qb,.int .i64 qc,.int .i64 qd],.agg #[.int .i64 ra,.int .i64 rb,.int .i64 rc,.int .i64 rd]] w fun e w'=>e = .returned (.int .i64 (solD pa pb pc pd qa qb qc qd ra rb rc rd))∧Below w.heap.size w w':=by
 have HR:=Lib.hid (R3.start w pa pb pc pd qa qb qc qd ra rb rc rd 133);cases h1:rowB pa pb pc pd
 ·have HF:=Lib.hid (solD_f (by simp [solOk,h1]:solOk pa pb pc pd qa qb qc qd ra rb rc rd=false))
  go_enter Tryzx.func117,Tryz.ntmps117;go_wp2_with fail
  refine (sRowOk_any _ _ _ _ _).mono ?_;rw [h1];rintro e w1 ⟨rfl,hb1⟩;have HR1:=Lib.hid (HR.out.after hb1);clear hb1;go_wp2;go_ret;exact ⟨ret_int HF.out.symm,HR1.out.below⟩
 cases h2:rowB qa qb qc qd
 ·have HF:=Lib.hid (solD_f (by simp [solOk,h1,h2]:solOk pa pb pc pd qa qb qc qd ra rb rc rd=false))
  go_enter Tryzx.func117,Tryz.ntmps117;go_wp2_with fail
  refine (sRowOk_any _ _ _ _ _).mono ?_;rw [h1];rintro e w1 ⟨rfl,hb1⟩;have HR1:=Lib.hid (HR.out.after hb1);obtain ⟨c0,c1,c2,c3⟩:=HR1.out.q.1;clear hb1;go_wp2_with fail
  refine (sRowOk_any _ _ _ _ _).mono ?_;rw [h2];rintro e w2 ⟨rfl,hb2⟩;have HR2:=Lib.hid (HR1.out.after hb2);clear hb2;go_wp2;go_ret;exact ⟨ret_int HF.out.symm,HR2.out.below⟩
 go_enter Tryzx.func117,Tryz.ntmps117;go_wp2_with fail
 refine (sRowOk_any _ _ _ _ _).mono ?_;rw [h1];rintro e w1 ⟨rfl,hb1⟩;have HR1:=Lib.hid (HR.out.after hb1);obtain ⟨c0,c1,c2,c3⟩:=HR1.out.q.1;clear hb1;go_wp2_with fail
 refine (sRowOk_any _ _ _ _ _).mono ?_;rw [h2];rintro e w2 ⟨rfl,hb2⟩;have HR2:=Lib.hid (HR1.out.after hb2);clear hb2 c0 c1 c2 c3;obtain ⟨c0,c1,c2,c3⟩:=HR2.out.r.1;go_wp2_with fail
 refine (sRowOk_any _ _ _ _ _).mono ?_;cases h3:rowB ra rb rc rd
 ·have HF:=Lib.hid (solD_f (by simp [solOk,h1,h2,h3]:solOk pa pb pc pd qa qb qc qd ra rb rc rd=false))
  rintro e w3 ⟨rfl,hb3⟩;have HR3:=Lib.hid (HR2.out.after hb3);clear hb3;go_wp2;go_ret;exact ⟨ret_int HF.out.symm,HR3.out.below⟩
 ·have HF:=Lib.hid (solD_t (by simp [solOk,h1,h2,h3]:solOk pa pb pc pd qa qb qc qd ra rb rc rd=true))
  have HD:=Lib.hid (rows_det h1 h2 h3).1;rintro e w3 ⟨rfl,hb3⟩;have HR3:=Lib.hid (HR2.out.after hb3);clear hb3 c0 c1 c2 c3;obtain ⟨p0,p1,p2,p3⟩:=HR3.out.p.1;obtain ⟨q0,q1,q2,q3⟩:=HR3.out.q.1;obtain ⟨r0,r1,r2,r3⟩:=HR3.out.r.1;have hwl:=HR3.out.below.size;have hpl:=HR3.out.p.2;have hql:=HR3.out.q.2;have hrl:=HR3.out.r.2;go_wp2;refine wp_region_held_drew (S:=fun w'=>(w'.cell? ⟨w.heap.size,0,none⟩=some (.int .i64 pa)∧w'.cell? ⟨w.heap.size,1,none⟩=some (.int .i64 pb)∧w'.cell? ⟨w.heap.size,2,none⟩=some (.int .i64 pc)∧w'.cell? ⟨w.heap.size,3,none⟩=some (.int .i64 pd))∧(w'.cell? ⟨w.heap.size+1,0,none⟩=some (.int .i64 qa)∧w'.cell? ⟨w.heap.size+1,1,none⟩=some (.int .i64 qb)∧w'.cell? ⟨w.heap.size+1,2,none⟩=some (.int .i64 qc)∧w'.cell? ⟨w.heap.size+1,3,none⟩=some (.int .i64 qd))∧(w'.cell? ⟨w.heap.size+1+1,0,none⟩=some (.int .i64 ra)∧w'.cell? ⟨w.heap.size+1+1,1,none⟩=some (.int .i64 rb)∧w'.cell? ⟨w.heap.size+1+1,2,none⟩=some (.int .i64 rc)∧w'.cell? ⟨w.heap.size+1+1,3,none⟩=some (.int .i64 rd))) (by kernel_rfl) (by exact ⟨⟨p0,p1,p2,p3⟩,⟨q0,q1,q2,q3⟩,⟨r0,r1,r2,r3⟩⟩) (fun hHeld => ?_);refine take_heldS (i:=0) (d:=20) rfl rfl ?_;try simp only [Act.put,ly3]
  refine take_heldS (i:=2) (d:=22) rfl rfl ?_;try simp only [Act.put,ly3]
  refine take_heldS (i:=4) (d:=24) rfl rfl ?_;try simp only [Act.put,ly3]
  refine wpAnyH_ready (rs := [1]) (by kernel_rfl) (by simp) ?_;refine AllReadyH.cons rfl (fun K hK => ?_) AllReadyH.nil;go_simp
  (with_reducible refine (l11Line_any _ _ _ _ _).mono ?_); rintro e v1 ⟨rfl,hb1⟩; have H1b:=Lib.hid (below_then (below_dr (Below.refl w3.heap.size w3)) hb1);refine hK.out _ _ (by exact ⟨⟨(H1b.out.cell (by exact hpl)).trans p0,(H1b.out.cell (by exact hpl)).trans p1,(H1b.out.cell (by exact hpl)).trans p2,(H1b.out.cell (by exact hpl)).trans p3⟩,⟨(H1b.out.cell (by exact hql)).trans q0,(H1b.out.cell (by exact hql)).trans q1,(H1b.out.cell (by exact hql)).trans q2,(H1b.out.cell (by exact hql)).trans q3⟩,⟨(H1b.out.cell (by exact hrl)).trans r0,(H1b.out.cell (by exact hrl)).trans r1,(H1b.out.cell (by exact hrl)).trans r2,(H1b.out.cell (by exact hrl)).trans r3⟩⟩) (fun hHeld => ?_);clear hK K;try simp only [Act.put,ly3]
  refine wpAnyH_ready (rs := [3]) (by kernel_rfl) (by simp) ?_;refine AllReadyH.cons rfl (fun K hK => ?_) AllReadyH.nil;go_simp
  (with_reducible refine (l11Line_any _ _ _ _ _).mono ?_); rintro e v3 ⟨rfl,hb3⟩; have H3b:=Lib.hid (below_then H1b.out hb3);refine hK.out _ _ (by exact ⟨⟨(H3b.out.cell (by exact hpl)).trans p0,(H3b.out.cell (by exact hpl)).trans p1,(H3b.out.cell (by exact hpl)).trans p2,(H3b.out.cell (by exact hpl)).trans p3⟩,⟨(H3b.out.cell (by exact hql)).trans q0,(H3b.out.cell (by exact hql)).trans q1,(H3b.out.cell (by exact hql)).trans q2,(H3b.out.cell (by exact hql)).trans q3⟩,⟨(H3b.out.cell (by exact hrl)).trans r0,(H3b.out.cell (by exact hrl)).trans r1,(H3b.out.cell (by exact hrl)).trans r2,(H3b.out.cell (by exact hrl)).trans r3⟩⟩) (fun hHeld => ?_);clear hK K;try simp only [Act.put,ly3]
  refine wpAnyH_ready (rs := [5]) (by kernel_rfl) (by simp) ?_;refine AllReadyH.cons rfl (fun K hK => ?_) AllReadyH.nil;go_simp
  (with_reducible refine (l11Line_any _ _ _ _ _).mono ?_); rintro e v5 ⟨rfl,hb5⟩; have H5b:=Lib.hid (below_then H3b.out hb5);refine hK.out _ _ (by exact ⟨⟨(H5b.out.cell (by exact hpl)).trans p0,(H5b.out.cell (by exact hpl)).trans p1,(H5b.out.cell (by exact hpl)).trans p2,(H5b.out.cell (by exact hpl)).trans p3⟩,⟨(H5b.out.cell (by exact hql)).trans q0,(H5b.out.cell (by exact hql)).trans q1,(H5b.out.cell (by exact hql)).trans q2,(H5b.out.cell (by exact hql)).trans q3⟩,⟨(H5b.out.cell (by exact hrl)).trans r0,(H5b.out.cell (by exact hrl)).trans r1,(H5b.out.cell (by exact hrl)).trans r2,(H5b.out.cell (by exact hrl)).trans r3⟩⟩) (fun hHeld => ?_);clear hK K;try simp only [Act.put,ly3]
  refine wpAnyH_ready (rs := [6]) (by kernel_rfl) (by simp) ?_;refine AllReadyH.cons rfl (fun K hK => ?_) AllReadyH.nil;go_simp
  (with_reducible refine (l11Det_any _ _ _ _ _ _ _ _ _ _ HD.out).mono ?_); rintro e v6 ⟨rfl,hb6⟩; have H6b:=Lib.hid (below_then H5b.out hb6);refine hK.out _ _ (by exact ⟨⟨(H6b.out.cell (by exact hpl)).trans p0,(H6b.out.cell (by exact hpl)).trans p1,(H6b.out.cell (by exact hpl)).trans p2,(H6b.out.cell (by exact hpl)).trans p3⟩,⟨(H6b.out.cell (by exact hql)).trans q0,(H6b.out.cell (by exact hql)).trans q1,(H6b.out.cell (by exact hql)).trans q2,(H6b.out.cell (by exact hql)).trans q3⟩,⟨(H6b.out.cell (by exact hrl)).trans r0,(H6b.out.cell (by exact hrl)).trans r1,(H6b.out.cell (by exact hrl)).trans r2,(H6b.out.cell (by exact hrl)).trans r3⟩⟩) (fun hHeld => ?_);clear hK K;try simp only [Act.put,ly3]
  refine take_heldS (i:=7) (d:=6) rfl rfl ?_;try simp only [Act.put,ly3]
  refine wpAnyH_done (by kernel_rfl) ?_ _;have HB9:=Lib.hid (below_then HR3.out.below H6b.out);go_wp2;go_ret;exact ⟨ret_int HF.out.symm,HB9.out⟩
def solB (pa pb pc pd qa qb qc qd ra rb rc rd:Int):Bool:=mkB (det9 pd pb pc qd qb qc rd rb rc) (det9 pa pd pc qa qd qc ra rd rc) (det9 pa pb pd qa qb qd ra rb rd) (solD pa pb pc pd qa qb qc qd ra rb rc rd)
def solI (pa pb pc pd qa qb qc qd ra rb rc rd x:Int):Int:=mkI (det9 pd pb pc qd qb qc rd rb rc) (det9 pa pd pc qa qd qc ra rd rc) (det9 pa pb pd qa qb qd ra rb rd) (solD pa pb pc pd qa qb qc qd ra rb rc rd) x
def solV (pa pb pc pd qa qb qc qd ra rb rc rd:Int):Value:=mkV (det9 pd pb pc qd qb qc rd rb rc) (det9 pa pd pc qa qd qc ra rd rc) (det9 pa pb pd qa qb qd ra rb rd) (solD pa pb pc pd qa qb qc qd ra rb rc rd)
theorem solV_0 {pa pb pc pd qa qb qc qd ra rb rc rd:Int} (h:solD pa pb pc pd qa qb qc qd ra rb rc rd=0):solV pa pb pc pd qa qb qc qd ra rb rc rd=thrV 0 0 0 0 false:=mkV_f (mkB_0 _ _ _ h)
theorem solD_ne {pa pb pc pd qa qb qc qd ra rb rc rd:Int} (h:¬ solD pa pb pc pd qa qb qc qd ra rb rc rd=0):rowB pa pb pc pd=true∧rowB qa qb qc qd=true∧rowB ra rb rc rd=true:=by
 cases e:solOk pa pb pc pd qa qb qc qd ra rb rc rd
 ·exact absurd (solD_f e) h
 ·simp only [solOk,Bool.and_eq_true] at e
  exact ⟨e.1,e.2.1,e.2.2⟩
set_option maxRecDepth 100000 in
set_option maxHeartbeats 3200000 in
theorem sSolve_any (pa pb pc pd qa qb qc qd ra rb rc rd:Int) (w:World) :
  Calls Tryzx.prog 95 #[.agg #[.int .i64 pa,.int .i64 pb,.int .i64 pc,.int .i64 pd],.agg #[.int .i64 qa,.int .i64 qb,.int .i64 qc,.int .i64 qd],.agg #[.int .i64 ra,.int .i64 rb,.int .i64 rc,.int .i64 rd]] w fun e w'=>e = .returned (solV pa pb pc pd qa qb qc qd ra rb rc rd)∧Below w.heap.size w w':=by
 have HR:=Lib.hid (R3.start w pa pb pc pd qa qb qc qd ra rb rc rd 133);have HV:Hid (RowF ((((w.alloc (.cells #[.int .i64 pa,.int .i64 pb,.int .i64 pc,.int .i64 pd] 133)).alloc (.cells #[.int .i64 qa,.int .i64 qb,.int .i64 qc,.int .i64 qd] 133)).alloc (.cells #[.int .i64 ra,.int .i64 rb,.int .i64 rc,.int .i64 rd] 133)).alloc (.cells #[.int .i64 0,.int .i64 0,.int .i64 0,.int .i64 0] 66)) (w.heap.size+1+1+1) 66 4 (fun _ => .int .i64 0)):=by
  have h:=World.rowIs_alloc (((w.alloc (.cells #[.int .i64 pa,.int .i64 pb,.int .i64 pc,.int .i64 pd] 133)).alloc (.cells #[.int .i64 qa,.int .i64 qb,.int .i64 qc,.int .i64 qd] 133)).alloc (.cells #[.int .i64 ra,.int .i64 rb,.int .i64 rc,.int .i64 rd] 133)) #[.int .i64 0,.int .i64 0,.int .i64 0,.int .i64 0] 66 (fun _ => .int .i64 0) (fun i hi=>by simp at hi; match i,hi with | 0,_=>rfl | 1,_=>rfl | 2,_=>rfl | 3,_=>rfl)
  simp only [World.size_alloc] at h;exact Lib.hid (RowF.of_row h)
 have HR0:=Lib.hid (HR.out.after ((Below.refl _ _).alloc (Nat.le_refl _) (.cells #[.int .i64 0,.int .i64 0,.int .i64 0,.int .i64 0] 66)));clear HR;go_enter Tryzx.func95,Tryz.ntmps95;go_wp2_with fail
 refine (sDetOf_any _ _ _ _ _ _ _ _ _ _ _ _ _).mono ?_;rintro e w1 ⟨rfl,hb1⟩;have HR1:=Lib.hid (HR0.out.after hb1);have HV1:=Lib.hid (HV.out.after hb1);clear HR0 HV hb1;by_cases h0:solD pa pb pc pd qa qb qc qd ra rb rc rd=0
 ·have HF:=Lib.hid (solV_0 h0)
  rw [h0];have y0:w1.cell? ⟨w.heap.size+1+1+1,0,none⟩=some (.int .i64 0):=HV1.out.cell (i:=0) (by omega);have y1:w1.cell? ⟨w.heap.size+1+1+1,1,none⟩=some (.int .i64 0):=HV1.out.cell (i:=1) (by omega);have y2:w1.cell? ⟨w.heap.size+1+1+1,2,none⟩=some (.int .i64 0):=HV1.out.cell (i:=2) (by omega);have y3:w1.cell? ⟨w.heap.size+1+1+1,3,none⟩=some (.int .i64 0):=HV1.out.cell (i:=3) (by omega);have f0:=HV1.out.frozen 0;have f1:=HV1.out.frozen 1;have f2:=HV1.out.frozen 2;have f3:=HV1.out.frozen 3;have hs:=RowF.lt HV1.out;go_wp2;refine bodyPost_ret (v:=thrV 0 0 0 0 false) (by simp [thrV,results,Tryz.results95,go_sem, *]) rfl ?_;exact ⟨by rw [HF.out],below_set4 HR1.out.below (by omega) _ _ _ _⟩
 ·obtain ⟨g1,g2,g3⟩:=solD_ne h0
  have HD:=Lib.hid (rows_det g1 g2 g3).2;have HVV:Hid (solV pa pb pc pd qa qb qc qd ra rb rc rd=mkV (det9 pd pb pc qd qb qc rd rb rc) (det9 pa pd pc qa qd qc ra rd rc) (det9 pa pb pd qa qb qd ra rb rd) (solD pa pb pc pd qa qb qc qd ra rb rc rd)):=rfl;obtain ⟨D,hD⟩:∃ D,solD pa pb pc pd qa qb qc qd ra rb rc rd=D:=⟨_,rfl⟩;rw [hD] at h0 HVV ⊢;have hd0:(D == 0)=false:=by simp [h0]
  clear g1 g2 g3 hD;obtain ⟨p0,p1,p2,p3⟩:=HR1.out.p.1;obtain ⟨q0,q1,q2,q3⟩:=HR1.out.q.1;obtain ⟨r0,r1,r2,r3⟩:=HR1.out.r.1;go_wp2_with fail
  refine (l11Det_any _ _ _ _ _ _ _ _ _ _ HD.out.1).mono ?_;rintro e w2 ⟨rfl,hb2⟩;have HR2:=Lib.hid (HR1.out.after hb2);have HV2:=Lib.hid (HV1.out.after hb2);clear HR1 HV1 hb2 p0 p1 p2 p3 q0 q1 q2 q3 r0 r1 r2 r3;obtain ⟨p0,p1,p2,p3⟩:=HR2.out.p.1;obtain ⟨q0,q1,q2,q3⟩:=HR2.out.q.1;obtain ⟨r0,r1,r2,r3⟩:=HR2.out.r.1;go_wp2_with fail
  refine (l11Det_any _ _ _ _ _ _ _ _ _ _ HD.out.2.1).mono ?_;rintro e w3 ⟨rfl,hb3⟩;have HR3:=Lib.hid (HR2.out.after hb3);have HV3:=Lib.hid (HV2.out.after hb3);clear HR2 HV2 hb3 p0 p1 p2 p3 q0 q1 q2 q3 r0 r1 r2 r3;obtain ⟨p0,p1,p2,p3⟩:=HR3.out.p.1;obtain ⟨q0,q1,q2,q3⟩:=HR3.out.q.1;obtain ⟨r0,r1,r2,r3⟩:=HR3.out.r.1;go_wp2_with fail
  refine (l11Det_any _ _ _ _ _ _ _ _ _ _ HD.out.2.2).mono ?_;rintro e w4 ⟨rfl,hb4⟩;have HR4:=Lib.hid (HR3.out.after hb4);have HV4:=Lib.hid (HV3.out.after hb4);clear HR3 HV3 hb4 p0 p1 p2 p3 q0 q1 q2 q3 r0 r1 r2 r3;go_wp2_with fail
  refine (sMake_any _ _ _ _ _).mono ?_;rintro e w5 ⟨rfl,hb5⟩;have HB5:=Lib.hid (HR4.out.below.trans (hb5.mono HR4.out.below.size));have HV5:=Lib.hid (HV4.out.after hb5);clear HR4 HV4 hb5;have HW:Hid (mkV (det9 pd pb pc qd qb qc rd rb rc) (det9 pa pd pc qa qd qc ra rd rc) (det9 pa pb pd qa qb qd ra rb rd) D=thrV (mkI (det9 pd pb pc qd qb qc rd rb rc) (det9 pa pd pc qa qd qc ra rd rc) (det9 pa pb pd qa qb qd ra rb rd) D (det9 pd pb pc qd qb qc rd rb rc)) (mkI (det9 pd pb pc qd qb qc rd rb rc) (det9 pa pd pc qa qd qc ra rd rc) (det9 pa pb pd qa qb qd ra rb rd) D (det9 pa pd pc qa qd qc ra rd rc)) (mkI (det9 pd pb pc qd qb qc rd rb rc) (det9 pa pd pc qa qd qc ra rd rc) (det9 pa pb pd qa qb qd ra rb rd) D (det9 pa pb pd qa qb qd ra rb rd)) (mkI (det9 pd pb pc qd qb qc rd rb rc) (det9 pa pd pc qa qd qc ra rd rc) (det9 pa pb pd qa qb qd ra rb rd) D D) (mkB (det9 pd pb pc qd qb qc rd rb rc) (det9 pa pd pc qa qd qc ra rd rc) (det9 pa pb pd qa qb qd ra rb rd) D)):=rfl;rw [HW.out] at HVV ⊢;generalize mkI (det9 pd pb pc qd qb qc rd rb rc) (det9 pa pd pc qa qd qc ra rd rc) (det9 pa pb pd qa qb qd ra rb rd) D (det9 pd pb pc qd qb qc rd rb rc)=m0 at *
  generalize mkI (det9 pd pb pc qd qb qc rd rb rc) (det9 pa pd pc qa qd qc ra rd rc) (det9 pa pb pd qa qb qd ra rb rd) D (det9 pa pd pc qa qd qc ra rd rc)=m1 at *
  generalize mkI (det9 pd pb pc qd qb qc rd rb rc) (det9 pa pd pc qa qd qc ra rd rc) (det9 pa pb pd qa qb qd ra rb rd) D (det9 pa pb pd qa qb qd ra rb rd)=m2 at *
  generalize mkI (det9 pd pb pc qd qb qc rd rb rc) (det9 pa pd pc qa qd qc ra rd rc) (det9 pa pb pd qa qb qd ra rb rd) D D=m3 at *
  generalize mkB (det9 pd pb pc qd qb qc rd rb rc) (det9 pa pd pc qa qd qc ra rd rc) (det9 pa pb pd qa qb qd ra rb rd) D=mb at *
  clear HW HD;have y0:w5.cell? ⟨w.heap.size+1+1+1,0,none⟩=some (.int .i64 0):=HV5.out.cell (i:=0) (by omega);have y1:w5.cell? ⟨w.heap.size+1+1+1,1,none⟩=some (.int .i64 0):=HV5.out.cell (i:=1) (by omega);have y2:w5.cell? ⟨w.heap.size+1+1+1,2,none⟩=some (.int .i64 0):=HV5.out.cell (i:=2) (by omega);have y3:w5.cell? ⟨w.heap.size+1+1+1,3,none⟩=some (.int .i64 0):=HV5.out.cell (i:=3) (by omega);have f0:=HV5.out.frozen 0;have f1:=HV5.out.frozen 1;have f2:=HV5.out.frozen 2;have f3:=HV5.out.frozen 3;have hs:=RowF.lt HV5.out;simp only [thrV];go_wp2;refine bodyPost_ret (v:=thrV m0 m1 m2 m3 mb) (by simp [thrV,results,Tryz.results95,go_sem, *]) rfl ?_;exact ⟨by rw [HVV.out],below_set4 HB5.out (by omega) _ _ _ _⟩
end X
namespace X
open Go.RowKit
def hasAt (xs:List Int) (H V M D:Int) (k:Nat):Bool:=decide (nth xs (k*4)=H) && (decide (nth xs (k*4+1)=V) && (decide (nth xs (k*4+2)=M) && decide (nth xs (k*4+3)=D)))
def hasTo (xs:List Int) (H V M D:Int):Nat→Bool
 | 0=>false
 | k+1=>hasTo xs H V M D k || hasAt xs H V M D k
theorem hasTo_mem {xs:List Int} {H V M D:Int} {k:Nat} (h:hasAt xs H V M D k=true):∀ {n:Nat},k<n→hasTo xs H V M D n=true
 | n+1,hk=>by
  by_cases e:k=n
  ·subst e; simp [hasTo,h]
  ·simp [hasTo,hasTo_mem h (n:=n) (by omega)]
theorem hasTo_step {xs:List Int} {H V M D:Int} {k:Nat} (h0:hasTo xs H V M D k=false) (h:hasAt xs H V M D k=false):hasTo xs H V M D (k+1)=false:=by simp [hasTo,h0,h]
section
variable (rs : List Int) (n : Nat)
def crB (i k m:Nat):Bool:=solB (nth rs (i*4)) (nth rs (i*4+1)) (nth rs (i*4+2)) (nth rs (i*4+3)) (nth rs (k*4)) (nth rs (k*4+1)) (nth rs (k*4+2)) (nth rs (k*4+3)) (nth rs (m*4)) (nth rs (m*4+1)) (nth rs (m*4+2)) (nth rs (m*4+3))
def crI (i k m:Nat) (x:Int):Int:=solI (nth rs (i*4)) (nth rs (i*4+1)) (nth rs (i*4+2)) (nth rs (i*4+3)) (nth rs (k*4)) (nth rs (k*4+1)) (nth rs (k*4+2)) (nth rs (k*4+3)) (nth rs (m*4)) (nth rs (m*4+1)) (nth rs (m*4+2)) (nth rs (m*4+3)) x
def crH (i k m:Nat):Int:=crI rs i k m (det9 (nth rs (i*4+3)) (nth rs (i*4+1)) (nth rs (i*4+2)) (nth rs (k*4+3)) (nth rs (k*4+1)) (nth rs (k*4+2)) (nth rs (m*4+3)) (nth rs (m*4+1)) (nth rs (m*4+2)))
def crV (i k m:Nat):Int:=crI rs i k m (det9 (nth rs (i*4)) (nth rs (i*4+3)) (nth rs (i*4+2)) (nth rs (k*4)) (nth rs (k*4+3)) (nth rs (k*4+2)) (nth rs (m*4)) (nth rs (m*4+3)) (nth rs (m*4+2)))
def crM (i k m:Nat):Int:=crI rs i k m (det9 (nth rs (i*4)) (nth rs (i*4+1)) (nth rs (i*4+3)) (nth rs (k*4)) (nth rs (k*4+1)) (nth rs (k*4+3)) (nth rs (m*4)) (nth rs (m*4+1)) (nth rs (m*4+3)))
def crD (i k m:Nat):Int:=crI rs i k m (solD (nth rs (i*4)) (nth rs (i*4+1)) (nth rs (i*4+2)) (nth rs (i*4+3)) (nth rs (k*4)) (nth rs (k*4+1)) (nth rs (k*4+2)) (nth rs (k*4+3)) (nth rs (m*4)) (nth rs (m*4+1)) (nth rs (m*4+2)) (nth rs (m*4+3)))
theorem crV_eq (i k m:Nat):solV (nth rs (i*4)) (nth rs (i*4+1)) (nth rs (i*4+2)) (nth rs (i*4+3)) (nth rs (k*4)) (nth rs (k*4+1)) (nth rs (k*4+2)) (nth rs (k*4+3)) (nth rs (m*4)) (nth rs (m*4+1)) (nth rs (m*4+2)) (nth rs (m*4+3))=thrV (crH rs i k m) (crV rs i k m) (crM rs i k m) (crD rs i k m) (crB rs i k m):=rfl
theorem cr_thr {i k m:Nat} (h:crB rs i k m=true):thrB (crH rs i k m) (crV rs i k m) (crM rs i k m) (crD rs i k m)=true:=mkI_thr h
def metAt (H V M D:Int) (x:Nat):Bool:=metB (nth rs (x*4)) (nth rs (x*4+1)) (nth rs (x*4+2)) (nth rs (x*4+3)) H V M D
def crAll (i k m:Nat):Bool:=allB (metAt rs (crH rs i k m) (crV rs i k m) (crM rs i k m) (crD rs i k m)) n
def crHas (acc:List Int) (i k m:Nat):Bool:=hasTo acc (crH rs i k m) (crV rs i k m) (crM rs i k m) (crD rs i k m) (acc.length / 4)
def crStep (i k m:Nat) (acc:List Int):List Int:=if (crB rs i k m && (!crHas rs acc i k m && crAll rs n i k m))=true then acc ++ [crH rs i k m,crV rs i k m,crM rs i k m,crD rs i k m] else acc
def foldN (f:Nat→List Int→List Int):Nat→List Int→List Int
 | 0,a=>a
 | j+1,a=>f j (foldN f j a)
def corM (i k:Nat) (acc:List Int) (t:Nat):List Int:=foldN (fun j a=>crStep rs n i k (k+1+j) a) t acc
def corK (i:Nat) (acc:List Int) (t:Nat):List Int:=foldN (fun j a=>corM rs n i (i+1+j) a (n - (i+1+j+1))) t acc
def corI (t:Nat):List Int:=foldN (fun i a=>corK rs n i a (n - (i+1))) t []
def cornB:Bool:=allB (rowAt rs) n && inB (n:Int) 3 20
def cornL:List Int:=if cornB rs n=true then corI rs n n else []
end
variable {rs : List Int} {n : Nat}
theorem crStep_t {i k m:Nat} {acc:List Int} (h1:crB rs i k m=true) (h2:crHas rs acc i k m=false) (h3:crAll rs n i k m=true):crStep rs n i k m acc=acc ++ [crH rs i k m,crV rs i k m,crM rs i k m,crD rs i k m]:=by simp [crStep,h1,h2,h3]
theorem crStep_1 {i k m:Nat} (acc:List Int) (h:crB rs i k m=false):crStep rs n i k m acc=acc:=by simp [crStep,h]
theorem crStep_2 {i k m:Nat} {acc:List Int} (h:crHas rs acc i k m=true):crStep rs n i k m acc=acc:=by simp [crStep,h]
theorem crStep_3 {i k m:Nat} (acc:List Int) (h:crAll rs n i k m=false):crStep rs n i k m acc=acc:=by simp [crStep,h]
structure CrFacts (rs:List Int) (n i k m:Nat) (acc:List Int) (H V M D:Int) (B:Bool):Prop where
 thr:B=true→thrB H V M D=true
 no:B=false→crStep rs n i k m acc=acc
 has:hasTo acc H V M D (acc.length / 4)=true→crStep rs n i k m acc=acc
 all0:allB (metAt rs H V M D) n=false→crStep rs n i k m acc=acc
 yes:B=true→hasTo acc H V M D (acc.length / 4)=false→allB (metAt rs H V M D) n=true→crStep rs n i k m acc=acc ++ [H,V,M,D]
theorem crFacts (rs:List Int) (n i k m:Nat) (acc:List Int):CrFacts rs n i k m acc (crH rs i k m) (crV rs i k m) (crM rs i k m) (crD rs i k m) (crB rs i k m) :=
 ⟨cr_thr rs,crStep_1 acc,crStep_2,crStep_3 acc,crStep_t⟩
theorem cr_names (rs:List Int) (n i k m:Nat) (acc:List Int):∃ (H V M D:Int) (B:Bool),CrFacts rs n i k m acc H V M D B∧solV (nth rs (i*4)) (nth rs (i*4+1)) (nth rs (i*4+2)) (nth rs (i*4+3)) (nth rs (k*4)) (nth rs (k*4+1)) (nth rs (k*4+2)) (nth rs (k*4+3)) (nth rs (m*4)) (nth rs (m*4+1)) (nth rs (m*4+2)) (nth rs (m*4+3))=thrV H V M D B :=
 ⟨_,_,_,_,_,crFacts rs n i k m acc,crV_eq rs i k m⟩
theorem corM_s (i k:Nat) (acc:List Int) (t:Nat):corM rs n i k acc (t+1)=crStep rs n i k (k+1+t) (corM rs n i k acc t):=rfl
theorem corK_s (i:Nat) (acc:List Int) (t:Nat):corK rs n i acc (t+1)=corM rs n i (i+1+t) (corK rs n i acc t) (n - (i+1+t+1)):=rfl
theorem corI_s (t:Nat):corI rs n (t+1)=corK rs n t (corI rs n t) (n - (t+1)):=rfl
theorem cornL_f (h:cornB rs n=false):cornL rs n = []:=by simp [cornL,h]
theorem cornL_t (h:cornB rs n=true):cornL rs n=corI rs n n:=by simp [cornL,h]
theorem cornB_1 {k:Nat} (hk:k<n) (h:rowAt rs k=false):cornB rs n=false:=by simp [cornB,allB_f hk h]
theorem cornB_2 (h:inB (n:Int) 3 20=false):cornB rs n=false:=by simp [cornB,h]
theorem cornB_t (h:allTo (rowAt rs) n) (h2:inB (n:Int) 3 20=true):cornB rs n=true:=by simp [cornB,allB_t h,h2]
structure CorAcc (acc:List Int) (q b:Nat):Prop where
 len:acc.length=q*4
 few:q≤b
theorem crStep_acc {i k m:Nat} {acc:List Int} {q b:Nat} (h:CorAcc acc q b):∃ q',CorAcc (crStep rs n i k m acc) q' (b+1):=by
 unfold crStep;split
 ·exact ⟨q+1,by simp [h.len]; omega,by have:=h.few; omega⟩
 ·exact ⟨q,h.len,by have:=h.few; omega⟩
theorem corM_acc {i k:Nat} {acc:List Int} {q b:Nat} (h:CorAcc acc q b):∀ t,∃ q',CorAcc (corM rs n i k acc t) q' (b+t)
 | 0=>⟨q,h⟩
 | t+1=>by obtain ⟨q',h'⟩:=corM_acc h t; rw [corM_s]; exact crStep_acc h'
theorem corK_acc {i:Nat} {acc:List Int} {q b:Nat} (hn:n≤20) (h:CorAcc acc q b):∀ t,∃ q',CorAcc (corK rs n i acc t) q' (b+20*t)
 | 0=>⟨q,h⟩
 | t+1=>by
  obtain ⟨q',h'⟩:=corK_acc hn h t;obtain ⟨q2,h2⟩:=corM_acc (rs:=rs) (n:=n) (i:=i) (k:=i+1+t) h' (n - (i+1+t+1));rw [corK_s];exact ⟨q2,h2.len,by have:=h2.few; omega⟩
theorem corI_acc (hn:n≤20):∀ t,∃ q',CorAcc (corI rs n t) q' (400*t)
 | 0=>⟨0,rfl,Nat.le_refl _⟩
 | t+1=>by
  obtain ⟨q',h'⟩:=corI_acc hn t;obtain ⟨q2,h2⟩:=corK_acc (rs:=rs) (n:=n) (i:=t) hn h' (n - (t+1));rw [corI_s];exact ⟨q2,h2.len,by have:=h2.few; omega⟩
def cornN (rs:List Int) (n:Nat):Nat:=(cornL rs n).length / 4
theorem corn_acc (rs:List Int) (n:Nat):CorAcc (cornL rs n) (cornN rs n) 8000:=by
 cases e:cornB rs n
 ·rw [cornN,cornL_f e]; exact ⟨rfl,by simp⟩
 ·have hn:n≤20:=by simp only [cornB,Bool.and_eq_true,inB_iff] at e; omega
  obtain ⟨q,h⟩:=corI_acc (rs:=rs) hn n;rw [cornN,cornL_t e];have h1:=h.len;exact ⟨by omega,by have:=h.few; omega⟩
end X
namespace X
open Go.RowKit
theorem infoThr:(Tryzx.prog.info? 66).map (fun i=>(i.zero,i.size,i.bytes))=some (some (.agg #[.int .i64 0,.int .i64 0,.int .i64 0,.int .i64 0]),4,32):=by kernel_rfl
set_option maxRecDepth 100000 in
set_option maxHeartbeats 1600000 in
theorem l11Has_any (A:Option Addr) (n c:Nat) (xs:List Int) (H V M D:Int) (w:World) (h:RecsAt w w.heap.size 4 A n xs) (hn:n≤1048576) :
  Calls Tryzx.prog 96 #[.slice A n c,.agg #[.int .i64 H,.int .i64 V,.int .i64 M,.int .i64 D]] w fun e w'=>e = .returned (.bool (hasTo xs H V M D n))∧Below w.heap.size w w':=by
 have HL:=Lib.hid h;have BX:=Lib.hid (Box4.new w H V M D 66);have B0:=Lib.hid ((Below.refl w.heap.size w).alloc (Nat.le_refl _) (.cells #[.int .i64 H,.int .i64 V,.int .i64 M,.int .i64 D] 66));clear h;go_enter Tryzx.func96,Tryz.ntmps96;go_wp2;go_loopw [5] (fun i wr=>∃ k:Nat,k≤n∧i = .int .i64 k∧Hid (hasTo xs H V M D k=false)∧Hid (Box4 wr w.heap.size H V M D)∧Hid (Below w.heap.size w wr)) (fun i _=>n - (intOf i).toNat)
 case atStart=>exact ⟨0,Nat.zero_le _,rfl,Lib.hid rfl,BX,B0⟩
 case round =>
  clear BX B0;obtain ⟨k,hk,rfl,HP,HX,HB⟩:=hrel;by_cases hlt:k<n
  ·obtain ⟨b,off,rfl,hbB,hc⟩:=HL.out.2 (by omega)
   obtain ⟨x0,x1,x2,x3⟩:=rwCells (fun i hi=>(HB.out.cell (by exact hbB)).trans (hc i hi)) hlt;have HT:=Lib.hid (fun e=>hasTo_mem (xs:=xs) (H:=H) (V:=V) (M:=M) (D:=D) e hlt);have HS:=Lib.hid (fun e=>hasTo_step HP.out (k:=k) e);have HE:Hid (hasAt xs H V M D k=(decide (nth xs (k*4)=H) && (decide (nth xs (k*4+1)=V) && (decide (nth xs (k*4+2)=M) && decide (nth xs (k*4+3)=D))))):=rfl;clear hc;generalize nth xs (k*4)=y0 at *
   generalize nth xs (k*4+1)=y1 at *
   generalize nth xs (k*4+2)=y2 at *
   generalize nth xs (k*4+3)=y3 at *
   obtain ⟨c0,c1,c2,c3⟩:=HX.out.1;have ki:(k:Int)<(n:Int):=by omega
   by_cases e0:y0=H
   rotate_left
   ·have HS1:=Lib.hid (HS.out (HE.out.trans (by simp [e0])))
    go_wp2;go_region
    go_wp2;go_roundw
    case rel=>exact ⟨k+1,by omega,by go_num,HS1,HX.out.after (below_dr (Below.refl _ _)) |> Lib.hid,Lib.hid (below_dr HB.out)⟩
    case measure=>simp [intOf]; omega
   by_cases e1:y1=V
   rotate_left
   ·have HS1:=Lib.hid (HS.out (HE.out.trans (by simp [e0,e1])))
    go_wp2;go_region
    go_wp2;go_roundw
    case rel=>exact ⟨k+1,by omega,by go_num,HS1,HX.out.after (below_dr (Below.refl _ _)) |> Lib.hid,Lib.hid (below_dr HB.out)⟩
    case measure=>simp [intOf]; omega
   by_cases e2:y2=M
   rotate_left
   ·have HS1:=Lib.hid (HS.out (HE.out.trans (by simp [e0,e1,e2])))
    go_wp2;go_region
    go_wp2;go_roundw
    case rel=>exact ⟨k+1,by omega,by go_num,HS1,HX.out.after (below_dr (Below.refl _ _)) |> Lib.hid,Lib.hid (below_dr HB.out)⟩
    case measure=>simp [intOf]; omega
   by_cases e3:y3=D
   rotate_left
   ·have HS1:=Lib.hid (HS.out (HE.out.trans (by simp [e0,e1,e2,e3])))
    go_wp2;go_region
    go_wp2;go_roundw
    case rel=>exact ⟨k+1,by omega,by go_num,HS1,HX.out.after (below_dr (Below.refl _ _)) |> Lib.hid,Lib.hid (below_dr HB.out)⟩
    case measure=>simp [intOf]; omega
   have HT1:=Lib.hid (HT.out (HE.out.trans (by simp [e0,e1,e2,e3])));go_wp2;go_region
   go_wp2;go_ret;exact ⟨ret_bool HT1.out.symm,below_dr HB.out⟩
  ·obtain rfl:k=n:=by omega
   go_wp2;go_ret;exact ⟨ret_bool HP.out.symm,HB.out⟩
theorem keep12 {w1 w2:World} {b off i k m:Nat} {pa pb pc pd qa qb qc qd ra rb rc rd:Int} (h:(w1.cell? ⟨b,off+i*4,none⟩=some (.int .i64 pa)∧w1.cell? ⟨b,off+i*4+1,none⟩=some (.int .i64 pb)∧w1.cell? ⟨b,off+i*4+2,none⟩=some (.int .i64 pc)∧w1.cell? ⟨b,off+i*4+3,none⟩=some (.int .i64 pd))∧(w1.cell? ⟨b,off+k*4,none⟩=some (.int .i64 qa)∧w1.cell? ⟨b,off+k*4+1,none⟩=some (.int .i64 qb)∧w1.cell? ⟨b,off+k*4+2,none⟩=some (.int .i64 qc)∧w1.cell? ⟨b,off+k*4+3,none⟩=some (.int .i64 qd))∧(w1.cell? ⟨b,off+m*4,none⟩=some (.int .i64 ra)∧w1.cell? ⟨b,off+m*4+1,none⟩=some (.int .i64 rb)∧w1.cell? ⟨b,off+m*4+2,none⟩=some (.int .i64 rc)∧w1.cell? ⟨b,off+m*4+3,none⟩=some (.int .i64 rd))) (e:∀ x,w2.cell? ⟨b,x,none⟩=w1.cell? ⟨b,x,none⟩) :
  (w2.cell? ⟨b,off+i*4,none⟩=some (.int .i64 pa)∧w2.cell? ⟨b,off+i*4+1,none⟩=some (.int .i64 pb)∧w2.cell? ⟨b,off+i*4+2,none⟩=some (.int .i64 pc)∧w2.cell? ⟨b,off+i*4+3,none⟩=some (.int .i64 pd))∧(w2.cell? ⟨b,off+k*4,none⟩=some (.int .i64 qa)∧w2.cell? ⟨b,off+k*4+1,none⟩=some (.int .i64 qb)∧w2.cell? ⟨b,off+k*4+2,none⟩=some (.int .i64 qc)∧w2.cell? ⟨b,off+k*4+3,none⟩=some (.int .i64 qd))∧(w2.cell? ⟨b,off+m*4,none⟩=some (.int .i64 ra)∧w2.cell? ⟨b,off+m*4+1,none⟩=some (.int .i64 rb)∧w2.cell? ⟨b,off+m*4+2,none⟩=some (.int .i64 rc)∧w2.cell? ⟨b,off+m*4+3,none⟩=some (.int .i64 rd)):=by
 simp only [e];exact h
set_option maxRecDepth 100000 in
set_option maxHeartbeats 6400000 in
theorem sCorners_any (A:Option Addr) (n c:Nat) (rs:List Int) (w:World) (h:RecsAt w w.heap.size 4 A n rs) (hn:n≤1048576) :
  Calls Tryzx.prog 68 #[.slice A n c] w fun e w'=>∃ v,e = .returned v∧OwnR w' w.heap.size 66 4 v (cornN rs n) (cornL rs n)∧Below w.heap.size w w':=by
 have HL:=Lib.hid h;have HO0:=Lib.hid (OwnR.new w 66 4);have HB0:=Lib.hid ((Below.refl w.heap.size w).alloc (Nat.le_refl _) (.cells #[] 66));have HCF:Hid (cornB rs n=false→cornN rs n=0∧cornL rs n = []):=Lib.hid fun e=>by rw [cornN,cornL_f e]; exact ⟨rfl,rfl⟩
 clear h;go_enter Tryzx.func68,Tryz.ntmps68;go_wp2;go_loopw [4] (fun v4 wr=>∃ k:Nat,k≤n∧v4 = .int .i64 k∧Hid (allTo (rowAt rs) k)∧Hid (OwnR wr w.heap.size 66 4 (.slice (some ⟨w.heap.size,0,none⟩) 0 0) 0 [])∧Hid (Below w.heap.size w wr)) (fun v4 _=>n - (intOf v4).toNat)
 case atStart=>exact ⟨0,Nat.zero_le _,rfl,Lib.hid (allTo_0 _),HO0,HB0⟩
 case round =>
  clear HO0 HB0;obtain ⟨k,hk,rfl,HP,HO,HB⟩:=hrel;by_cases hlt:k<n
  ·obtain ⟨b,off,rfl,hbB,hc⟩:=HL.out.2 (by omega)
   obtain ⟨x0,x1,x2,x3⟩:=rwCells (fun i hi=>(HB.out.cell (by exact hbB)).trans (hc i hi)) hlt;have HR:=Lib.hid (show rowAt rs k=rowB (nth rs (k*4)) (nth rs (k*4+1)) (nth rs (k*4+2)) (nth rs (k*4+3)) from rfl);have ki:(k:Int)<(n:Int):=by omega
   clear hc;go_wp2_with fail
   refine (sRowOk_any _ _ _ _ _).mono ?_;rw [← HR.out];rintro e w1 ⟨rfl,hb1⟩;have HO1:=Lib.hid (HO.out.below hb1);have HB1:=Lib.hid (below_then HB.out hb1);clear hb1 x0 x1 x2 x3 HO HB;cases hr:rowAt rs k
   ·obtain ⟨e1,e2⟩:=HCF.out (cornB_1 hlt hr)
    go_wp2;go_ret;exact ⟨_,rfl,by rw [e1,e2]; exact HO1.out,HB1.out⟩
   ·have HS:=Lib.hid (allTo_step HP.out hr)
    go_wp2;go_roundw
    case rel=>exact ⟨k+1,by omega,by go_num,HS,HO1,HB1⟩
    case measure=>simp [intOf]; omega
  ·obtain rfl:n=k:=by omega
   have kn:¬ (n:Int)<(n:Int):=by omega
   go_wp2_with fail
   refine (l01In_any _ _ _ _).mono ?_;cases hin:inB (n:Int) 3 20
   ·obtain ⟨e1,e2⟩:=HCF.out (cornB_2 hin)
    rintro e w1 ⟨rfl,rfl⟩;go_wp2;go_ret;exact ⟨_,rfl,by rw [e1,e2]; exact HO.out,HB.out⟩
   have HCT:=Lib.hid (cornB_t HP.out hin);have h20:n≤20:=by rw [inB_iff] at hin; omega
   rintro e w1 ⟨rfl,rfl⟩;have HP0:=HP.out;clear HP hin hk hlt HCF;go_wp2;go_loopw [3,5] (fun v3 v5 wr=>∃ i q:Nat,i≤n∧v5 = .int .i64 i∧Hid (CorAcc (corI rs n i) q (400*i))∧Hid (OwnR wr w.heap.size 66 4 v3 q (corI rs n i))∧Hid (Below w.heap.size w wr)) (fun _ v5 _=>n - (intOf v5).toNat)
   case atStart=>exact ⟨0,0,Nat.zero_le _,rfl,Lib.hid ⟨rfl,Nat.le_refl _⟩,HO,HB⟩
   case round =>
    clear HO HB;obtain ⟨i,q,hi,rfl,HA,HO,HB⟩:=hrel;by_cases hli:i<n
    ·have HI1:=Lib.hid (show corI rs n (i+1)=corK rs n i (corI rs n i) (n - (i+1)) from corI_s i)
     obtain ⟨a2,ha2⟩:∃ a,corI rs n i=a:=⟨_,rfl⟩;rw [ha2] at HA HO HI1;clear ha2;have ii:(i:Int)<(n:Int):=by omega
     have ei:IntKind.i64.wrap ((i:Int)+1)=(i:Int)+1:=IntWalk.i64_in _ (by omega);go_wp2;go_loopw [3,6] (fun v3 v6 wr=>∃ t q:Nat,i+1+t≤n∧v6 = .int .i64 ((i:Int)+1+t)∧Hid (CorAcc (corK rs n i a2 t) q (400*i+20*t))∧Hid (OwnR wr w.heap.size 66 4 v3 q (corK rs n i a2 t))∧Hid (Below w.heap.size w wr)) (fun _ v6 _=>n - (intOf v6).toNat)
     case atStart=>exact ⟨0,q,by omega,by simp,HA,HO,HB⟩
     case round =>
      clear HA HO HB;obtain ⟨t,q,hk,rfl,HA,HO,HB⟩:=hrel;by_cases hlk:i+1+t<n
      ·have HK1:=Lib.hid (show corK rs n i a2 (t+1)=corM rs n i (i+1+t) (corK rs n i a2 t) (n - (i+1+t+1)) from corK_s i a2 t)
       obtain ⟨a3,ha3⟩:∃ a,corK rs n i a2 t=a:=⟨_,rfl⟩;rw [ha3] at HA HO HK1;obtain ⟨k,ek⟩:∃ k,i+1+t=k:=⟨_,rfl⟩;have ek':(i:Int)+1+(t:Int)=(k:Int):=by omega
       rw [ek] at HK1 hlk;rw [ek'];have kk:(k:Int)<(n:Int):=by omega
       have ekk:IntKind.i64.wrap ((k:Int)+1)=(k:Int)+1:=IntWalk.i64_in _ (by omega);clear ha3;go_wp2;go_loopw [3,7] (fun v3 v7 wr=>∃ j q:Nat,k+1+j≤n∧v7 = .int .i64 ((k:Int)+1+j)∧Hid (CorAcc (corM rs n i k a3 j) q (400*i+20*t+j))∧Hid (OwnR wr w.heap.size 66 4 v3 q (corM rs n i k a3 j))∧Hid (Below w.heap.size w wr)) (fun _ v7 _=>n - (intOf v7).toNat)
       case atStart=>exact ⟨0,q,by omega,by simp,HA,HO,HB⟩
       case round =>
        clear HA HO HB;obtain ⟨j,q,hm,rfl,HA,HO,HB⟩:=hrel;by_cases hlm:k+1+j<n
        ·have HM1:=Lib.hid (show corM rs n i k a3 (j+1)=crStep rs n i k (k+1+j) (corM rs n i k a3 j) from corM_s i k a3 j)
         obtain ⟨a4,ha4⟩:∃ a,corM rs n i k a3 j=a:=⟨_,rfl⟩;rw [ha4] at HA HO HM1;obtain ⟨m,em⟩:∃ m,k+1+j=m:=⟨_,rfl⟩;have em':(k:Int)+1+(j:Int)=(m:Int):=by omega
         rw [em] at HM1 hlm;rw [em'];have mm:(m:Int)<(n:Int):=by omega
         have emm:IntKind.i64.wrap ((m:Int)+1)=(m:Int)+1:=IntWalk.i64_in _ (by omega);clear ha4;obtain ⟨b,off,rfl,hbB,hc⟩:=HL.out.2 (by omega);have hc':∀ x,x<n*4→wr.cell? ⟨b,off+x,none⟩=some (.int .i64 (nth rs x)):=fun x hx=>(HB.out.cell (by exact hbB)).trans (hc x hx)
         obtain ⟨x0,x1,x2,x3⟩:=rwCells hc' hli;obtain ⟨y0,y1,y2,y3⟩:=rwCells hc' hlk;obtain ⟨z0,z1,z2,z3⟩:=rwCells hc' hlm;clear hc hc';have hbk:b<wr.heap.size:=Nat.lt_of_lt_of_le hbB HB.out.size;obtain ⟨H,V,M,D,B,hcf,hve⟩:=cr_names rs n i k m a4;generalize nth rs (i*4)=pa at *
         generalize nth rs (i*4+1)=pb at *
         generalize nth rs (i*4+2)=pc at *
         generalize nth rs (i*4+3)=pd at *
         generalize nth rs (k*4)=qa at *
         generalize nth rs (k*4+1)=qb at *
         generalize nth rs (k*4+2)=qc at *
         generalize nth rs (k*4+3)=qd at *
         generalize nth rs (m*4)=ra at *
         generalize nth rs (m*4+1)=rb at *
         generalize nth rs (m*4+2)=rc at *
         generalize nth rs (m*4+3)=rd at *
         have HVE:=Lib.hid hve;have HCF:=Lib.hid hcf;clear hve hcf;obtain ⟨wk,rfl⟩:∃ wk:World,wk=wr:=⟨_,rfl⟩;go_upto_region 18 with fail
         go_cut [8,9] (fun s8 s9 wx=>∃ g:Nat,s8 = .pointer (some ⟨g,0,none⟩)∧s9 = .bool B∧wk.heap.size≤g∧Hid (Box4 wx g H V M D)∧Hid (Below wk.heap.size wk wx))
         case first =>
          refine wp_region_held_drew (S:=fun w'=>(w'.cell? ⟨b,off+i*4,none⟩=some (.int .i64 pa)∧w'.cell? ⟨b,off+i*4+1,none⟩=some (.int .i64 pb)∧w'.cell? ⟨b,off+i*4+2,none⟩=some (.int .i64 pc)∧w'.cell? ⟨b,off+i*4+3,none⟩=some (.int .i64 pd))∧(w'.cell? ⟨b,off+k*4,none⟩=some (.int .i64 qa)∧w'.cell? ⟨b,off+k*4+1,none⟩=some (.int .i64 qb)∧w'.cell? ⟨b,off+k*4+2,none⟩=some (.int .i64 qc)∧w'.cell? ⟨b,off+k*4+3,none⟩=some (.int .i64 qd))∧(w'.cell? ⟨b,off+m*4,none⟩=some (.int .i64 ra)∧w'.cell? ⟨b,off+m*4+1,none⟩=some (.int .i64 rb)∧w'.cell? ⟨b,off+m*4+2,none⟩=some (.int .i64 rc)∧w'.cell? ⟨b,off+m*4+3,none⟩=some (.int .i64 rd))) (by kernel_rfl) (by exact ⟨⟨x0,x1,x2,x3⟩,⟨y0,y1,y2,y3⟩,⟨z0,z1,z2,z3⟩⟩) (fun hHeld => ?_);refine take_heldS (i:=0) (d:=54) rfl rfl ?_;try simp only [Act.put,ly3]
          refine take_heldS (i:=1) (d:=55) rfl rfl ?_;try simp only [Act.put,ly3]
          refine take_heldS (i:=2) (d:=56) rfl rfl ?_;try simp only [Act.put,ly3]
          refine take_heldS (i:=3) (d:=57) rfl rfl ?_;try simp only [Act.put,ly3]
          refine take_heldS (i:=4) (d:=58) rfl rfl ?_;try simp only [Act.put,ly3]
          refine take_heldS (i:=5) (d:=59) rfl rfl ?_;try simp only [Act.put,ly3]
          refine take_heldS (i:=6) (d:=60) rfl rfl ?_;try simp only [Act.put,ly3]
          refine take_heldS (i:=7) (d:=61) rfl rfl ?_;try simp only [Act.put,ly3]
          refine take_heldS (i:=8) (d:=62) rfl rfl ?_;try simp only [Act.put,ly3]
          refine take_heldS (i:=9) (d:=63) rfl rfl ?_;try simp only [Act.put,ly3]
          refine take_heldS (i:=10) (d:=64) rfl rfl ?_;try simp only [Act.put,ly3]
          refine take_heldS (i:=11) (d:=65) rfl rfl ?_;try simp only [Act.put,ly3]
          refine wpAnyH_ready (rs := [12,16]) (by kernel_rfl) (by simp) ?_;refine AllReadyH.cons rfl (fun K hK => ?_) (AllReadyH.cons rfl (fun K hK => ?_) AllReadyH.nil)
          ·go_simp
           (with_reducible refine (sSolve_any _ _ _ _ _ _ _ _ _ _ _ _ _).mono ?_)
           rintro e w1 ⟨rfl,hb1⟩;rw [HVE.out,thrV];refine hK.out _ _ (by exact keep12 (by assumption) (fun x=>hb1.cell (p:=⟨b,x,none⟩) (by first | exact hbk | (simp; omega)))) (fun hHeld => ?_)
           clear hK K;try simp only [Act.put,ly3]
           refine take_heldS (i:=13) (d:=53) rfl rfl ?_;try simp only [Act.put,ly3]
           refine take_heldS (i:=14) (d:=67) rfl rfl ?_;try simp only [Act.put,ly3]
           refine take_heldS (i:=15) (d:=68) rfl rfl ?_;try simp only [Act.put,ly3]
           refine wpAnyH_ready (rs := [16]) (by kernel_rfl) (by simp) ?_;refine AllReadyH.cons rfl (fun K hK => ?_) AllReadyH.nil;go_simp
           refine hK.out _ _ (by exact keep12 (by assumption) (fun x=>cell_alloc_lt (by have:=hb1.size; simp at this; omega))) (fun hHeld => ?_)
           clear hK K;try simp only [Act.put,ly3]
           refine wpAnyH_ready (rs := [17]) (by kernel_rfl) (by simp) ?_;refine AllReadyH.cons rfl (fun K hK => ?_) AllReadyH.nil;go_simp
           refine hK.out _ _ (by exact keep12 (by assumption) (fun x=>(cell_alloc_lt (by have:=hb1.size; simp at this; omega)).trans (cell_alloc_lt (by have:=hb1.size; simp at this; omega)).symm)) (fun hHeld => ?_)
           clear hK K;try simp only [Act.put,ly3]
           refine take_heldS (i:=18) (d:=9) rfl rfl ?_;try simp only [Act.put,ly3]
           refine wpAnyH_done (by kernel_rfl) ?_ _;go_wp2_with fail
           go_meet
           have hz1:=hb1.size;simp at hz1;exact ⟨w1.heap.size,rfl,rfl,by omega,Lib.hid (Box4.new _ _ _ _ _ _),Lib.hid (((below_drewN (Below.refl wk.heap.size wk) 1).trans (hb1.mono (by simp))).alloc (by omega) _)⟩
          ·go_simp
           refine hK.out _ _ (by exact keep12 (by assumption) (fun x=>cell_alloc_lt (by exact hbk))) (fun hHeld => ?_);clear hK K;try simp only [Act.put,ly3]
           refine wpAnyH_ready (rs := [12]) (by kernel_rfl) (by simp) ?_;refine AllReadyH.cons rfl (fun K hK => ?_) AllReadyH.nil;go_simp
           (with_reducible refine (sSolve_any _ _ _ _ _ _ _ _ _ _ _ _ _).mono ?_)
           rintro e w1 ⟨rfl,hb1⟩;rw [HVE.out,thrV];have HVW:Hid (RowF w1 wk.heap.size 66 4 (fun _ => .int .i64 0)):=Lib.hid ((show RowF _ wk.heap.size 66 4 (fun _ => .int .i64 0) from RowF.of_row (World.rowIs_alloc wk.drew #[.int .i64 0,.int .i64 0,.int .i64 0,.int .i64 0] 66 (fun _ => .int .i64 0) (fun i hi=>by simp at hi; match i,hi with | 0,_=>rfl | 1,_=>rfl | 2,_=>rfl | 3,_=>rfl))).after hb1)
           refine hK.out _ _ (by exact keep12 (by assumption) (fun x=>hb1.cell (p:=⟨b,x,none⟩) (by simp; omega))) (fun hHeld => ?_)
           clear hK K;try simp only [Act.put,ly3]
           refine take_heldS (i:=13) (d:=53) rfl rfl ?_;try simp only [Act.put,ly3]
           refine take_heldS (i:=14) (d:=67) rfl rfl ?_;try simp only [Act.put,ly3]
           refine take_heldS (i:=15) (d:=68) rfl rfl ?_;try simp only [Act.put,ly3]
           have u0:w1.cell? ⟨wk.heap.size,0,none⟩=some (.int .i64 0):=HVW.out.cell (i:=0) (by omega);have u1:w1.cell? ⟨wk.heap.size,1,none⟩=some (.int .i64 0):=HVW.out.cell (i:=1) (by omega);have u2:w1.cell? ⟨wk.heap.size,2,none⟩=some (.int .i64 0):=HVW.out.cell (i:=2) (by omega);have u3:w1.cell? ⟨wk.heap.size,3,none⟩=some (.int .i64 0):=HVW.out.cell (i:=3) (by omega);have f0:=HVW.out.frozen 0;have f1:=HVW.out.frozen 1;have f2:=HVW.out.frozen 2;have f3:=HVW.out.frozen 3;have hs:=RowF.lt HVW.out;have hz1:=hb1.size;simp at hz1;refine wpAnyH_ready (rs := [17]) (by kernel_rfl) (by simp) ?_;refine AllReadyH.cons rfl (fun K hK => ?_) AllReadyH.nil;go_simp
           refine hK.out _ _ (by exact keep12 (by assumption) (fun x=>(World.cell?_setCell_far _ _ _ _ (by first | (simp; done) | (simp; omega) | omega)).trans ((World.cell?_setCell_far _ _ _ _ (by first | (simp; done) | (simp; omega) | omega)).trans ((World.cell?_setCell_far _ _ _ _ (by first | (simp; done) | (simp; omega) | omega)).trans ((World.cell?_setCell_far _ _ _ _ (by first | (simp; done) | (simp; omega) | omega)).trans (rfl)))))) (fun hHeld => ?_)
           clear hK K;try simp only [Act.put,ly3]
           refine take_heldS (i:=18) (d:=9) rfl rfl ?_;try simp only [Act.put,ly3]
           refine wpAnyH_done (by kernel_rfl) ?_ _;go_wp2_with fail
           go_meet
           have HV4:=Lib.hid (((HVW.out.set 0 (.int .i64 H)).set 1 (.int .i64 V)).set 2 (.int .i64 M) |>.set 3 (.int .i64 D));exact ⟨wk.heap.size,rfl,rfl,Nat.le_refl _,Lib.hid ⟨⟨HV4.out.cell (i:=0) (by omega),HV4.out.cell (i:=1) (by omega),HV4.out.cell (i:=2) (by omega),HV4.out.cell (i:=3) (by omega)⟩,by simpa using hs⟩,Lib.hid (below_set4 (((below_drewN (Below.refl wk.heap.size wk) 1).alloc (Nat.le_refl _) _).trans (hb1.mono (by simp))) (Nat.le_refl _) _ _ _ _)⟩
         case rest =>
         obtain ⟨g,rfl,rfl,hg,HBX,HBW⟩:=hcut;have HOC:=Lib.hid (HO.out.below HBW.out);have HBC:=Lib.hid (below_then HB.out HBW.out);have hql:a4.length / 4=q:=by have:=HA.out.len; omega
         clear x0 x1 x2 x3 y0 y1 y2 y3 z0 z1 z2 z3 HVE HO HB HBW hbk;cases B
         ·have HEQ:=Lib.hid (HCF.out.no rfl)
          have HAX:Hid (CorAcc (corM rs n i k a3 (j+1)) q (400*i+20*t+(j+1))):=by rw [HM1.out,HEQ.out]; exact Lib.hid ⟨HA.out.len,by have:=HA.out.few; omega⟩
          have HOX:=HOC;rw [← HM1.out.trans HEQ.out] at HOX;go_wp2;go_roundw
          case rel=>exact ⟨j+1,q,by omega,by go_num,HAX,HOX,HBC⟩
          case measure=>simp [intOf]; omega
         have HTH:=Lib.hid (HCF.out.thr rfl);obtain ⟨A3,c3,rfl,hc3⟩:=HOC.out.slice;have HRC:=Lib.hid HOC.out.recs;obtain ⟨t0,t1,t2,t3⟩:=HBX.out.1;have hq8:q≤8000:=by have:=HA.out.few; omega
         go_wp2_with fail
         refine (l11Has_any _ _ _ _ _ _ _ _ _ HRC.out (by omega)).mono ?_;rintro e w1 ⟨rfl,hb1⟩;have HO1:=Lib.hid (HOC.out.below hb1);have HB1:=Lib.hid (below_then HBC.out hb1);have HX1:=Lib.hid (HBX.out.after hb1);clear t0 t1 t2 t3 hb1 HOC HBC HBX HRC;cases hh:hasTo a4 H V M D q;rotate_left
         ·have HEQ:=Lib.hid (HCF.out.has (by rw [hql]; exact hh))
          have HAX:Hid (CorAcc (corM rs n i k a3 (j+1)) q (400*i+20*t+(j+1))):=by rw [HM1.out,HEQ.out]; exact Lib.hid ⟨HA.out.len,by have:=HA.out.few; omega⟩
          have HOX:=HO1;rw [← HM1.out.trans HEQ.out] at HOX;go_wp2;go_roundw
          case rel=>exact ⟨j+1,q,by omega,by go_num,HAX,HOX,HB1⟩
          case measure=>simp [intOf]; omega
         have HH:=Lib.hid hh;clear hh;go_wp2;go_loopw [10,11] (fun v10 v11 wr=>∃ (x:Nat) (bb:Bool),x≤n∧v11 = .int .i64 x∧v10 = .bool bb∧Hid (bb=true→allTo (metAt rs H V M D) x)∧Hid (bb=false→allB (metAt rs H V M D) n=false)∧Hid (OwnR wr w.heap.size 66 4 (.slice A3 q c3) q a4)∧Hid (Box4 wr g H V M D)∧Hid (Below w.heap.size w wr)) (fun _ v11 _=>n - (intOf v11).toNat)
         case atStart=>exact ⟨0,true,Nat.zero_le _,rfl,rfl,Lib.hid fun _=>allTo_0 _,Lib.hid fun e=>absurd e (by simp),HO1,HX1,HB1⟩
         case round =>
          clear HO1 HX1 HB1;obtain ⟨x,bb,hx,rfl,rfl,HPT,HPF,HO,HX,HB⟩:=hrel;cases bb
          ·have HEQ:=Lib.hid (HCF.out.all0 (HPF.out rfl))
           by_cases hlx:x<n
           ·have xx:(x:Int)<(n:Int):=by omega
            have HAX:Hid (CorAcc (corM rs n i k a3 (j+1)) q (400*i+20*t+(j+1))):=by rw [HM1.out,HEQ.out]; exact Lib.hid ⟨HA.out.len,by have:=HA.out.few; omega⟩
            have HOX:=HO;rw [← HM1.out.trans HEQ.out] at HOX;go_wp2;go_roundw
            case rel=>exact ⟨j+1,q,by omega,by go_num,HAX,HOX,HB⟩
            case measure=>simp [intOf]; omega
           ·have xx:¬ (x:Int)<(n:Int):=by omega
            have HAX:Hid (CorAcc (corM rs n i k a3 (j+1)) q (400*i+20*t+(j+1))):=by rw [HM1.out,HEQ.out]; exact Lib.hid ⟨HA.out.len,by have:=HA.out.few; omega⟩
            have HOX:=HO;rw [← HM1.out.trans HEQ.out] at HOX;go_wp2;go_roundw
            case rel=>exact ⟨j+1,q,by omega,by go_num,HAX,HOX,HB⟩
            case measure=>simp [intOf]; omega
          by_cases hlx:x<n
          ·have xx:(x:Int)<(n:Int):=by omega
           obtain ⟨b',off',eA,hbB',hc⟩:=HL.out.2 (by omega);simp only [Option.some.injEq,Addr.mk.injEq,and_true] at eA;obtain ⟨rfl,rfl⟩:=eA;have hc':∀ y,y<n*4→wr.cell? ⟨b,off+y,none⟩=some (.int .i64 (nth rs y)):=fun y hy=>(HB.out.cell (by exact hbB')).trans (hc y hy)
           obtain ⟨x0,x1,x2,x3⟩:=rwCells hc' hlx;have hro:=(HP0 x hlx);have hside:=sideBd (a:=nth rs (x*4)) (b:=nth rs (x*4+1)) (c:=nth rs (x*4+2)) (d:=nth rs (x*4+3)) HTH.out hro;have HSI:=Lib.hid hside;have HME:Hid (metAt rs H V M D x=metB (nth rs (x*4)) (nth rs (x*4+1)) (nth rs (x*4+2)) (nth rs (x*4+3)) H V M D):=rfl;have HTS:=Lib.hid (fun e=>allTo_step (HPT.out rfl) (k:=x) e);have HFS:=Lib.hid (fun e=>allB_f (p:=metAt rs H V M D) hlx e);clear hc hc' hro hside;generalize nth rs (x*4)=p0 at *
           generalize nth rs (x*4+1)=p1 at *
           generalize nth rs (x*4+2)=p2 at *
           generalize nth rs (x*4+3)=p3 at *
           obtain ⟨t0,t1,t2,t3⟩:=HX.out.1;have hbk:b<wr.heap.size:=Nat.lt_of_lt_of_le hbB' HB.out.size;have hgk:=HX.out.2;go_wp2;refine wp_region_held_drew (S:=fun w'=>(w'.cell? ⟨b,off+x*4,none⟩=some (.int .i64 p0)∧w'.cell? ⟨b,off+x*4+1,none⟩=some (.int .i64 p1)∧w'.cell? ⟨b,off+x*4+2,none⟩=some (.int .i64 p2)∧w'.cell? ⟨b,off+x*4+3,none⟩=some (.int .i64 p3))∧(w'.cell? ⟨g,0,none⟩=some (.int .i64 H)∧w'.cell? ⟨g,1,none⟩=some (.int .i64 V)∧w'.cell? ⟨g,2,none⟩=some (.int .i64 M)∧w'.cell? ⟨g,3,none⟩=some (.int .i64 D))) (by kernel_rfl) (by exact ⟨⟨x0,x1,x2,x3⟩,⟨t0,t1,t2,t3⟩⟩) (fun hHeld => ?_);refine take_heldS (i:=0) (d:=85) rfl rfl ?_;try simp only [Act.put,ly3]
           refine take_heldS (i:=1) (d:=86) rfl rfl ?_;try simp only [Act.put,ly3]
           refine take_heldS (i:=2) (d:=87) rfl rfl ?_;try simp only [Act.put,ly3]
           refine take_heldS (i:=3) (d:=88) rfl rfl ?_;try simp only [Act.put,ly3]
           refine take_heldS (i:=4) (d:=89) rfl rfl ?_;try simp only [Act.put,ly3]
           refine wpAnyH_ready (rs := [5]) (by kernel_rfl) (by simp) ?_;refine AllReadyH.cons rfl (fun K hK => ?_) AllReadyH.nil;go_simp
           (with_reducible refine (l10Holds_any _ _ _ _ _ _ _ _ _ HSI.out).mono ?_); rintro e w5 ⟨rfl,hb5⟩; have HBn:=Lib.hid (below_then (below_dr (Below.refl wr.heap.size wr)) hb5);refine hK.out _ _ (by exact ⟨⟨(HBn.out.cell (by exact hbk)).trans x0,(HBn.out.cell (by exact hbk)).trans x1,(HBn.out.cell (by exact hbk)).trans x2,(HBn.out.cell (by exact hbk)).trans x3⟩,⟨(HBn.out.cell (by exact hgk)).trans t0,(HBn.out.cell (by exact hgk)).trans t1,(HBn.out.cell (by exact hgk)).trans t2,(HBn.out.cell (by exact hgk)).trans t3⟩⟩) (fun hHeld => ?_);clear hK K;try simp only [Act.put,ly3]
           refine take_heldS (i:=6) (d:=10) rfl rfl ?_;try simp only [Act.put,ly3]
           refine wpAnyH_done (by kernel_rfl) ?_ _;have HO5:=Lib.hid (HO.out.below HBn.out);have HX5:=Lib.hid (HX.out.after HBn.out);have HB5:=Lib.hid (below_then HB.out HBn.out);clear x0 x1 x2 x3 t0 t1 t2 t3 hb5 hHeld HO HX HB HBn hbk hgk;rw [← HME.out];have HPT5:Hid (metAt rs H V M D x=true→allTo (metAt rs H V M D) (x+1)):=HTS;have HPF5:Hid (metAt rs H V M D x=false→allB (metAt rs H V M D) n=false):=HFS;clear HTS HFS HME;generalize metAt rs H V M D x=bb at *
           go_wp2;go_roundw
           case rel=>exact ⟨x+1,bb,by omega,by go_num,rfl,HPT5,HPF5,HO5,HX5,HB5⟩
           case measure=>simp [intOf]; omega
          ·obtain rfl:n=x:=by omega
           have xx:¬ (n:Int)<(n:Int):=by omega
           have HEQ:=Lib.hid (HCF.out.yes rfl (by rw [hql]; exact HH.out) (allB_t (HPT.out rfl)));obtain ⟨t0,t1,t2,t3⟩:=HX.out.1;have hcn:∀ y,y<1*4→(wr.alloc (.cells #[.int .i64 H,.int .i64 V,.int .i64 M,.int .i64 D] 66)).cell? ⟨wr.heap.size,y,none⟩=some (.int .i64 (nth [H,V,M,D] y)):=fun y hy =>
            World.rowIs.cell (World.rowIs_alloc wr #[.int .i64 H,.int .i64 V,.int .i64 M,.int .i64 D] 66 (ints [H,V,M,D]) (fun i hi=>by simp at hi; match i,hi with | 0,_=>rfl | 1,_=>rfl | 2,_=>rfl | 3,_=>rfl)) (by simpa using hy)
           have HCN:=Lib.hid hcn;have HBA:=Lib.hid (HB.out.alloc HB.out.size (.cells #[.int .i64 H,.int .i64 V,.int .i64 M,.int .i64 D] 66));have hW0:w.heap.size≤(wr.alloc (.cells #[.int .i64 H,.int .i64 V,.int .i64 M,.int .i64 D] 66)).heap.size:=HBA.out.size;have HXX:Hid (a4 ++ [H,V,M,D]=corM rs n i k a3 (j+1)):=Lib.hid (by rw [HM1.out,HEQ.out]);have HAX:Hid (CorAcc (corM rs n i k a3 (j+1)) (q+1) (400*i+20*t+(j+1))):=by rw [HM1.out,HEQ.out]; exact Lib.hid ⟨by simp [HA.out.len]; omega,by have:=HA.out.few; omega⟩
           clear hcn;go_wp2_with (at_builtin; refine wpList_appR _ rfl (.tmp 92) (.tmp 94) 71 rfl w.heap.size 66 4 32 #[.int .i64 0,.int .i64 0,.int .i64 0,.int .i64 0] Tryzx.underlying71 infoThr rfl (by decide) (by decide) _ q a4 rfl (by exact HO.out.alloc _) wr.heap.size 1 1 [H,V,M,D] rfl rfl (by exact HCN.out) (by omega) w.heap.size w (by exact HBA.out) (Nat.le_refl _) hW0 _ HXX.out ?_ (by omega); intro g' cap' w7 hown7 hb7; have HO7:=Lib.hid hown7; have HB7:=Lib.hid hb7);go_roundw
           case rel=>exact ⟨j+1,q+1,by omega,by go_num,HAX,HO7,HB7⟩
           case measure=>simp [intOf]; omega
        ·obtain rfl:n - (k+1)=j:=by omega
         have e7:(k:Int)+1+((n - (k+1):Nat):Int)=(n:Int):=by omega
         have nn:¬ (n:Int)<(n:Int):=by omega
         have HA1:Hid (CorAcc (corK rs n i a2 (t+1)) q (400*i+20*(t+1))):=by rw [HK1.out]; exact Lib.hid ⟨HA.out.len,by have:=HA.out.few; omega⟩
         have HO1:=HO;rw [← HK1.out] at HO1;have e6:(k:Int)+1=(i:Int)+1+((t+1:Nat):Int):=by omega
         rw [e7];go_wp2;go_roundw
         case rel=>exact ⟨t+1,q,by omega,by first | rw [e6] | go_num,HA1,HO1,HB⟩
         case measure=>simp [intOf]; omega
      ·obtain rfl:n - (i+1)=t:=by omega
       have e7:(i:Int)+1+((n - (i+1):Nat):Int)=(n:Int):=by omega
       have nn:¬ (n:Int)<(n:Int):=by omega
       have HA1:Hid (CorAcc (corI rs n (i+1)) q (400*(i+1))):=by rw [HI1.out]; exact Lib.hid ⟨HA.out.len,by have:=HA.out.few; omega⟩
       have HO1:=HO;rw [← HI1.out] at HO1;rw [e7];go_wp2;go_roundw
       case rel=>exact ⟨i+1,q,by omega,by go_num,HA1,HO1,HB⟩
       case measure=>simp [intOf]; omega
    ·obtain rfl:n=i:=by omega
     have nn:¬ (n:Int)<(n:Int):=by omega
     have hq:cornN rs n=q:=by have:=HA.out.len; rw [cornN,cornL_t HCT.out]; omega
     have HO1:=HO;rw [← cornL_t HCT.out] at HO1;obtain ⟨A9,c9,rfl,_⟩:=HO1.out.slice;go_wp2;go_ret;exact ⟨.slice A9 q c9,rfl,by first | exact HO1.out | (rw [hq]; exact HO1.out),HB.out⟩
end X
section
open Go.RowKit
def capOf (t:Nat→Question→Nat) (d need:Nat) (E:TypeId):Nat:=(Question.appendCap need 0 E).cut (t d (.appendCap need 0 E))
theorem capOf_ge (t:Nat→Question→Nat) (d need:Nat) (E:TypeId):need≤capOf t d need E:=by simp [capOf,Question.cut]
theorem capOf_le (t:Nat→Question→Nat) (d need:Nat) (E:TypeId) (h:need≤maxLen):capOf t d need E≤maxLen:=by
 have hlt:=Nat.mod_lt (t d (.appendCap need 0 E)) (show 0<2 ^ 63 - need by simp only [maxLen] at h; omega)
 simp only [capOf,Question.cut,maxLen] at h ⊢;omega
theorem capOf_set {need c:Nat} (E:TypeId) (h1:need≤c) (h2:c≤maxLen) (d:Nat):capOf (fun _ q=>match q with | .appendCap _ _ _=>c - need | _=>0) d need E=c:=by
 simp only [capOf,Question.cut,maxLen] at h2 ⊢;rw [Nat.mod_eq_of_lt (by omega)];omega
theorem run_eqNil {P:Program} {t e:TypeId} (h:P.underlying t=some (.slice e)) (A:Option Addr) (n c:Nat) (w:World):(binOp .eql t (.slice A n c) (.slice none 0 0)).run P w = .ok (.bool A.isNone) w:=by
 have hb:binOp .eql t (.slice A n c) (.slice none 0 0)=(Op.equal t (.slice A n c) (.slice none 0 0) >>= fun x=>pure (.bool x)):=rfl;have he:(Op.equal t (.slice A n c) (.slice none 0 0)).run P w = .ok A.isNone w:=by
  show (Op.equalIn (9999+1) t (.slice A n c) (.slice none 0 0)).run P w=_
  rw [Op.equalIn.eq_2,Sem.run_bind,run_underlying h];cases A <;> rfl
 rw [hb,Sem.run_bind,he];rfl
theorem wpList_appB {P:Program} (w:World) {ops:Array Oper} {rest:List Oper} {o:Oper} {a:Act} {Q:Exit→Act→World→Prop} (hgd:o.guard=none) (s x:Operand) (t:TypeId)
  (ho:o.op = .call { callee := .builtin .append,args := #[s,x],argTypes := #[t,t] })
  (E:TypeId) (K bytes:Nat) (zc:Array Value) (ht:P.underlying t=some (.slice E)) (hinfo:(P.info? E).map (fun i=>(i.zero,i.size,i.bytes))=some (some (.agg zc),K,bytes)) (hzc:zc.size=K) (hK:0<K) (hby:bytes≤1024)
  (hs:a.eval s = .slice none 0 0) (A:Option Addr) (q c:Nat) (hx:a.eval x = .slice A q c) (ys:List Int) (hy:RecsAt w w.heap.size K A q ys) (hn:q≤1048576)
  (h:∀ v' w',(q=0∧v' = .slice none 0 0∧w'=w) ∨ (1≤q∧v' = .slice (some ⟨w.heap.size,0,none⟩) q (capOf w.tape w.drawn q E)∧w'=w.drew.alloc (.cells ((ys.map (Value.int .i64)).toArray ++ Builtin.zeroCells zc (capOf w.tape w.drawn q E - q)) E (0,0))) →
   wpList P ops Q rest (a.put o.dst v') w'):wpList P ops Q (o :: rest) a w:=by
 obtain ⟨i0,hi0,hz0,hz1,hz2⟩:=info_parts hinfo;refine wpList_plain hgd fun _ hK' => ?_
 rcases Nat.eq_zero_or_pos q with e | e
 ·subst e
  have hr:(Builtin.append_ #[t,t] o.type #[.slice none 0 0,.slice A 0 c]).run P w = .ok (.slice none 0 0) w:=by
   cases A with
   | none=>simp [Builtin.append_,run_underlying ht,sizeOf,typeInfo,hi0,Builtin.lenOf,Builtin.firstCells,loadCells,loadCellsFrom]
   | some a=>simp [Builtin.append_,run_underlying ht,sizeOf,typeInfo,hi0,Builtin.lenOf,Builtin.firstCells,loadCells,loadCellsFrom]
  unfold Oper.wp execOp;simp only [ho,resolve,invoke,builtin,Sem.run_bind,Sem.run_pure,Result.andThen_ok,List.map_toArray,List.map_cons,List.map_nil,hs,hx,hr];exact hK' _ _ (h _ _ (.inl ⟨rfl,rfl,rfl⟩))
 ·obtain ⟨b,off,rfl,hb,hc⟩:=hy.2 e
  have hnews:∀ j u,(ys.map (Value.int .i64))[j]?=some u→w.cell? ((⟨b,off,none⟩:Addr).add j)=some u:=by
   intro j u hj;have hjl:j<ys.length:=by
    have:=(List.getElem?_eq_some_iff.1 hj).1;simpa using this
   rw [List.getElem?_map,List.getElem?_eq_getElem hjl] at hj;simp at hj;subst hj;rw [Go.WideShapes.add_plain,hc j (by rw [← hy.1]; exact hjl),nth_get ys j hjl]
  have hqb:q*bytes≤1048576*1024:=Nat.mul_le_mul hn hby;have hr:=run_append_nil (P:=P) w t o.type E i0 (.agg zc) ht hi0 hz0 ⟨b,off,none⟩ q c (ys.map (Value.int .i64)) (by rw [hz1]; simpa using hy.1) hnews e (by omega) (by rw [hz2]; omega)
  unfold Oper.wp execOp;simp only [ho,resolve,invoke,builtin,Sem.run_bind,Sem.run_pure,Result.andThen_ok,List.map_toArray,List.map_cons,List.map_nil,hs,hx,hr];exact hK' _ _ (h _ _ (.inr ⟨e,rfl,rfl⟩))
end
end Go.Proofs.YtjcgklifabcfkaaGreat
