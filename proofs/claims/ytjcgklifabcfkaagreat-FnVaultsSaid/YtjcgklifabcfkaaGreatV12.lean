/-
  Texts that the law stands on, part 12.
-/
import Derived.Test.YtjcgklifabcfkaaGreatV1
import Derived.Test.YtjcgklifabcfkaaGreatV11
import Derived.Test.YtjcgklifabcfkaaGreatV8
import Derived.Test.YtjcgklifabcfkaaGreatV10
set_option maxRecDepth 100000
set_option linter.unusedVariables false
set_option linter.unusedSimpArgs false
namespace Go.Proofs.YtjcgklifabcfkaaGreat
section
open Go.RowKit
def ddStep (zs acc:List Int) (j:Nat):List Int:=if hasTo acc (nth zs (j*4)) (nth zs (j*4+1)) (nth zs (j*4+2)) (nth zs (j*4+3)) (acc.length / 4)=true then acc else acc ++ [nth zs (j*4),nth zs (j*4+1),nth zs (j*4+2),nth zs (j*4+3)]
def ddRow (zs acc:List Int) (t:Nat):List Int:=foldN (fun j a=>ddStep zs a j) t acc
def ddAll (zs:Nat→List Int) (t:Nat):List Int:=foldN (fun i a=>ddRow (zs i) a ((zs i).length / 4)) t []
theorem ddRow_s (zs acc:List Int) (t:Nat):ddRow zs acc (t+1)=ddStep zs (ddRow zs acc t) t:=rfl
theorem ddAll_s (zs:Nat→List Int) (t:Nat):ddAll zs (t+1)=ddRow (zs t) (ddAll zs t) ((zs t).length / 4):=rfl
theorem zz4:∀ j,j<(#[Value.int .i64 0,.int .i64 0,.int .i64 0,.int .i64 0]:Array Value).size→(#[Value.int .i64 0,.int .i64 0,.int .i64 0,.int .i64 0]:Array Value)[j]?=some (.int .i64 0):=fun j hj=>by
 match j,hj with
 | 0,_=>rfl
 | 1,_=>rfl
 | 2,_=>rfl
 | 3,_=>rfl
def FndAt (w:World) (C n:Nat) (zs:Nat→List Int):Prop :=
 ∀ i,i<n→∃ A m c,w.cell? ⟨C,i,none⟩=some (.slice A m c)∧RecsAt w w.heap.size 4 A m (zs i)∧m≤400
theorem FndAt.after {w w1:World} {C n:Nat} {zs:Nat→List Int} (h:FndAt w C n zs) (hC:C<w.heap.size) (hb:Below w.heap.size w w1):FndAt w1 C n zs:=fun i hi=>by
 obtain ⟨A,m,c,h1,h2,h3⟩:=h i hi;exact ⟨A,m,c,(hb.cell hC).trans h1,h2.after hb,h3⟩
structure DdFacts (zs acc:List Int) (j q:Nat) (H V M D:Int):Prop where
 has:hasTo acc H V M D q=true→ddStep zs acc j=acc
 no:hasTo acc H V M D q=false→ddStep zs acc j=acc ++ [H,V,M,D]
theorem ddFacts {zs acc:List Int} {j q b:Nat} (h:CorAcc acc q b):DdFacts zs acc j q (nth zs (j*4)) (nth zs (j*4+1)) (nth zs (j*4+2)) (nth zs (j*4+3)):=by
 have e:acc.length / 4=q:=by have:=h.len; omega
 constructor <;> intro hh <;> unfold ddStep <;> rw [e]
 ·rw [if_pos hh]
 ·rw [if_neg (by rw [hh]; simp)]
set_option maxHeartbeats 6400000 in
theorem epiW (v0 v1 v2 v4 v5 v6 v7 v8 v9 v10 v11 v12 v13 v14 v15 v16 v17 v18 v19 v20 v21 v22 v23 v24 v25 v26 v27 v28 v29 v30 v31 v32 v33 v34 v35 v36 v37 v38 v39 v40 v41 v42 v43 v44 v45 v46 v47 v48 v49 v50 v51 v52 v53 v54:Value) (fb C n:Nat) (zs:Nat→List Int) (w:World) (hfb:w.cell? ⟨fb,0,none⟩=some (.slice (some ⟨C,0,none⟩) n n)) (hC:C<w.heap.size) (hF:FndAt w C n zs) (hn:n≤20)
  (r0 pr r3 r4 r5 l rw ce:Code) (e:pbody = .seq r0 (.seq pr (.seq r3 (.seq r4 (.seq (.seq r5 l) (.seq rw ce)))))) :
  ce.wp Tryz.prog (bodyPost Tryz.prog Tryz.f87 fun e w'=>∃ v q,e = .returned v∧OwnZ w' w.heap.size 66 4 v q (ddAll zs n)∧Below w.heap.size w w') ⟨#[v0,v1,v2,.pointer (some ⟨fb,0,none⟩),v4,v5,v6,v7,v8,v9,v10,v11,v12,v13,v14,v15,v16,v17,v18,v19,v20,v21,v22,v23,v24,v25,v26,v27,v28,v29,v30,v31,v32,v33,v34,v35,v36,v37,v38,v39,v40,v41,v42,v43,v44,v45,v46,v47,v48,v49,v50,v51,v52,v53,v54],[]⟩ w:=by
 have HF:=Lib.hid hF;have HC:=Lib.hid hC;clear hF hC;simp only [pbody,Tryz.f87,Option.getD,Code.seq.injEq] at e;obtain ⟨e1,e2,e3,e4,⟨e5,e6⟩,e7,rfl⟩:=e;clear e1 e2 e3 e4 e5 e6 e7;go_wp2;go_loopw [6,34] (fun v6 v34 wr=>∃ i q:Nat,i≤n∧v34 = .int .i64 i∧Hid (CorAcc (ddAll zs i) q (400*i))∧Hid (OwnZ wr w.heap.size 66 4 v6 q (ddAll zs i))∧Hid (Below w.heap.size w wr)) (fun _ v34 _=>n - (intOf v34).toNat)
 case atStart=>exact ⟨0,0,Nat.zero_le _,rfl,Lib.hid ⟨rfl,Nat.le_refl _⟩,Lib.hid (OwnZ.nil _ _ _ _),Lib.hid (Below.refl _ _)⟩
 case round =>
  obtain ⟨i,q,hi,rfl,HA,HO,HB⟩:=hrel;by_cases hli:i<n
  ·have ii:(i:Int)<(n:Int):=by omega
   obtain ⟨Ai,m,ci,hx,hrec,hm⟩:=HF.out i hli;have hx1:wr.cell? ⟨C,i,none⟩=some (.slice Ai m ci):=(HB.out.cell (by exact HC.out)).trans hx;have HR:=Lib.hid hrec;have HI1:=Lib.hid (show ddAll zs (i+1)=ddRow (zs i) (ddAll zs i) ((zs i).length / 4) from ddAll_s zs i);have HM:Hid ((zs i).length / 4=m):=Lib.hid (by have:=hrec.1; omega)
   obtain ⟨a2,ha2⟩:∃ a,ddAll zs i=a:=⟨_,rfl⟩;rw [ha2] at HA HO HI1;clear ha2 hx hrec;generalize zs i=zi at *
   have im:i<9223372036854775808:=by omega
   go_wp2;go_loopw [6,40] (fun v6 v40 wr=>∃ j q:Nat,j≤m∧v40 = .int .i64 j∧Hid (CorAcc (ddRow zi a2 j) q (400*i+j))∧Hid (OwnZ wr w.heap.size 66 4 v6 q (ddRow zi a2 j))∧Hid (Below w.heap.size w wr)) (fun _ v40 _=>m - (intOf v40).toNat)
   case atStart=>exact ⟨0,q,Nat.zero_le _,rfl,HA,HO,HB⟩
   case round =>
    clear HA HO HB;obtain ⟨j,q,hj,rfl,HA,HO,HB⟩:=hrel;by_cases hlj:j<m
    ·have jj:(j:Int)<(m:Int):=by omega
     have HJ1:=Lib.hid (show ddRow zi a2 (j+1)=ddStep zi (ddRow zi a2 j) j from ddRow_s zi a2 j);obtain ⟨a3,ha3⟩:∃ a,ddRow zi a2 j=a:=⟨_,rfl⟩;rw [ha3] at HA HO HJ1;clear ha3;obtain ⟨b,off,rfl,hbB,hc⟩:=HR.out.2 (by omega);obtain ⟨x0,x1,x2,x3⟩:=rwCells (fun i hi=>(HB.out.cell (by exact hbB)).trans (hc i hi)) hlj;have HD:=Lib.hid (ddFacts (zs:=zi) (j:=j) HA.out);clear hc;generalize nth zi (j*4)=y0 at *
     generalize nth zi (j*4+1)=y1 at *
     generalize nth zi (j*4+2)=y2 at *
     generalize nth zi (j*4+3)=y3 at *
     obtain ⟨A3,c3,rfl,hc3⟩:=HO.out.slice;have BX:=Lib.hid (Box4.new wr y0 y1 y2 y3 66);have HB1:=Lib.hid (HB.out.alloc HB.out.size (.cells #[.int .i64 y0,.int .i64 y1,.int .i64 y2,.int .i64 y3] 66));have HO1:=Lib.hid (HO.out.alloc (.cells #[.int .i64 y0,.int .i64 y1,.int .i64 y2,.int .i64 y3] 66));have HRC:=Lib.hid HO1.out.recs;have hq8:q≤8400:=by have:=HA.out.few; omega
     obtain ⟨t0,t1,t2,t3⟩:=BX.out.1;clear HB HO;go_wp2_with fail
     refine (containsThr_any _ _ _ a3 _ _ _ _ _ HRC.out (by omega)).mono ?_;rintro e w1 ⟨rfl,hb1⟩;have HB2:=Lib.hid (below_then HB1.out hb1);have HO2:=Lib.hid (HO1.out.below hb1);have BX2:=Lib.hid (BX.out.after hb1);clear hb1 t0 t1 t2 t3 HRC HO1 HB1 BX x0 x1 x2 x3;cases hh:hasTo a3 y0 y1 y2 y3 q;rotate_left
     ·have HEQ:=Lib.hid (HD.out.has hh)
      clear hh;have HAX:Hid (CorAcc (ddRow zi a2 (j+1)) q (400*i+(j+1))):=by rw [HJ1.out,HEQ.out]; exact Lib.hid ⟨HA.out.len,by have:=HA.out.few; omega⟩
      have HOX:=HO2;rw [← HJ1.out.trans HEQ.out] at HOX;go_wp2;go_roundw
      case rel=>exact ⟨j+1,q,by omega,by go_num,HAX,HOX,HB2⟩
      case measure=>simp [intOf]; omega
     have HEQ:=Lib.hid (HD.out.no hh);clear hh;obtain ⟨t0,t1,t2,t3⟩:=BX2.out.1;have hcn:∀ y,y<1*4→(w1.alloc (.cells #[.int .i64 y0,.int .i64 y1,.int .i64 y2,.int .i64 y3] 66)).cell? ⟨w1.heap.size,y,none⟩=some (.int .i64 (nth [y0,y1,y2,y3] y)):=fun y hy =>
      World.rowIs.cell (World.rowIs_alloc w1 #[.int .i64 y0,.int .i64 y1,.int .i64 y2,.int .i64 y3] 66 (ints [y0,y1,y2,y3]) (fun i hi=>by simp at hi; match i,hi with | 0,_=>rfl | 1,_=>rfl | 2,_=>rfl | 3,_=>rfl)) (by simpa using hy)
     have HCN:=Lib.hid hcn;have HBA:=Lib.hid (HB2.out.alloc HB2.out.size (.cells #[.int .i64 y0,.int .i64 y1,.int .i64 y2,.int .i64 y3] 66));have hW0:w.heap.size≤(w1.alloc (.cells #[.int .i64 y0,.int .i64 y1,.int .i64 y2,.int .i64 y3] 66)).heap.size:=HBA.out.size;have HXX:Hid (a3 ++ [y0,y1,y2,y3]=ddRow zi a2 (j+1)):=Lib.hid (by rw [HJ1.out,HEQ.out]);have HAX:Hid (CorAcc (ddRow zi a2 (j+1)) (q+1) (400*i+(j+1))):=by rw [HJ1.out,HEQ.out]; exact Lib.hid ⟨by simp [HA.out.len]; omega,by have:=HA.out.few; omega⟩
     clear hcn;go_wp2_with (at_builtin; refine wpList_appZ _ rfl (.tmp 48) (.tmp 50) 71 rfl w.heap.size 66 4 32 #[.int .i64 0,.int .i64 0,.int .i64 0,.int .i64 0] Tryz.underlying71 infoThr rfl zz4 (by decide) (by decide) _ q a3 rfl (by exact HO2.out.alloc _) w1.heap.size 1 1 [y0,y1,y2,y3] rfl rfl (by exact HCN.out) (by omega) w.heap.size w (by exact HBA.out) (Nat.le_refl _) hW0 _ HXX.out ?_ (by omega); intro g' cap' w7 hown7 hb7; have HO7:=Lib.hid hown7; have HB7:=Lib.hid hb7);go_roundw
     case rel=>exact ⟨j+1,q+1,by omega,by go_num,HAX,HO7,HB7⟩
     case measure=>simp [intOf]; omega
    ·obtain rfl:m=j:=by omega
     have nn:¬ (m:Int)<(m:Int):=by omega
     have HA1:Hid (CorAcc (ddAll zs (i+1)) q (400*(i+1))):=by rw [HI1.out,HM.out]; exact Lib.hid ⟨HA.out.len,by have:=HA.out.few; omega⟩
     have HO1:=HO;rw [← HM.out,← HI1.out] at HO1;go_wp2;go_roundw
     case rel=>exact ⟨i+1,q,by omega,by go_num,HA1,HO1,HB⟩
     case measure=>simp [intOf]; omega
  ·obtain rfl:n=i:=by omega
   have nn:¬ (n:Int)<(n:Int):=by omega
   go_wp2;go_ret;exact ⟨_,rfl,⟨q,HO.out⟩,HB.out⟩
end
namespace Rn
open Go.Conc Go.RowKit
def epiL:List Nat := [110,145]
def epiF:Nat→Bool:=fun k=>epiL.contains k
theorem epi_all : epiL.all (fun f => (f != 87) && match Tryz.prog.funcs[f]? with | some fn => (fn.name != "runtime.NumGoroutine") && (match fn.body with | some c => okC Tryz.prog.toTables epiF (fun _ => true) c | none => false) | none => false) = true := by decide +kernel
theorem epi_one {f : Nat} (h : epiF f = true) : f ≠ 87 ∧ ∃ fn c, Tryz.prog.funcs[f]? = some fn ∧ (fn.name == "runtime.NumGoroutine") = false ∧ fn.body = some c ∧ okC Tryz.prog.toTables epiF (fun _ => true) c = true := by
 have hm : f ∈ epiL := by simpa [epiF] using h
 have := List.all_eq_true.1 epi_all f hm;rw [Bool.and_eq_true] at this;obtain ⟨hne, this⟩ := this;refine ⟨by simpa using hne, ?_⟩;cases hf : Tryz.prog.funcs[f]? with
 | none => rw [hf] at this; cases this
 | some fn =>
  rw [hf] at this;dsimp only at this;cases hb : fn.body with
  | none => rw [hb] at this; simp at this
  | some c =>
   rw [hb] at this;simp only [Bool.and_eq_true] at this;exact ⟨fn, c, rfl, by simpa using this.1, hb, this.2⟩
def cendD:Nat→Bool:=fun i=>i == 2 || i == 3 || i == 6 || i == 8 || i == 10 || decide (32≤i)
theorem cendD_form:∀ i,i<55→cendD i=true→i=2 ∨ i=3 ∨ i ∈ freshL:=by decide
noncomputable def ectx (noT:TypeId) (n:Nat) (offs:Nat→Nat):Ctx where
 tb:=Tryz.prog.toTables
 fx:=Tryz.prog.funcs
 fs:=Tryz.prog.funcs
 F:=epiF
 RO:=fun a=>Tryz.prog.globals.size≤a∧a<Tryz.prog.globals.size+2+n
 sh:=fun a=>if Tryz.prog.globals.size+2≤a∧a<Tryz.prog.globals.size+2+n then offs (a - (Tryz.prog.globals.size+2)) else 0
 noT:=noT
 D:=fun f=>if f=87 then cendD else fun _=>true
section
variable {noT : TypeId} {n : Nat} {m cc bl offs : Nat → Nat} {zs : Nat → List Int} {fb C : Nat} {v : World}
theorem epi_fine:∀ f,(ectx noT n offs).F f=true→Fine (ectx noT n offs) f:=fun f h=>by
 obtain ⟨hne,fn,c,h1,_,h3,h4⟩:=epi_one h;refine ⟨rfl,fn,c,h1,h3,?_⟩;show okC Tryz.prog.toTables epiF (if f=87 then cendD else fun _=>true) c=true
 rw [if_neg hne];exact h4
theorem epi_sp (k f:Nat):(ectx noT n offs).D k (specAt f)=true:=by
 show (if k=87 then cendD else fun _=>true) (specAt f)=true
 split
 ·have:decide (32≤specAt f)=true:=decide_eq_true (by show 32≤1000000000+f; exact Nat.le_trans (by decide) (Nat.le_add_right 1000000000 f))
  simp only [cendD,this,Bool.or_true]
 ·rfl
theorem epi_ch:¬ (ectx noT n offs).Ch:=by
 rintro ⟨k,h⟩;have:(if k=87 then cendD else fun _=>true) chanAt=true:=by
  split
  ·have:decide (32≤chanAt)=true:=by decide
   simp only [cendD,this,Bool.or_true]
  ·rfl
 exact absurd (h.symm.trans this) (by decide)
theorem epi_ok : CtxOk (ectx noT n offs) := by
 have k : ∀ f, epiF f = true → ∃ fn, Tryz.prog.funcs[f]? = some fn ∧ (fn.name == "runtime.NumGoroutine") = false ∧ fn.body.isNone = false := fun f h => by
  obtain ⟨_, fn, c, h1, h2, h3, _⟩ := epi_one h;exact ⟨fn, h1, h2, by rw [h3]; rfl⟩
 refine ⟨k, k, fun f fn hf => ?_, fun k f h => (by rw [epi_sp] at h; cases h), fun k f h => (by rw [epi_sp] at h; cases h)⟩;show resD fn (if f = 87 then cendD else fun _ => true) = true
 by_cases e : f = 87
 ·subst e
  rw [if_pos rfl];have hf' : Tryz.prog.funcs[(87 : Nat)]? = some fn := hf;rw [Tryz.func87] at hf';obtain rfl := Option.some.inj hf';decide +kernel
 ·rw [if_neg e]
  exact resD_all fn
noncomputable def cellE (n:Nat) (m cc:Nat→Nat) (i:Nat):Value:=if m i=0 then .slice none 0 (cc i) else .slice (some ⟨Tryz.prog.globals.size+2+i,0,none⟩) (m i) (cc i)
noncomputable def fE (noT:TypeId) (n:Nat) (m cc:Nat→Nat) (zs:Nat→List Int) (a:Nat):Obj :=
 if a<Tryz.prog.globals.size then .map #[] 0 else
 if a=Tryz.prog.globals.size then .cells #[.slice (some ⟨Tryz.prog.globals.size+1,0,none⟩) n n] noT (0,1) else
 if a=Tryz.prog.globals.size+1 then .cells ((Array.range n).map (cellE n m cc)) noT (0,n) else
 .cells ((Array.range (4*m (a - (Tryz.prog.globals.size+2)))).map fun k=>Value.int .i64 (nth (zs (a - (Tryz.prog.globals.size+2))) k)) noT (0,4*m (a - (Tryz.prog.globals.size+2)))
noncomputable def eWorld (v:World) (noT:TypeId) (n:Nat) (m cc:Nat→Nat) (zs:Nat→List Int):World := { v with heap:=(Array.range (Tryz.prog.globals.size+2+n)).map (fE noT n m cc zs) }
theorem e_at {a:Nat} (h:a<Tryz.prog.globals.size+2+n):(eWorld v noT n m cc zs).heap[a]?=some (fE noT n m cc zs a):=by
 show ((Array.range (Tryz.prog.globals.size+2+n)).map (fE noT n m cc zs))[a]?=_
 rw [Array.getElem?_map,Array.getElem?_range,if_pos h];rfl
theorem e_size:(eWorld v noT n m cc zs).heap.size=Tryz.prog.globals.size+2+n:=by
 show ((Array.range (Tryz.prog.globals.size+2+n)).map (fE noT n m cc zs)).size=_
 simp
def eR (n:Nat) (m bl:Nat→Nat) (fb C:Nat):Ren:=fun a b=>(a=Tryz.prog.globals.size∧b=fb) ∨ (a=Tryz.prog.globals.size+1∧b=C) ∨ ∃ i,i<n∧0<m i∧a=Tryz.prog.globals.size+2+i∧b=bl i
structure EpiAt (v:World) (fb C n:Nat) (m cc bl offs:Nat→Nat) (zs:Nat→List Int):Prop where
 n1:1≤n
 n20:n≤20
 glob:Tryz.prog.globals.size≤v.heap.size
 fbx:v.cell? ⟨fb,0,none⟩=some (.slice (some ⟨C,0,none⟩) n n)
 cel:∀ i,i<n→v.cell? ⟨C,i,none⟩=some (if m i=0 then .slice none 0 (cc i) else .slice (some ⟨bl i,offs i,none⟩) (m i) (cc i))
 row:∀ i,i<n→∀ k,k<4*m i→v.cell? ⟨bl i,offs i+k,none⟩=some (.int .i64 (nth (zs i) k))
 len:∀ i,i<n→(zs i).length=m i*4
 few:∀ i,i<n→m i≤400
theorem cells_of {w:World} {b o:Nat} {x:Value} (h:w.cell? ⟨b,o,none⟩=some x):∃ c T z,w.heap[b]?=some (.cells c T z)∧c[o]?=some x:=by
 unfold World.cell? at h;revert h
 cases w.heap[b]? with
 | none=>intro h; cases h
 | some o=>cases o <;> intro h <;> first | exact ⟨_,_,_,rfl,by simpa using h⟩ | cases h
theorem cell_of {w:World} {b o:Nat} {c:Array Value} {T:TypeId} {z:Nat × Nat} (h:w.heap[b]?=some (.cells c T z)):w.cell? ⟨b,o,none⟩=c[o]?:=by simp [World.cell?,h]
theorem eR_ro {a b:Nat} (h:eR n m bl fb C a b):Tryz.prog.globals.size≤a∧a<Tryz.prog.globals.size+2+n:=by
 rcases h with ⟨rfl,_⟩ | ⟨rfl,_⟩ | ⟨i,hi,_,rfl,_⟩ <;> omega
theorem esh {a:Nat}:(ectx noT n offs).sh a=if Tryz.prog.globals.size+2≤a∧a<Tryz.prog.globals.size+2+n then offs (a - (Tryz.prog.globals.size+2)) else 0:=rfl
theorem eWR (hno:Tryz.prog.toTables.info? noT=none) (h:EpiAt v fb C n m cc bl offs zs):WR (ectx noT n offs) (eR n m bl fb C) (eWorld v noT n m cc zs) v where
 lt:=by
  intro a b ab;refine ⟨by rw [e_size]; exact (eR_ro ab).2,?_⟩;rcases ab with ⟨_,rfl⟩ | ⟨_,rfl⟩ | ⟨i,hi,hm,_,rfl⟩
  ·obtain ⟨_,_,_,k,_⟩:=cells_of h.fbx; exact (Array.getElem?_eq_some_iff.1 k).1
  ·obtain ⟨_,_,_,k,_⟩:=cells_of (h.cel 0 h.n1); exact (Array.getElem?_eq_some_iff.1 k).1
  ·obtain ⟨_,_,_,k,_⟩:=cells_of (h.row i hi 0 (by omega)); exact (Array.getElem?_eq_some_iff.1 k).1
 fn:=by
  intro a b b' k1 k2;rcases k1 with ⟨h1,e1⟩ | ⟨h1,e1⟩ | ⟨i,hi,hm,h1,e1⟩ <;> rcases k2 with ⟨h2,e2⟩ | ⟨h2,e2⟩ | ⟨i',hi',hm',h2,e2⟩ <;> rw [e1,e2] <;> first | (exfalso; omega) | exact congrArg bl (by omega)
 inj:=fun a a' b ab ab' => .inr ⟨eR_ro ab,eR_ro ab'⟩
 obj:=fun a b ab hr=>absurd (eR_ro ab) hr
 win:=by
  intro a b ab hr;rw [e_at hr.2];have ab0:=ab;rcases ab with ⟨rfl,rfl⟩ | ⟨rfl,rfl⟩ | ⟨i,hi,hm,rfl,rfl⟩
  ·obtain ⟨c,T,z,k1,k2⟩:=cells_of h.fbx
   have ef:fE noT n m cc zs Tryz.prog.globals.size = .cells #[.slice (some ⟨Tryz.prog.globals.size+1,0,none⟩) n n] noT (0,1):=by
    unfold fE;rw [if_neg (by omega),if_pos rfl]
   refine ⟨_,1,c,T,z,by rw [ef]; rfl,by simp,k1,fun j u hu => ?_⟩
   match j,hu with
   | 0,hu =>
    cases hu;have hs:(ectx noT n offs).sh Tryz.prog.globals.size=0:=by rw [esh,if_neg (by omega)]
    have hs1:(ectx noT n offs).sh (Tryz.prog.globals.size+1)=0:=by rw [esh,if_neg (by omega)]
    exact ⟨.slice (some ⟨C,0,none⟩) n n,by rw [hs]; exact k2,.sl n n ⟨.inr (.inl ⟨rfl,rfl⟩),by show 0=0+(ectx noT n offs).sh (Tryz.prog.globals.size+1); rw [hs1],rfl⟩⟩
   | j+1,hu=>simp at hu
  ·obtain ⟨c,T,z,k1,k2⟩:=cells_of (h.cel 0 h.n1)
   have ef:fE noT n m cc zs (Tryz.prog.globals.size+1) = .cells ((Array.range n).map (cellE n m cc)) noT (0,n):=by
    unfold fE;rw [if_neg (by omega),if_neg (by omega),if_pos rfl]
   refine ⟨_,n,c,T,z,by rw [ef]; rfl,by simp,k1,fun j u hu => ?_⟩
   rw [Array.getElem?_map] at hu;obtain ⟨y,hy,rfl⟩:=Option.map_eq_some_iff.1 hu;obtain ⟨hlt,rfl⟩:=Array.getElem?_eq_some_iff.1 hy;simp only [Array.size_range] at hlt;simp only [Array.getElem_range];have hc:=h.cel j hlt;rw [cell_of k1] at hc;have hs1:(ectx noT n offs).sh (Tryz.prog.globals.size+1)=0:=by rw [esh,if_neg (by omega)]
   refine ⟨_,by rw [hs1]; exact hc,?_⟩;unfold cellE;by_cases h0:m j=0
   ·rw [if_pos h0,if_pos h0]; exact .sl0 _ _
   ·rw [if_neg h0,if_neg h0]
    refine .sl _ _ ⟨.inr (.inr ⟨j,hlt,by omega,rfl,rfl⟩),?_,rfl⟩;show offs j=0+(if Tryz.prog.globals.size+2≤Tryz.prog.globals.size+2+j∧Tryz.prog.globals.size+2+j<Tryz.prog.globals.size+2+n then offs (Tryz.prog.globals.size+2+j - (Tryz.prog.globals.size+2)) else 0)
    rw [if_pos (by omega),Nat.zero_add,Nat.add_sub_cancel_left]
  ·obtain ⟨c,T,z,k1,k2⟩:=cells_of (h.row i hi 0 (by omega))
   have ei:Tryz.prog.globals.size+2+i - (Tryz.prog.globals.size+2)=i:=Nat.add_sub_cancel_left ..;have ef:fE noT n m cc zs (Tryz.prog.globals.size+2+i) = .cells ((Array.range (4*m i)).map fun k=>Value.int .i64 (nth (zs i) k)) noT (0,4*m i):=by
    unfold fE;rw [if_neg (by omega),if_neg (by omega),if_neg (by omega),ei]
   refine ⟨_,4*m i,c,T,z,by rw [ef]; rfl,by simp,k1,fun j u hu => ?_⟩
   rw [Array.getElem?_map] at hu;obtain ⟨y,hy,rfl⟩:=Option.map_eq_some_iff.1 hu;obtain ⟨hlt,rfl⟩:=Array.getElem?_eq_some_iff.1 hy;simp only [Array.size_range] at hlt;simp only [Array.getElem_range];have hc:=h.row i hi j hlt;rw [cell_of k1] at hc;refine ⟨_,?_,.int _ _⟩;show c[j+(if Tryz.prog.globals.size+2≤Tryz.prog.globals.size+2+i∧Tryz.prog.globals.size+2+i<Tryz.prog.globals.size+2+n then offs (Tryz.prog.globals.size+2+i - (Tryz.prog.globals.size+2)) else 0)]?=_
   rw [if_pos (by omega),ei,Nat.add_comm];exact hc
 winG:=fun a b ab hr=>hr.1
 glob:=fun a b ab hr=>absurd (eR_ro ab) hr
 big:=⟨by rw [e_size]; show Tryz.prog.globals.size≤_; omega,h.glob⟩
 shz:=by
  intro a hr;show (if _ then _ else 0)=0
  rw [if_neg (fun k=>hr ⟨by omega,k.2⟩)]
 roLt:=fun a hr=>by rw [e_size]; exact hr.2
 noInfo:=hno
theorem e_fnd (h:EpiAt v fb C n m cc bl offs zs) (t:Tp) (d:Nat):FndAt ((eWorld v noT n m cc zs).tp t d) (Tryz.prog.globals.size+1) n zs:=fun i hi=>by
 have hC:((eWorld v noT n m cc zs).tp t d).cell? ⟨Tryz.prog.globals.size+1,i,none⟩=some (cellE n m cc i):=by
  have k:=e_at (noT:=noT) (n:=n) (m:=m) (cc:=cc) (zs:=zs) (v:=v) (a:=Tryz.prog.globals.size+1) (by omega);have ef:fE noT n m cc zs (Tryz.prog.globals.size+1) = .cells ((Array.range n).map (cellE n m cc)) noT (0,n):=by
   unfold fE;rw [if_neg (by omega),if_neg (by omega),if_pos rfl]
  rw [ef] at k;rw [cell_of (w:=(eWorld v noT n m cc zs).tp t d) k,Array.getElem?_map,Array.getElem?_range,if_pos hi];rfl
 by_cases h0:m i=0
 ·refine ⟨none,0,cc i,by rw [hC]; simp [cellE,h0],⟨by rw [h.len i hi,h0],fun k=>absurd k (by omega)⟩,by omega⟩
 ·refine ⟨some ⟨Tryz.prog.globals.size+2+i,0,none⟩,m i,cc i,by rw [hC]; simp [cellE,h0],⟨h.len i hi,fun _=>⟨_,0,rfl,by show _<(eWorld v noT n m cc zs).heap.size; rw [e_size]; omega,fun k hk => ?_⟩⟩,h.few i hi⟩
  have k1:=e_at (noT:=noT) (n:=n) (m:=m) (cc:=cc) (zs:=zs) (v:=v) (a:=Tryz.prog.globals.size+2+i) (by omega);have ei:Tryz.prog.globals.size+2+i - (Tryz.prog.globals.size+2)=i:=Nat.add_sub_cancel_left ..;have ef:fE noT n m cc zs (Tryz.prog.globals.size+2+i) = .cells ((Array.range (4*m i)).map fun k=>Value.int .i64 (nth (zs i) k)) noT (0,4*m i):=by
   unfold fE;rw [if_neg (by omega),if_neg (by omega),if_neg (by omega),ei]
  rw [ef] at k1;rw [cell_of (w:=(eWorld v noT n m cc zs).tp t d) k1,Array.getElem?_map,Array.getElem?_range,if_pos (by omega)];simp
end
end Rn
namespace Rn
open Go.Conc Go.RowKit
theorem Res.of_wp {P:Program} {R:Value→World→Prop} {R':Tp→Nat→Ending→World→Prop} {f:FuncId} {fn:Func} {c:Code} {ts:Array Value} {w:World} (hf:P.funcs[f]?=some fn)
  (h:∀ t d,c.wp P (bodyPost P fn (R' t d)) ⟨ts,[]⟩ (w.tp t d)) (hR:∀ t d e w',R' t d e w'→∃ v,e = .returned v∧R v w'):Res P (fun b v w=>b=false∧R v w) ⟨fra f ts [.code c] false,[Xb],w⟩:=fun t d=>by
 obtain ⟨e,a',w',hq,harr⟩:=h t d (base f) [] [Xb];have key:∀ {todo:List Item} {v:Value},a'.defers = []→(results fn a'.tmps).run P w' = .ok v w'→R' t d (.returned v) w'→Steps P (lone ((base f).at ⟨ts,[]⟩ [.code c]) [Xb] (w.tp t d)) (lone { (base f).at a' todo with mode := .returning } [Xb] w') →
   ∃ K b v w' fr,runN P K (St.at ⟨fra f ts [.code c] false,[Xb],w⟩ t d) = .next (lone fr [Xb] w')∧(b=false∧R v w')∧Ends P b fr w' v:=by
  rintro todo v hd hr hR1 ⟨K,hK⟩;obtain ⟨v',e1,hv⟩:=hR _ _ _ _ hR1;cases e1;obtain ⟨ts',ds⟩:=a';cases hd;exact ⟨K,false,v,w',_,hK,⟨rfl,hv⟩,.inl ⟨rfl,rfl,rfl,rfl,fn,hf,hr⟩⟩
 cases e with
 | normal =>
  obtain ⟨hd,v,hr,hR1⟩:=hq;refine key (todo := []) hd hr hR1 (Steps.trans harr (.one ?_));refine step_lone_go ?_;show (stepG P true (G ((base f).at a' []) [Xb]) w').bare=_
  rw [stepG_end];rfl
 | ret =>
  obtain ⟨hd,v,hr,hR1⟩:=hq;obtain ⟨todo,hs⟩:=harr;exact key hd hr hR1 hs
 | exit id=>exact hq.elim
 | goto l=>exact hq.elim
 | panic ch=>obtain ⟨_,hq⟩:=hq; obtain ⟨_,e,_⟩:=hR _ _ _ _ hq; cases e
 | outgrown=>obtain ⟨_,e,_⟩:=hR _ _ _ _ hq; cases e
theorem cend_form:∃ r0 pr r3 r4 r5 l rw,pbody = .seq r0 (.seq pr (.seq r3 (.seq r4 (.seq (.seq r5 l) (.seq rw cend))))):=⟨_,_,_,_,_,_,_,rfl⟩
noncomputable def ts0:Array Value := #[undef,undef,.slice none 0 0,.pointer (some ⟨Tryz.prog.globals.size,0,none⟩),undef,undef,undef,undef,undef,undef,undef,undef,undef,undef,undef,undef,undef,undef,undef,undef,undef,undef,undef,undef,undef,undef,undef,undef,undef,undef,undef,undef,undef,undef,undef,undef,undef,undef,undef,undef,undef,undef,undef,undef,undef,undef,undef,undef,undef,undef,undef,undef,undef,undef,undef]
theorem ts0_fresh:Fresh ts0:=⟨rfl,List.forall_mem_cons.2 ⟨rfl,List.forall_mem_cons.2 ⟨rfl,List.forall_mem_cons.2 ⟨rfl,List.forall_mem_cons.2 ⟨rfl,List.forall_mem_cons.2 ⟨rfl,List.forall_mem_cons.2 ⟨rfl,List.forall_mem_cons.2 ⟨rfl,List.forall_mem_cons.2 ⟨rfl,List.forall_mem_cons.2 ⟨rfl,List.forall_mem_cons.2 ⟨rfl,List.forall_mem_cons.2 ⟨rfl,List.forall_mem_cons.2 ⟨rfl,List.forall_mem_cons.2 ⟨rfl,List.forall_mem_cons.2 ⟨rfl,List.forall_mem_cons.2 ⟨rfl,List.forall_mem_cons.2 ⟨rfl,List.forall_mem_cons.2 ⟨rfl,List.forall_mem_cons.2 ⟨rfl,List.forall_mem_cons.2 ⟨rfl,List.forall_mem_cons.2 ⟨rfl,List.forall_mem_cons.2 ⟨rfl,List.forall_mem_cons.2 ⟨rfl,List.forall_mem_cons.2 ⟨rfl,List.forall_mem_cons.2 ⟨rfl,List.forall_mem_cons.2 ⟨rfl,List.forall_mem_cons.2 ⟨rfl,List.forall_mem_nil _⟩⟩⟩⟩⟩⟩⟩⟩⟩⟩⟩⟩⟩⟩⟩⟩⟩⟩⟩⟩⟩⟩⟩⟩⟩⟩⟩
section
variable {noT : TypeId} {n : Nat} {m cc bl offs : Nat → Nat} {zs : Nat → List Int} {rb fb wg C : Nat} {v : World}
theorem eD68:(ectx noT n offs).D 87=cendD:=by
 show (if (87:Nat)=87 then cendD else fun _=>true)=cendD
 rw [if_pos rfl]
theorem e_von {T:Array Value} (hT:TC T rb fb wg n):VOn (ectx noT n offs) (eR n m bl fb C) ((ectx noT n offs).D 87) ts0 T:=by
 rw [eD68];refine ⟨by rw [hT.size]; rfl,fun i x y hi hx hy => ?_⟩
 have hl:i<55:=(Array.getElem?_eq_some_iff.1 hx).1;rcases cendD_form i hl hi with rfl | rfl | hm
 ·rw [ts0_fresh.1] at hx
  rw [hT.fresh.1] at hy;cases hx; cases hy;exact .sl0 _ _
 ·have h3:ts0[3]?=some (.pointer (some ⟨Tryz.prog.globals.size,0,none⟩)):=rfl
  rw [h3] at hx;rw [hT.s3] at hy;cases hx; cases hy;exact .ptr ⟨.inl ⟨rfl,rfl⟩,by show 0=0+(ectx noT n offs).sh Tryz.prog.globals.size; rw [esh,if_neg (by omega)],rfl⟩
 ·rw [ts0_fresh.2 i hm] at hx
  rw [hT.fresh.2 i hm] at hy;cases hx; cases hy;exact vr_undef
theorem own_end {w:World} {base q:Nat} {y:Value} {xs:List Int} (h:OwnZ w base 66 4 y q xs) :
  (y = .slice none 0 0∧xs = []) ∨ ∃ g cap cur,y = .slice (some ⟨g,0,none⟩) q cap∧base≤g∧q*4=xs.length∧1≤q∧q≤cap∧cap≤maxLen∧w.heap[g]?=some (.cells cur 66 (0,0))∧cur.size=cap*4∧(∀ k,k<q*4→cur[k]?=some (.int .i64 (nth xs k)))∧∀ k,q*4≤k→k<cap*4→cur[k]?=some (.int .i64 0):=by
 have hform:=h.own.form;have hrest:=h.rest;have hnz:=h.nz;obtain ⟨⟨⟨hl,h⟩,hx⟩,_,_⟩:=h;rcases h with ⟨rfl,rfl⟩ | ⟨g,cap,cur,rfl,hb,hh,hq,hm,hs,ht⟩
 ·exact .inl ⟨rfl,List.eq_nil_of_length_eq_zero (by rw [hx])⟩
 ·refine .inr ⟨g,cap,cur,rfl,hb,hx.symm,?_,hq,hm,hh,hs,?_,fun k h1 h2=>hrest g q cap cur rfl hh k h1 (by rw [hs]; exact h2)⟩
  ·rcases Nat.eq_zero_or_pos q with e | e
   ·subst e
    have:=hnz (List.eq_nil_of_length_eq_zero (by rw [hx,Nat.zero_mul]));cases this
   ·exact e
  rcases hform with ⟨e,_⟩ | ⟨g',cap',e,_,_,c2,h2,_,h4⟩
  ·cases e
  ·cases e
   rw [hh] at h2;cases h2;exact h4
def EndV (zs:Nat→List Int) (n:Nat) (own:Bl) (y:Value) (w:World):Prop :=
 (y = .slice none 0 0∧ddAll zs n = []) ∨ ∃ g q cap cur,y = .slice (some ⟨g,0,none⟩) q cap∧own g∧q*4=(ddAll zs n).length∧1≤q∧q≤cap∧cap≤maxLen∧w.heap[g]?=some (.cells cur 66 (0,0))∧cur.size=cap*4∧(∀ k,k<q*4→cur[k]?=some (.int .i64 (nth (ddAll zs n) k)))∧∀ k,q*4≤k→k<cap*4→cur[k]?=some (.int .i64 0)
def StopE (cf:Frame) (cs:List Frame) (zs:Nat→List Int) (n:Nat) (own:Bl) (g:Goroutine) (w:World):Prop:=∃ y,g=G (cf.finish y) cs∧EndV zs n own y w
def roE (n:Nat) (m bl:Nat→Nat) (fb C:Nat):Bl:=fun b=>∃ a,eR n m bl fb C a b
theorem cend_ok:okI (ectx noT n offs).tb (ectx noT n offs).F ((ectx noT n offs).D 87) (.code cend)=true:=by
 rw [eD68];show okC Tryz.prog.toTables epiF cendD cend=true
 decide +kernel
theorem epi_way (hno:Tryz.prog.toTables.info? noT=none) (cf:Frame) (cs:List Frame) {T:Array Value} (hT:TC T rb fb wg n) (hE:EpiAt v fb C n m cc bl offs zs) :
  WayG Tryz.prog true (fun own=>Stays (fun b=>own b ∨ roE n m bl fb C b)) (fun own=>Did own (roE n m bl fb C)) (StopE cf cs zs n) (fun _=>False) (G (fra 87 T [.code cend] false) (cf :: cs)) v:=by
 obtain ⟨r0,pr,r3,r4,r5,l,rw',e⟩:=cend_form;have hres:Res (ectx noT n offs).Px (fun b y w'=>b=false∧∃ q,OwnZ w' (Tryz.prog.globals.size+2+n) 66 4 y q (ddAll zs n)) ⟨fra 87 ts0 [.code cend] false,[Xb],eWorld v noT n m cc zs⟩:=by
  refine Res.of_wp (P:=(ectx noT n offs).Px) (fn:=Tryz.f87) Tryz.func87 (fun t d=>epiW _ _ _ _ _ _ _ _ _ _ _ _ _ _ _ _ _ _ _ _ _ _ _ _ _ _ _ _ _ _ _ _ _ _ _ _ _ _ _ _ _ _ _ _ _ _ _ _ _ _ _ _ _ _ Tryz.prog.globals.size (Tryz.prog.globals.size+1) n zs ((eWorld v noT n m cc zs).tp t d) ?_ ?_ (e_fnd hE t d) hE.n20 r0 pr r3 r4 r5 l rw' cend e) ?_
  ·have k:=e_at (noT:=noT) (n:=n) (m:=m) (cc:=cc) (zs:=zs) (v:=v) (a:=Tryz.prog.globals.size) (by omega)
   have ef:fE noT n m cc zs Tryz.prog.globals.size = .cells #[.slice (some ⟨Tryz.prog.globals.size+1,0,none⟩) n n] noT (0,1):=by
    unfold fE;rw [if_neg (by omega),if_pos rfl]
   rw [ef] at k;rw [cell_of (w:=(eWorld v noT n m cc zs).tp t d) k];rfl
  ·show _<(eWorld v noT n m cc zs).heap.size
   rw [e_size]; omega
  ·rintro t d e w' ⟨y,q,rfl,ho,_⟩
   have hs:((eWorld v noT n m cc zs).tp t d).heap.size=Tryz.prog.globals.size+2+n:=e_size (v:=v);rw [hs] at ho;exact ⟨y,rfl,q,ho⟩
 have hfr:FrR (ectx noT n offs) (eR n m bl fb C) (fra 87 ts0 [.code cend] false) (fra 87 T [.code cend] false) :=
  .mk false ⟨rfl,_,_,Tryz.func87,pbody_body⟩ (e_von hT) (.cons cend_ok .nil)
 have hway:=way_of_res (main:=true) (bs:=cf :: cs) (ro:=roE n m bl fb C) (own:=fun _=>False) epi_ok epi_ch epi_sp epi_fine hres _ hres.acc (Path.refl _ _) hfr (LR.nil) (eWR hno hE) (fun a b ab=>⟨fun hr=>absurd (eR_ro ab) hr,fun _=>⟨a,ab⟩⟩);have hway2:=hway.toG.bind' (R':=fun own=>Stays (fun b=>own b ∨ roE n m bl fb C b)) (D':=fun own=>Did own (roE n m bl fb C)) (Stop':=fun o g w1=>∀ w2,Stays (fun b=>o b ∨ roE n m bl fb C b) w1 w2→AtEnd (ectx noT n offs) (fun b y w'=>b=false∧∃ q,OwnZ w' (Tryz.prog.globals.size+2+n) 66 4 y q (ddAll zs n)) (roE n m bl fb C) (cf :: cs) o g w2)
  (fun _ _ _ x=>x) (fun _ _ _ _ x=>x) fun o g w x => .stop fun w1 h1 w2 h2=>x w2 (h1.trans h2)
 refine hway2.bind (fun _ _ => .refl _ _) (fun _ _ _ x=>x) (fun _ _ _ _ x=>x) ?_;intro o g w2 hend;have hrun:g.status = .running:=by
  obtain ⟨_,_,_,_,_,_,rfl,_⟩:=hend w2 (.refl _ _);rfl
 refine .next hrun fun w3 h3 => ?_
 obtain ⟨r,wl,f,f',eb,x,rfl,hf,hwr,hte,hin,⟨rfl,q,ho⟩,hends⟩:=hend w3 h3;have hlv:f.leaving Tryz.prog wl (.returned x):=by
  rcases hends with ⟨_,h⟩ | ⟨e,_⟩
  ·exact h
  ·cases e
 obtain ⟨y,v1,es,r1,hs,hext,hw1,hev,hvr⟩:=ret_step epi_ok hf hwr hte hlv cf cs true;have hd:=hext.did epi_ch hwr hw1 hin hev;have hin1:=hext.within hwr hw1 hin;refine ⟨_,v1,es,hs,hd,.stop fun w4 h4=>⟨y,rfl,?_⟩⟩;rcases own_end ho with ⟨rfl,hnil⟩ | ⟨g,cap,cur,rfl,hg,hq,hq1,hqc,hcm,hh,hsz,hcur,hcz⟩
 ·cases hvr
  exact .inl ⟨rfl,hnil⟩
 ·have hnr:¬ (ectx noT n offs).RO g:=fun k=>by have:=k.2; omega
  cases hvr with
  | slE=>omega
  | @sl a b _ _ hab =>
   obtain ⟨k,e1,e2⟩:=hab;obtain ⟨b0,b1,b2⟩:=b;simp only at k e1 e2;rw [hw1.shz _ hnr] at e1;subst e1; subst e2;obtain ⟨c',hc',hva⟩:=cells_inv hw1 k hnr hh;refine .inr ⟨b0,q,cap,c',rfl,(hin1 _ _ k).1 hnr,hq,hq1,hqc,hcm,?_,by rw [← hva.size,hsz],fun j hj => ?_,fun j h1 h2 => ?_⟩
   ·rw [h4.block b0 (hw1.lt _ _ k).2 (.inl ((hin1 _ _ k).1 hnr))]
    exact hc'
   ·obtain ⟨u,hu,hvu⟩:=hva.get? (hcur j hj)
    rw [hu,int_inv hvu]
   ·obtain ⟨u,hu,hvu⟩:=hva.get? (hcz j h1 h2)
    rw [hu,int_inv hvu]
end
end Rn
namespace Rn
open Go.Conc Go.RowKit
open Go.ConcN (WgLive PayAt Has)
open Go.ConcR (KK WgAt Payload)
section
variable {n c blk off : Nat} {xs : List Int}
theorem AtNew.loop {SB own : Bl} {rb fb wg C B : Nat} {T : Array Value} {w : World} (h : AtNew own n c rb fb blk off wg C T w) (hown : ∀ b, own b → B ≤ b ∧ b < w.heap.size) (hSB : ∀ b, SB b → b < B) (hblk : blk < B ∧ ¬ SB blk) (hG : Tryz.prog.globals.size ≤ B) (hn : 1 ≤ n) (hn20 : n ≤ 20)
    (hrows : ∀ k, k < 4 * n → w.cell? ⟨blk, off + k, none⟩ = some (.int .i64 (nth xs k))) : AtLoop SB n c xs rb fb blk off wg C w := by
  obtain ⟨o1, o2, o3, o4⟩ := h.own;obtain ⟨n1, n2, n3, n4, n5, n6⟩ := h.ne;have a1 := hown _ o1;have a2 := hown _ o2;have a3 := hown _ o3;have a4 := hown _ o4;have no : ∀ b, own b → ¬ SB b := fun b hb hs => by have := hown b hb; have := hSB b hs; omega
  exact { n1 := hn, n20 := hn20, glob := by omega, ne := Ne.symm n6, hwg := h.wgb, pay := h.cb, sWg := no _ o3, sC := no _ o4
          hrb := ⟨a1.2, n2, n3, no _ o1⟩, hfb := ⟨a2.2, n4, n5, no _ o2⟩, hblk := ⟨by omega, by omega, by omega, hblk.2⟩, rbx := h.rbx, fbx := h.fbx, rows := hrows }
theorem epi_at {zs:Nat→List Int} {v:World} {fb C:Nat} (hn:1≤n) (hn20:n≤20) (hG:Tryz.prog.globals.size≤v.heap.size) (hfb:v.cell? ⟨fb,0,none⟩=some (.slice (some ⟨C,0,none⟩) n n)) (hz:∀ i,i<n→(zs i).length≤1600)
  {B:Nat} (h:∀ i,i<n→∃ y O,Has C i y v∧FinT zs i O y v∧∀ b,O b→B≤b∧b<v.heap.size):∃ m cc bl offs,EpiAt v fb C n m cc bl offs zs∧∀ i,i<n→0<m i→B≤bl i∧bl i<v.heap.size:=by
 have h1:∀ i,∃ q:Nat × Nat × Nat × Nat,i<n→v.cell? ⟨C,i,none⟩=some (if q.1=0 then .slice none 0 q.2.1 else .slice (some ⟨q.2.2.1,q.2.2.2,none⟩) q.1 q.2.1)∧(∀ k,k<4*q.1→v.cell? ⟨q.2.2.1,q.2.2.2+k,none⟩=some (.int .i64 (nth (zs i) k)))∧(zs i).length=q.1*4∧(0<q.1→B≤q.2.2.1∧q.2.2.1<v.heap.size):=by
  intro i;by_cases hi:i<n
  ·obtain ⟨y,O,hy,⟨A,m,c,rfl,hm,hx⟩,hO⟩:=h i hi
   by_cases h0:m=0
   ·subst h0
    rcases hx with ⟨_,rfl⟩ | ⟨h0,_⟩
    ·exact ⟨(0,c,0,0),fun _=>⟨by rw [if_pos rfl]; exact hy,fun k hk=>absurd hk (by simp),hm.symm,fun k=>absurd k (by simp)⟩⟩
    ·exact absurd h0 (by omega)
   ·rcases hx with ⟨e,_⟩ | ⟨_,b,off,rfl,hob,_,hc⟩
    ·exact absurd e h0
    ·exact ⟨(m,c,b,off),fun _=>⟨by rw [if_neg h0]; exact hy,hc,hm.symm,fun _=>hO b hob⟩⟩
  ·exact ⟨(0,0,0,0),fun k=>absurd k hi⟩
 obtain ⟨f,hf⟩:=Classical.skolem.1 h1;exact ⟨fun i=>(f i).1,fun i=>(f i).2.1,fun i=>(f i).2.2.1,fun i=>(f i).2.2.2,⟨hn,hn20,hG,hfb,fun i hi=>(hf i hi).1,fun i hi=>(hf i hi).2.1,fun i hi=>(hf i hi).2.2.1,fun i hi=>by have:=(hf i hi).2.2.1; have:=hz i hi; show (f i).1≤400; omega⟩,fun i hi=>(hf i hi).2.2.2⟩
theorem cornersReal {zs:Nat→List Int} {noT:TypeId} (hno:Tryz.prog.toTables.info? noT=none) (hz:∀ i,i<n→(zs i).length≤1600)
  (hlone:rowsB n xs=true→∀ i,i<n→∀ w t d,Calls Tryz.prog 108 #[.slice (some ⟨Tryz.prog.globals.size,0,none⟩) n c,.int .i64 i] ((winW w n xs noT).tp t d) fun e w'=>∃ v,e = .returned v∧∃ A m c',v = .slice A m c'∧m*4=(zs i).length∧((m=0∧A=none) ∨ 0<m∧∃ b off,A=some ⟨b,off,none⟩∧b ≠ Tryz.prog.globals.size∧∀ k,k<4*m→w'.cell? ⟨b,off+k,none⟩=some (.int .i64 (nth (zs i) k))))
  {SB:Bl} {gs:Array Goroutine} {w:World} {t:Trace} (sl:Option (Nat × Nat)) (hc:Calm Tryz.prog SB gs w t) {cf:Frame} {cs:List Frame}
  (h0:gs[0]?=some (G (Frame.enter Tryz.prog 87 #[.slice (some ⟨blk,off,none⟩) n c] .normal) (cf :: cs)))
  (hn:1≤n) (hn2:n≤1048576) (hxs:xs.length=n*4) (hrows:∀ k,k<4*n→w.cell? ⟨blk,off+k,none⟩=some (.int .i64 (nth xs k))) (hb:blk<w.heap.size∧¬ SB blk) (hG:Tryz.prog.globals.size≤w.heap.size) :
  ∃ N gs' sl' t' w' SB' y own,runNT Tryz.prog N (crowd gs w sl) t=(.next (crowd gs' w' sl'),t')∧Calm Tryz.prog SB' gs' w' t'∧(∀ b,SB' b→SB b ∨ w.heap.size≤b)∧gs'[0]?=some (G (cf.finish y) cs)∧Stays (fun b=>b<w.heap.size) w w' ∧
   (∀ b,own b→w.heap.size≤b∧b<w'.heap.size∧¬ SB' b)∧((rowsB n xs=false∧y = .slice none 0 0) ∨ (rowsB n xs=true∧EndV zs n own y w')):=by
 obtain ⟨N1,gs1,sl1,t1,a1,w1,own1,e1,_,c1,g1,s1,hst,hran⟩:=beside_way (pro_way hno cf cs hn hn2 hxs hrows hG) (sl:=sl) hc h0 (fun b hb'=>by
  rcases hb' with hb' | rfl
  ·exact hb'.elim
  ·exact hb)
 have hst1:Stays (fun b=>b<w.heap.size) w w1:=⟨hran.tape,hran.os,hran.output,hran.size,fun b hb' _=>hran.block b hb' (fun k=>k)⟩;rcases hst with ⟨hB,rfl⟩ | ⟨hB,T,rb,fb,wg,C,rfl,hA⟩
 ·exact ⟨N1,gs1,sl1,t1,w1,SB,_,fun _=>False,e1,c1,fun b h => .inl h,g1,hst1,fun b h=>h.elim,.inl ⟨hB,rfl⟩⟩
 have hrb:∀ b,own1 b→w.heap.size≤b∧b<w1.heap.size:=fun b hb=>(hran.news b hb).resolve_left (fun k=>k)
 have hn20:n≤20:=by
  simp only [rowsB,Bool.and_eq_true,inB_iff] at hB;omega
 have hloop:AtLoop SB n c xs rb fb blk off wg C w1:=hA.loop hrb hc.sb hb hG hn hn20 fun k hk=>by
  rw [← hrows k hk];exact cell_blk (hst1.block blk hb.1 hb.1) _
 obtain ⟨N2,gs2,sl2,t2,w2,T2,e2,c2,_,g2,hT2,hst2,hpay,hres⟩:=phaseC hno (hlone hB) sl1 c1 g1 hA.tc hA.s24 hA.s25 hloop;have hfb:w2.cell? ⟨fb,0,none⟩=some (.slice (some ⟨C,0,none⟩) n n):=(cell_blk (hst2.block fb hloop.hfb.1 ⟨hloop.hfb.1,hloop.hfb.2.1,hloop.hfb.2.2.1⟩) 0).trans hloop.fbx;have hsz1:=hst1.size;have hsz2:=hst2.size;obtain ⟨m,cc,bl,offs,hE,hbl⟩:=epi_at (v:=w2) (B:=w1.heap.size) hn hn20 (by omega) hfb hz fun i hi=>hres i hi
 have hwg1:=hrb _ hA.own.2.2.1;have hC1:=hrb _ hA.own.2.2.2;obtain ⟨N3,gs3,sl3,t3,a3,w3,own3,e3,_,c3,g3,s3,⟨y,rfl,hy⟩,hran3⟩:=beside_way (epi_way hno cf cs hT2 hE) (sl:=sl2) c2 g2 (fun b hb'=>by
  rcases hb' with hb' | ⟨a,⟨_,rfl⟩ | ⟨_,rfl⟩ | ⟨i,hi,hm,_,rfl⟩⟩
  ·exact hb'.elim
  ·exact ⟨by have:=hloop.hfb.1; omega,fun k=>k.elim hloop.hfb.2.2.2 hloop.hfb.2.1⟩
  ·exact ⟨by omega,fun k=>k.elim hloop.sC hloop.ne⟩
  ·have:=hbl i hi hm
   exact ⟨this.2,fun k=>k.elim (fun k=>by have:=hc.sb _ k; omega) fun k=>by omega⟩)
 refine ⟨N1+(N2+N3),gs3,sl3,t3,w3,_,y,own3,by rw [runNT_add,e1]; show runNT _ (N2+N3) _ _=_; rw [runNT_add,e2]; exact e3,c3,fun b hb => ?_,g3,⟨hran3.tape.trans (hst2.tape.trans hst1.tape),hran3.os.trans (hst2.os.trans hst1.os),hran3.output.trans (hst2.output.trans hst1.output),by have:=hran3.size; omega,fun b hb' _ => ?_⟩,fun b hb => ?_,.inr ⟨hB,hy⟩⟩
 ·rcases hb with hb | rfl
  ·exact .inl hb
  ·exact .inr hwg1.1
 ·rw [hran3.block b (by omega) (fun k=>k),hst2.block b (by omega) ⟨by omega,by omega,by omega⟩,hst1.block b hb' hb']
 ·rcases hran3.news b hb with hb | hb
  ·exact hb.elim
  ·exact ⟨by omega,hb.2,fun k=>k.elim (fun k=>by have:=hc.sb _ k; omega) fun k=>by omega⟩
end
end Rn
section
open Go.RowKit
section
variable (rs : List Int) (n : Nat)
def cfStep (i k m:Nat) (acc:List Int):List Int:=if (crB rs i k m && fulAll rs n (crH rs i k m) (crV rs i k m) (crM rs i k m) (crD rs i k m))=true then acc ++ [crH rs i k m,crV rs i k m,crM rs i k m,crD rs i k m] else acc
def cfM (i k:Nat) (acc:List Int) (t:Nat):List Int:=foldN (fun j a=>cfStep rs n i k (k+1+j) a) t acc
def cfK (i:Nat) (acc:List Int) (t:Nat):List Int:=foldN (fun j a=>cfM rs n i (i+1+j) a (n - (i+1+j+1))) t acc
def cfI (i:Nat):List Int:=cfK rs n i [] (n - (i+1))
end
variable {rs : List Int} {n : Nat}
structure CfFacts (rs:List Int) (n i k m:Nat) (acc:List Int) (H V M D:Int) (B:Bool):Prop where
 no:B=false→cfStep rs n i k m acc=acc
 all0:fulAll rs n H V M D=false→cfStep rs n i k m acc=acc
 yes:B=true→fulAll rs n H V M D=true→cfStep rs n i k m acc=acc ++ [H,V,M,D]
theorem cf_names (rs:List Int) (n i k m:Nat) (acc:List Int):∃ (H V M D:Int) (B:Bool),CfFacts rs n i k m acc H V M D B∧solV (nth rs (i*4)) (nth rs (i*4+1)) (nth rs (i*4+2)) (nth rs (i*4+3)) (nth rs (k*4)) (nth rs (k*4+1)) (nth rs (k*4+2)) (nth rs (k*4+3)) (nth rs (m*4)) (nth rs (m*4+1)) (nth rs (m*4+2)) (nth rs (m*4+3))=thrV H V M D B :=
 ⟨_,_,_,_,_,⟨fun e=>by simp [cfStep,e],fun e=>by simp [cfStep,e],fun e e2=>by simp [cfStep,e,e2]⟩,crV_eq rs i k m⟩
theorem cfM_s (i k:Nat) (acc:List Int) (t:Nat):cfM rs n i k acc (t+1)=cfStep rs n i k (k+1+t) (cfM rs n i k acc t):=rfl
theorem cfK_s (i:Nat) (acc:List Int) (t:Nat):cfK rs n i acc (t+1)=cfM rs n i (i+1+t) (cfK rs n i acc t) (n - (i+1+t+1)):=rfl
theorem cfStep_acc {i k m:Nat} {acc:List Int} {q b:Nat} (h:CorAcc acc q b):∃ q',CorAcc (cfStep rs n i k m acc) q' (b+1):=by
 unfold cfStep;split
 ·exact ⟨q+1,by simp [h.len]; omega,by have:=h.few; omega⟩
 ·exact ⟨q,h.len,by have:=h.few; omega⟩
theorem cfM_acc {i k:Nat} {acc:List Int} {q b:Nat} (h:CorAcc acc q b):∀ t,∃ q',CorAcc (cfM rs n i k acc t) q' (b+t)
 | 0=>⟨q,h⟩
 | t+1=>by obtain ⟨q',h'⟩:=cfM_acc h t; rw [cfM_s]; exact cfStep_acc h'
theorem cfK_acc {i:Nat} {acc:List Int} {q b:Nat} (hn:n≤20) (h:CorAcc acc q b):∀ t,∃ q',CorAcc (cfK rs n i acc t) q' (b+20*t)
 | 0=>⟨q,h⟩
 | t+1=>by
  obtain ⟨q',h'⟩:=cfK_acc hn h t;obtain ⟨q2,h2⟩:=cfM_acc (rs:=rs) (n:=n) (i:=i) (k:=i+1+t) h' (n - (i+1+t+1));rw [cfK_s];exact ⟨q2,h2.len,by have:=h2.few; omega⟩
theorem cfI_acc (hn:n≤20) (i:Nat):∃ q,CorAcc (cfI rs n i) q 400:=by
 obtain ⟨q,h⟩:=cfK_acc (rs:=rs) (n:=n) (i:=i) (acc := []) (q:=0) (b:=0) hn ⟨rfl,Nat.le_refl _⟩ (n - (i+1));exact ⟨q,h.len,by have:=h.few; omega⟩
def ddOne (acc:List Int) (H V M D:Int):List Int:=if hasTo acc H V M D (acc.length / 4)=true then acc else acc ++ [H,V,M,D]
theorem ddStep_one (zs acc:List Int) (j:Nat):ddStep zs acc j=ddOne acc (nth zs (j*4)) (nth zs (j*4+1)) (nth zs (j*4+2)) (nth zs (j*4+3)):=rfl
theorem nth_left (zs ys:List Int) {j:Nat} (h:j<zs.length):nth (zs ++ ys) j=nth zs j:=by
 simp [nth,List.getD_eq_getElem?_getD,List.getElem?_append_left h]
theorem nth_right (zs ys:List Int) (j:Nat):nth (zs ++ ys) (zs.length+j)=nth ys j:=by
 simp [nth,List.getD_eq_getElem?_getD,List.getElem?_append_right]
theorem ddRow_left {zs ys acc:List Int}:∀ {t:Nat},t*4≤zs.length→ddRow (zs ++ ys) acc t=ddRow zs acc t
 | 0,_=>rfl
 | t+1,h=>by
  rw [ddRow_s,ddRow_s,ddRow_left (by omega),ddStep_one,ddStep_one,nth_left _ _ (by omega),nth_left _ _ (by omega),nth_left _ _ (by omega),nth_left _ _ (by omega)]
theorem ddRow_snoc {zs acc:List Int} {q:Nat} {H V M D:Int} (h:zs.length=q*4):ddRow (zs ++ [H,V,M,D]) acc (q+1)=ddOne (ddRow zs acc q) H V M D:=by
 rw [ddRow_s,ddRow_left (by omega),ddStep_one];have e0:=nth_right zs [H,V,M,D] 0;have e1:=nth_right zs [H,V,M,D] 1;have e2:=nth_right zs [H,V,M,D] 2;have e3:=nth_right zs [H,V,M,D] 3;rw [h] at e0 e1 e2 e3;rw [Nat.add_zero] at e0;rw [e0,e1,e2,e3];rfl
theorem ful_all {i k m:Nat} (hr:allTo (rowAt rs) n) (h1:1≤n) (h40:n≤40) (hb:crB rs i k m=true):fulAll rs n (crH rs i k m) (crV rs i k m) (crM rs i k m) (crD rs i k m)=crAll rs n i k m:=by
 have ht:=cr_thr rs hb;have hin:inB (n:Int) 1 40=true:=by rw [inB_iff]; omega
 unfold fulAll crAll;rw [hin,Bool.true_and];have key:∀ x,x<n→fulAt rs (crH rs i k m) (crV rs i k m) (crM rs i k m) (crD rs i k m) x=metAt rs (crH rs i k m) (crV rs i k m) (crM rs i k m) (crD rs i k m) x:=fun x hx=>fulB_t ht (hr x hx)
 cases e:allB (metAt rs (crH rs i k m) (crV rs i k m) (crM rs i k m) (crD rs i k m)) n
 ·cases e2:allB (fulAt rs (crH rs i k m) (crV rs i k m) (crM rs i k m) (crD rs i k m)) n
  ·rfl
  ·have:=allB_out e2
   rw [allB_t (fun x hx=>by rw [← key x hx]; exact this x hx)] at e;cases e
 ·have:=allB_out e
  exact allB_t fun x hx=>by rw [key x hx]; exact this x hx
section
variable (hr : allTo (rowAt rs) n) (h1 : 1 ≤ n) (h40 : n ≤ 40)
include hr h1 h40
theorem dd_step {i k m q b:Nat} {zs acc:List Int} (hz:CorAcc zs q b):ddRow (cfStep rs n i k m zs) acc ((cfStep rs n i k m zs).length / 4)=crStep rs n i k m (ddRow zs acc (zs.length / 4)):=by
 have hq:zs.length / 4=q:=by have:=hz.len; omega
 rw [hq];unfold cfStep crStep;cases hb:crB rs i k m
 ·simp [hq]
 ·rw [ful_all hr h1 h40 hb]
  cases ha:crAll rs n i k m
  ·simp [hq]
  ·simp only [Bool.and_self,if_true,Bool.true_and,Bool.and_true]
   have e:(zs ++ [crH rs i k m,crV rs i k m,crM rs i k m,crD rs i k m]).length / 4=q+1:=by simp [hz.len]
   rw [e,ddRow_snoc hz.len,ddOne,crHas];cases hasTo (ddRow zs acc q) (crH rs i k m) (crV rs i k m) (crM rs i k m) (crD rs i k m) ((ddRow zs acc q).length / 4) <;> simp
theorem dd_M {i k q b:Nat} {zs acc:List Int} (hz:CorAcc zs q b):∀ t,ddRow (cfM rs n i k zs t) acc ((cfM rs n i k zs t).length / 4)=corM rs n i k (ddRow zs acc (zs.length / 4)) t
 | 0=>rfl
 | t+1=>by
  obtain ⟨q',h'⟩:=cfM_acc (rs:=rs) (n:=n) (i:=i) (k:=k) hz t;rw [cfM_s,corM_s,dd_step hr h1 h40 h',dd_M hz t]
theorem dd_K {i q b:Nat} {zs acc:List Int} (hn:n≤20) (hz:CorAcc zs q b):∀ t,ddRow (cfK rs n i zs t) acc ((cfK rs n i zs t).length / 4)=corK rs n i (ddRow zs acc (zs.length / 4)) t
 | 0=>rfl
 | t+1=>by
  obtain ⟨q',h'⟩:=cfK_acc (rs:=rs) (n:=n) (i:=i) hn hz t;rw [cfK_s,corK_s,dd_M hr h1 h40 h',dd_K hn hz t]
theorem dd_I (hn:n≤20):∀ t,ddAll (cfI rs n) t=corI rs n t
 | 0=>rfl
 | t+1=>by
  rw [ddAll_s,corI_s,dd_I hn t,cfI,dd_K hr h1 h40 (zs := []) (q:=0) (b:=0) hn ⟨rfl,Nat.le_refl _⟩];rfl
end
theorem dd_corn (h:cornB rs n=true):ddAll (cfI rs n) n=cornL rs n:=by
 rw [cornL_t h];simp only [cornB,Bool.and_eq_true,inB_iff] at h;exact dd_I (allB_out h.1) (by omega) (by omega) (by omega) n
end
section
open Go.RowKit
theorem mkBd_at {h v m d:Int} {k:Nat} (hk:k<4) (e:inB (nth [h,v,m,d] k) (-4000000000000000000) 4000000000000000000=false):mkBd h v m d=false:=by
 match k,hk with
 | 0,_=>simp only [nth] at e; simp at e; simp [mkBd,e]
 | 1,_=>simp only [nth] at e; simp at e; simp [mkBd,e]
 | 2,_=>simp only [nth] at e; simp at e; simp [mkBd,e]
 | 3,_=>simp only [nth] at e; simp at e; simp [mkBd,e]
theorem mkBd_all {h v m d:Int} (e:∀ k,k<4→inB (nth [h,v,m,d] k) (-4000000000000000000) 4000000000000000000=true):mkBd h v m d=true:=by
 have e0:=e 0 (by omega);have e1:=e 1 (by omega);have e2:=e 2 (by omega);have e3:=e 3 (by omega);simp only [nth] at e0 e1 e2 e3;simp at e0 e1 e2 e3;simp [mkBd,e0,e1,e2,e3]
set_option maxHeartbeats 3200000 in
theorem iMake_any (h v m d:Int) (w:World) :
  Calls Tryz.prog 163 #[.int .i64 h,.int .i64 v,.int .i64 m,.int .i64 d] w fun e w'=>e = .returned (mkV h v m d)∧Below w.heap.size w w':=by
 have HA:=Lib.hid ((Below.refl w.heap.size w).alloc (Nat.le_refl _) (.cells #[.int .i64 0,.int .i64 0,.int .i64 0,.int .i64 0] 66));have HA2:=Lib.hid (HA.out.alloc (by simp) (.cells #[.int .i64 h,.int .i64 v,.int .i64 m,.int .i64 d] 3));have HI:Hid (RowF ((w.alloc (.cells #[.int .i64 0,.int .i64 0,.int .i64 0,.int .i64 0] 66)).alloc (.cells #[.int .i64 h,.int .i64 v,.int .i64 m,.int .i64 d] 3)) (w.heap.size+1) 3 4 (ints [h,v,m,d])):=Lib.hid (by
  have e:=RowF.of_row (World.rowIs_alloc (w.alloc (.cells #[.int .i64 0,.int .i64 0,.int .i64 0,.int .i64 0] 66)) #[.int .i64 h,.int .i64 v,.int .i64 m,.int .i64 d] 3 (ints [h,v,m,d]) (fun i hi=>by simp at hi; match i,hi with | 0,_=>rfl | 1,_=>rfl | 2,_=>rfl | 3,_=>rfl))
  simp only [World.size_alloc] at e;exact e)
 go_enter Tryz.func163,Tryz.ntmps163;go_wp2;go_loopw [11,20] (fun v11 v20 wr=>∃ k:Nat,v20 = .int .i64 k∧k≤4∧wr=((w.alloc (.cells #[.int .i64 0,.int .i64 0,.int .i64 0,.int .i64 0] 66)).alloc (.cells #[.int .i64 h,.int .i64 v,.int .i64 m,.int .i64 d] 3))∧Hid (∀ i,i<k→inB (nth [h,v,m,d] i) (-4000000000000000000) 4000000000000000000=true)) (fun _ v20 _=>4 - (intOf v20).toNat)
 case atStart=>exact ⟨0,rfl,Nat.zero_le _,rfl,Lib.hid (fun i hi=>absurd hi (by omega))⟩
 case round =>
  obtain ⟨k,rfl,hk,rfl,HP⟩:=hrel;by_cases hlt:k<4
  ·have hx:((w.alloc (.cells #[.int .i64 0,.int .i64 0,.int .i64 0,.int .i64 0] 66)).alloc (.cells #[.int .i64 h,.int .i64 v,.int .i64 m,.int .i64 d] 3)).cell? ⟨w.heap.size+1,k,none⟩=some (.int .i64 (nth [h,v,m,d] k)):=HI.out.cell hlt
   have HK:=Lib.hid (fun e=>mkBd_at (h:=h) (v:=v) (m:=m) (d:=d) hlt e);have ki:(k:Int)<4:=by omega
   cases hb:inB (nth [h,v,m,d] k) (-4000000000000000000) 4000000000000000000
   ·have HF:=Lib.hid (mkV_f (mkB_1 (HK.out hb)))
    clear HK;generalize nth [h,v,m,d] k=x at *
    go_wp2_with (go_at_call 43; refine (within_any _ _ _ _).mono ?_; rw [hb]; rintro e w' ⟨rfl,rfl⟩);refine bodyPost_ret (v:=thrV 0 0 0 0 false) (by simp [thrV,results,Tryz.results163,go_sem, *]) rfl ?_;exact ⟨by rw [HF.out],HA2.out⟩
   ·have HP1:Hid (∀ i,i<k+1→inB (nth [h,v,m,d] i) (-4000000000000000000) 4000000000000000000=true):=Lib.hid (fun i hi=>by
     by_cases e:i=k
     ·subst e; exact hb
     ·exact HP.out i (by omega))
    clear HK;generalize nth [h,v,m,d] k=x at hx hb;go_wp2_with (go_at_call 43; refine (within_any _ _ _ _).mono ?_; rw [hb]; rintro e w' ⟨rfl,rfl⟩);go_roundw
    case rel=>exact ⟨k+1,by go_num,by omega,trivial,HP1⟩
    case measure=>simp [intOf]; omega
  ·obtain rfl:k=4:=by omega
   have hbd:=mkBd_all HP.out;by_cases h0:d=0
   ·have HF:=Lib.hid (mkV_f (mkB_0 h v m h0))
    subst h0;go_wp2;refine bodyPost_ret (v:=thrV 0 0 0 0 false) (by simp [thrV,results,Tryz.results163,go_sem, *]) rfl ?_;exact ⟨by rw [HF.out],HA2.out⟩
   have hd0:(d == 0)=false:=by simp [h0]
   obtain ⟨o1,o2,o3,o4⟩:=mkBd_out hbd;have o7:okG (gcd4 h v m d:Nat):=okG_gcd (okG_gcd o1 o2) (okG_gcd o3 o4);have HG4:=Lib.hid (show ((Nat.gcd (Nat.gcd h.natAbs v.natAbs) (Nat.gcd m.natAbs d.natAbs):Nat):Int)=(gcd4 h v m d:Nat) from rfl);have o8:=okG_neg o7;have HNE:=Lib.hid (mkG_ne h v m h0);have HT:Hid (mkT h v m d=thrB (Int.tdiv h (mkG h v m d)) (Int.tdiv v (mkG h v m d)) (Int.tdiv m (mkG h v m d)) (Int.tdiv d (mkG h v m d))):=rfl;have HGN:Hid (d<0→mkG h v m d = -(gcd4 h v m d:Int)):=Lib.hid fun e=>by simp [mkG,e]
   have HGP:Hid (¬ d<0→mkG h v m d=(gcd4 h v m d:Int)):=Lib.hid fun e=>by simp [mkG,e]
   have q1:=okG_wrap (tdiv_bd (g:=mkG h v m d) o1);have q2:=okG_wrap (tdiv_bd (g:=mkG h v m d) o2);have q3:=okG_wrap (tdiv_bd (g:=mkG h v m d) o3);have q4:=okG_wrap (tdiv_bd (g:=mkG h v m d) o4);have HMF:=Lib.hid (fun e=>mkV_f (mkB_2 (h:=h) (v:=v) (m:=m) (d:=d) e));have HMT:=Lib.hid (fun e=>mkV_t (mkB_t h0 hbd e));obtain ⟨G,hG⟩:∃ G,mkG h v m d=G:=⟨_,rfl⟩;rw [hG] at HNE HT HGN HGP q1 q2 q3 q4 HMT;have hg1:¬ G=0:=HNE.out;have HOK:Hid (∀ k,okG (nth [h,v,m,d] k)):=okG_nth4 o1 o2 o3 o4;have HGT:Hid (gcdTo [h,v,m,d] 4=gcd4 h v m d):=Lib.hid (gcdTo_4 _ _ _ _);clear HP;go_wp2_with fail
   have hx:IntsAt (((w.alloc (.cells #[.int .i64 0,.int .i64 0,.int .i64 0,.int .i64 0] 66)).alloc (.cells #[.int .i64 h,.int .i64 v,.int .i64 m,.int .i64 d] 3)).alloc (.cells #[.int .i64 h,.int .i64 v,.int .i64 m,.int .i64 d] 3)) (((w.alloc (.cells #[.int .i64 0,.int .i64 0,.int .i64 0,.int .i64 0] 66)).alloc (.cells #[.int .i64 h,.int .i64 v,.int .i64 m,.int .i64 d] 3)).alloc (.cells #[.int .i64 h,.int .i64 v,.int .i64 m,.int .i64 d] 3)).heap.size (some ⟨w.heap.size+1+1,0,none⟩) 4 [h,v,m,d]:=by
    have h:=intsAt_row (World.rowIs_alloc ((w.alloc (.cells #[.int .i64 0,.int .i64 0,.int .i64 0,.int .i64 0] 66)).alloc (.cells #[.int .i64 h,.int .i64 v,.int .i64 m,.int .i64 d] 3)) #[.int .i64 h,.int .i64 v,.int .i64 m,.int .i64 d] 3 (ints [h,v,m,d]) (fun j hj=>by simp at hj; match j,hj with | 0,_=>rfl | 1,_=>rfl | 2,_=>rfl | 3,_=>rfl)) (zs := [h,v,m,d]) (by simp) (fun k _=>rfl)
    simp only [World.size_alloc] at h ⊢;exact h
   refine (commonDivisor_any _ _ _ [h,v,m,d] _ (by exact hx) (by omega) HOK.out).mono ?_;rintro e w1 ⟨rfl,n1,rfl⟩;rw [HGT.out];clear hx HOK HGT HG4;have HV:Hid (RowF (w.alloc (.cells #[.int .i64 0,.int .i64 0,.int .i64 0,.int .i64 0] 66)) w.heap.size 66 4 (fun _ => .int .i64 0)) :=
    Lib.hid (RowF.of_row (World.rowIs_alloc w #[.int .i64 0,.int .i64 0,.int .i64 0,.int .i64 0] 66 (fun _ => .int .i64 0) (fun i hi=>by simp at hi; match i,hi with | 0,_=>rfl | 1,_=>rfl | 2,_=>rfl | 3,_=>rfl)))
   have HV5:=Lib.hid (((HV.out.alloc (.cells #[.int .i64 h,.int .i64 v,.int .i64 m,.int .i64 d] 3)).alloc (.cells #[.int .i64 h,.int .i64 v,.int .i64 m,.int .i64 d] 3)).drewN n1);have HB5:=Lib.hid (below_drewN ((HA.out.alloc (by simp) (.cells #[.int .i64 h,.int .i64 v,.int .i64 m,.int .i64 d] 3)).alloc (by simp; omega) (.cells #[.int .i64 h,.int .i64 v,.int .i64 m,.int .i64 d] 3)) n1)
   obtain ⟨w5,hw5⟩:∃ w5,(((w.alloc (.cells #[.int .i64 0,.int .i64 0,.int .i64 0,.int .i64 0] 66)).alloc (.cells #[.int .i64 h,.int .i64 v,.int .i64 m,.int .i64 d] 3)).alloc (.cells #[.int .i64 h,.int .i64 v,.int .i64 m,.int .i64 d] 3)).drewN n1=w5:=⟨_,rfl⟩;rw [hw5] at HV5 HB5 ⊢;clear hw5 HV HA;by_cases hneg:d<0
   ·have o9:IntKind.i64.wrap (-(gcd4 h v m d:Int))=G:=by rw [o8,HGN.out hneg]
    clear o8;go_wp2;go_region
    have HV6:=Lib.hid (HV5.out.after (below_dr ((Below.refl _ _).alloc (Nat.le_refl _) (.cells #[.int .i64 (h.tdiv G),.int .i64 (v.tdiv G),.int .i64 (m.tdiv G),.int .i64 (d.tdiv G)] 66))));have HB6:=Lib.hid (below_dr (HB5.out.alloc HB5.out.size (.cells #[.int .i64 (h.tdiv G),.int .i64 (v.tdiv G),.int .i64 (m.tdiv G),.int .i64 (d.tdiv G)] 66)));have HX6:Hid (RowF (w5.alloc (.cells #[.int .i64 (h.tdiv G),.int .i64 (v.tdiv G),.int .i64 (m.tdiv G),.int .i64 (d.tdiv G)] 66)).drew w5.heap.size 66 4 (ints [h.tdiv G,v.tdiv G,m.tdiv G,d.tdiv G])) :=
     Lib.hid (RowF.of_row (World.rowIs_alloc w5 #[.int .i64 (h.tdiv G),.int .i64 (v.tdiv G),.int .i64 (m.tdiv G),.int .i64 (d.tdiv G)] 66 (ints [h.tdiv G,v.tdiv G,m.tdiv G,d.tdiv G]) (fun i hi=>by simp at hi; match i,hi with | 0,_=>rfl | 1,_=>rfl | 2,_=>rfl | 3,_=>rfl)))
    obtain ⟨w6,hw6⟩:∃ w6,(w5.alloc (.cells #[.int .i64 (h.tdiv G),.int .i64 (v.tdiv G),.int .i64 (m.tdiv G),.int .i64 (d.tdiv G)] 66)).drew=w6:=⟨_,rfl⟩;rw [hw6] at HV6 HB6 HX6 ⊢;have x0:w6.cell? ⟨w5.heap.size,0,none⟩=some (.int .i64 (h.tdiv G)):=HX6.out.cell (i:=0) (by omega);have x1:w6.cell? ⟨w5.heap.size,1,none⟩=some (.int .i64 (v.tdiv G)):=HX6.out.cell (i:=1) (by omega);have x2:w6.cell? ⟨w5.heap.size,2,none⟩=some (.int .i64 (m.tdiv G)):=HX6.out.cell (i:=2) (by omega);have x3:w6.cell? ⟨w5.heap.size,3,none⟩=some (.int .i64 (d.tdiv G)):=HX6.out.cell (i:=3) (by omega);clear hw6 HV5 HB5;go_wp2_with fail
    refine (iThrustOk_any _ _ _ _ _).mono ?_;rw [← HT.out];rintro e w7 ⟨rfl,hb7⟩;have HV7:=Lib.hid (HV6.out.after hb7);have HX7:=Lib.hid (HX6.out.after hb7);have HB7:=Lib.hid (below_then HB6.out hb7);clear HV6 HB6 HX6 x0 x1 x2 x3 hb7;have x0:w7.cell? ⟨w5.heap.size,0,none⟩=some (.int .i64 (h.tdiv G)):=HX7.out.cell (i:=0) (by omega);have x1:w7.cell? ⟨w5.heap.size,1,none⟩=some (.int .i64 (v.tdiv G)):=HX7.out.cell (i:=1) (by omega);have x2:w7.cell? ⟨w5.heap.size,2,none⟩=some (.int .i64 (m.tdiv G)):=HX7.out.cell (i:=2) (by omega);have x3:w7.cell? ⟨w5.heap.size,3,none⟩=some (.int .i64 (d.tdiv G)):=HX7.out.cell (i:=3) (by omega);have y0:w7.cell? ⟨w.heap.size,0,none⟩=some (.int .i64 0):=HV7.out.cell (i:=0) (by omega);have y1:w7.cell? ⟨w.heap.size,1,none⟩=some (.int .i64 0):=HV7.out.cell (i:=1) (by omega);have y2:w7.cell? ⟨w.heap.size,2,none⟩=some (.int .i64 0):=HV7.out.cell (i:=2) (by omega);have y3:w7.cell? ⟨w.heap.size,3,none⟩=some (.int .i64 0):=HV7.out.cell (i:=3) (by omega);have f0:=HV7.out.frozen 0;have f1:=HV7.out.frozen 1;have f2:=HV7.out.frozen 2;have f3:=HV7.out.frozen 3;have hs:=RowF.lt HV7.out;cases ht:mkT h v m d
    ·have HF:=Lib.hid (HMF.out ht)
     go_wp2;refine bodyPost_ret (v:=thrV 0 0 0 0 false) (by simp [thrV,results,Tryz.results163,go_sem, *]) rfl ?_;exact ⟨by rw [HF.out],below_set4 HB7.out (Nat.le_refl _) _ _ _ _⟩
    ·have HF:=Lib.hid (HMT.out ht)
     go_wp2;refine bodyPost_ret (v:=thrV (h.tdiv G) (v.tdiv G) (m.tdiv G) (d.tdiv G) true) (by simp [thrV,results,Tryz.results163,go_sem, *]) rfl ?_;exact ⟨by rw [HF.out],below_set4 HB7.out (Nat.le_refl _) _ _ _ _⟩
   ·rw [← HGP.out (by omega)]
    go_wp2;go_region
    have HV6:=Lib.hid (HV5.out.after (below_dr ((Below.refl _ _).alloc (Nat.le_refl _) (.cells #[.int .i64 (h.tdiv G),.int .i64 (v.tdiv G),.int .i64 (m.tdiv G),.int .i64 (d.tdiv G)] 66))));have HB6:=Lib.hid (below_dr (HB5.out.alloc HB5.out.size (.cells #[.int .i64 (h.tdiv G),.int .i64 (v.tdiv G),.int .i64 (m.tdiv G),.int .i64 (d.tdiv G)] 66)));have HX6:Hid (RowF (w5.alloc (.cells #[.int .i64 (h.tdiv G),.int .i64 (v.tdiv G),.int .i64 (m.tdiv G),.int .i64 (d.tdiv G)] 66)).drew w5.heap.size 66 4 (ints [h.tdiv G,v.tdiv G,m.tdiv G,d.tdiv G])) :=
     Lib.hid (RowF.of_row (World.rowIs_alloc w5 #[.int .i64 (h.tdiv G),.int .i64 (v.tdiv G),.int .i64 (m.tdiv G),.int .i64 (d.tdiv G)] 66 (ints [h.tdiv G,v.tdiv G,m.tdiv G,d.tdiv G]) (fun i hi=>by simp at hi; match i,hi with | 0,_=>rfl | 1,_=>rfl | 2,_=>rfl | 3,_=>rfl)))
    obtain ⟨w6,hw6⟩:∃ w6,(w5.alloc (.cells #[.int .i64 (h.tdiv G),.int .i64 (v.tdiv G),.int .i64 (m.tdiv G),.int .i64 (d.tdiv G)] 66)).drew=w6:=⟨_,rfl⟩;rw [hw6] at HV6 HB6 HX6 ⊢;have x0:w6.cell? ⟨w5.heap.size,0,none⟩=some (.int .i64 (h.tdiv G)):=HX6.out.cell (i:=0) (by omega);have x1:w6.cell? ⟨w5.heap.size,1,none⟩=some (.int .i64 (v.tdiv G)):=HX6.out.cell (i:=1) (by omega);have x2:w6.cell? ⟨w5.heap.size,2,none⟩=some (.int .i64 (m.tdiv G)):=HX6.out.cell (i:=2) (by omega);have x3:w6.cell? ⟨w5.heap.size,3,none⟩=some (.int .i64 (d.tdiv G)):=HX6.out.cell (i:=3) (by omega);clear hw6 HV5 HB5;go_wp2_with fail
    refine (iThrustOk_any _ _ _ _ _).mono ?_;rw [← HT.out];rintro e w7 ⟨rfl,hb7⟩;have HV7:=Lib.hid (HV6.out.after hb7);have HX7:=Lib.hid (HX6.out.after hb7);have HB7:=Lib.hid (below_then HB6.out hb7);clear HV6 HB6 HX6 x0 x1 x2 x3 hb7;have x0:w7.cell? ⟨w5.heap.size,0,none⟩=some (.int .i64 (h.tdiv G)):=HX7.out.cell (i:=0) (by omega);have x1:w7.cell? ⟨w5.heap.size,1,none⟩=some (.int .i64 (v.tdiv G)):=HX7.out.cell (i:=1) (by omega);have x2:w7.cell? ⟨w5.heap.size,2,none⟩=some (.int .i64 (m.tdiv G)):=HX7.out.cell (i:=2) (by omega);have x3:w7.cell? ⟨w5.heap.size,3,none⟩=some (.int .i64 (d.tdiv G)):=HX7.out.cell (i:=3) (by omega);have y0:w7.cell? ⟨w.heap.size,0,none⟩=some (.int .i64 0):=HV7.out.cell (i:=0) (by omega);have y1:w7.cell? ⟨w.heap.size,1,none⟩=some (.int .i64 0):=HV7.out.cell (i:=1) (by omega);have y2:w7.cell? ⟨w.heap.size,2,none⟩=some (.int .i64 0):=HV7.out.cell (i:=2) (by omega);have y3:w7.cell? ⟨w.heap.size,3,none⟩=some (.int .i64 0):=HV7.out.cell (i:=3) (by omega);have f0:=HV7.out.frozen 0;have f1:=HV7.out.frozen 1;have f2:=HV7.out.frozen 2;have f3:=HV7.out.frozen 3;have hs:=RowF.lt HV7.out;cases ht:mkT h v m d
    ·have HF:=Lib.hid (HMF.out ht)
     go_wp2;refine bodyPost_ret (v:=thrV 0 0 0 0 false) (by simp [thrV,results,Tryz.results163,go_sem, *]) rfl ?_;exact ⟨by rw [HF.out],below_set4 HB7.out (Nat.le_refl _) _ _ _ _⟩
    ·have HF:=Lib.hid (HMT.out ht)
     go_wp2;refine bodyPost_ret (v:=thrV (h.tdiv G) (v.tdiv G) (m.tdiv G) (d.tdiv G) true) (by simp [thrV,results,Tryz.results163,go_sem, *]) rfl ?_;exact ⟨by rw [HF.out],below_set4 HB7.out (Nat.le_refl _) _ _ _ _⟩
end
end Go.Proofs.YtjcgklifabcfkaaGreat
