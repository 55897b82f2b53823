/-
  Texts that the law stands on, part 4.
-/
import Derived.Test.YtpblihmhpalkfaaGreatCracksP1
import Derived.Test.YtpblihmhpalkfaaGreatCracksP3
import Derived.Test.YtpblihmhpalkfaaGreatJ11
import Derived.Test.YtpblihmhpalkfaaGreatJ16
import Derived.Test.YtpblihmhpalkfaaGreatJ17
import Derived.Test.YtpblihmhpalkfaaGreatJ18
import Derived.Test.YtpblihmhpalkfaaGreatJ21
import Derived.Test.YtpblihmhpalkfaaGreatJ9
set_option maxRecDepth 100000
set_option linter.unusedVariables false
set_option linter.unusedSimpArgs false
namespace Go.Proofs.YtpblihmhpalkfaaGreat
namespace X
open Go.RowKit
theorem MCap.drew {w:World} {gt gl gu:Nat} {H V M D W Mo:Int} (h:MCap w gt gl gu H V M D W Mo):MCap w.drew gt gl gu H V M D W Mo:=⟨h.thr,h.left,h.up⟩
set_option maxRecDepth 100000 in
set_option maxHeartbeats 3200000 in
theorem sMomentsAt_any (A:Option Addr) (n c:Nat) (zs:List Int) (B:Option Addr) (q d:Nat) (ls:List Int) (H V M D k:Int) (w:World) (h:RecsAt w w.heap.size 4 A n zs) (hn:n≤1048576) (hl:RecsAt w w.heap.size 3 B q ls) (hq:q≤1048576) :
  Calls Tryzx.prog 78 #[.agg #[.slice A n c],.slice B q d,.agg #[.int .i64 H,.int .i64 V,.int .i64 M,.int .i64 D],.int .i64 k] w fun e w'=>e = .returned (.tuple #[.int .i64 (mIn zs n ls q H V M D k),.int .i64 (mOut zs n ls q H V M D k)])∧Below w.heap.size w w':=by
 have at0:=AT.start w (.slice A n c) H V M D 26 31;have b0:=at_below w (.slice A n c) H V M D 26 31;have h1:=h.after b0;have l1:=hl.after b0;have HAT:=Lib.hid at0;clear at0 b0 hl;cases hP:pushB zs n ls q H V M D k
 ·have HF:=Lib.hid (m_f hP)
  go_enter Tryzx.func78,Tryz.ntmps78;go_wp2_with fail
  refine (l09Ok_any _ _ _ zs _ _ _ ls _ _ _ _ _ _ h1 hn l1 hq).mono ?_;rw [hP];rintro e w1 ⟨rfl,hb1⟩;have HB1:=Lib.hid (HAT.out.after hb1).below;clear hb1;go_wp2;go_ret2;exact ⟨by rw [HF.out.1,HF.out.2]; rfl,HB1.out⟩
 obtain ⟨hL,hT,hk0,hk1⟩:=pushB_out hP;obtain ⟨K,rfl⟩:∃ K:Nat,k=(K:Int):=⟨k.toNat,by omega⟩;have HM:=Lib.hid (m_t hP);have HMB:=Lib.hid (m_bds hP);have hK:K<n:=by omega
 obtain ⟨b,off,rfl,hbB,hcell⟩:=h.2 (by omega);have HC:=Lib.hid (jtCells hcell hK);have k0:(0:Int)≤(K:Int):=by omega
 have k1:(K:Int)<(n:Int):=by omega
 clear hcell h hk0 hk1;go_enter Tryzx.func78,Tryz.ntmps78;go_wp2_with fail
 refine (l09Ok_any _ _ _ zs _ _ _ ls _ _ _ _ _ _ h1 hn l1 hq).mono ?_;rw [hP];rintro e w1 ⟨rfl,hb1⟩;have HA1:=Lib.hid (HAT.out.after hb1);have h2:=h1.after hb1;have l2:=l1.after hb1;have a0:=HA1.out.arch.1;clear hb1;go_wp2_with fail
 refine (sLeft_any _ _ _ zs _ _ _ ls _ h2 l2 hL).mono ?_;rintro e w2 ⟨A6,c6,A7,c7,rfl,hi6,hi7,hb2⟩;obtain ⟨b6,o6,rfl,hl6,hc6⟩:=hi6.2 (by omega);obtain ⟨b7,o7,rfl,hl7,hc7⟩:=hi7.2 (by omega);have z6:=hc6 K hK;have z7:=hc7 K hK;rw [lwL_nth hK] at z6;rw [lmL_nth hK] at z7;have HA2:=Lib.hid (HA1.out.after hb2);clear a0 hb2 h1 h2 l1 l2 hc6 hc7 hi6 hi7;have hz2:=HA2.out.below.size;have a2:=HA2.out.arch.1;have al:=HA2.out.arch.2;have tl:=HA2.out.thr.2;have t0:=HA2.out.thr.1.1;have t1:=HA2.out.thr.1.2.1;have t2:=HA2.out.thr.1.2.2.1;have t3:=HA2.out.thr.1.2.2.2;have j0:=(HA2.out.below.cell (p:=⟨b,off+K*4,none⟩) hbB).trans HC.out.1;have j1:=(HA2.out.below.cell (p:=⟨b,off+K*4+1,none⟩) hbB).trans HC.out.2.1;have j2:=(HA2.out.below.cell (p:=⟨b,off+K*4+2,none⟩) hbB).trans HC.out.2.2.1;have j3:=(HA2.out.below.cell (p:=⟨b,off+K*4+3,none⟩) hbB).trans HC.out.2.2.2;have bl:b<w2.heap.size:=by omega
 go_wp2;go_region_held3 (fun w'=>w'.cell? ⟨w.heap.size,0,none⟩=some (.slice (some ⟨b,off,none⟩) n c)∧(w'.cell? ⟨w.heap.size+1,0,none⟩=some (.int .i64 H)∧w'.cell? ⟨w.heap.size+1,1,none⟩=some (.int .i64 V)∧w'.cell? ⟨w.heap.size+1,2,none⟩=some (.int .i64 M)∧w'.cell? ⟨w.heap.size+1,3,none⟩=some (.int .i64 D))∧w'.cell? ⟨b6,o6+K,none⟩=some (.int .i64 (leftW zs ls q K))∧w'.cell? ⟨b7,o7+K,none⟩=some (.int .i64 (leftM zs ls q K))∧(w'.cell? ⟨b,off+K*4,none⟩=some (.int .i64 (nth zs (K*4)))∧w'.cell? ⟨b,off+K*4+1,none⟩=some (.int .i64 (nth zs (K*4+1)))∧w'.cell? ⟨b,off+K*4+2,none⟩=some (.int .i64 (nth zs (K*4+2)))∧w'.cell? ⟨b,off+K*4+3,none⟩=some (.int .i64 (nth zs (K*4+3))))) (first | exact ⟨a2,⟨t0,t1,t2,t3⟩,z6,z7,⟨j0,j1,j2,j3⟩⟩ | (refine ⟨?_,⟨?_,?_,?_,?_⟩,?_,?_,⟨?_,?_,?_,?_⟩⟩ <;> (rw [hcc _ _ (by first | omega | (simp <;> omega))]; assumption)))
  ((first | ((with_reducible refine (l09Moment_any _ _ _ _ _ _ _ _ _ HMB.out.1).mono ?_); rintro e w3 ⟨rfl,hb3⟩; obtain ⟨hcc,hff⟩:=bcell hb3; have hz3:=hb3.size; try simp at hz3) | ((with_reducible refine (l09Moment_any _ _ _ _ _ _ _ _ _ HMB.out.2).mono ?_); rintro e w4 ⟨rfl,hb4⟩; have hcc1:=hcc; clear hcc; obtain ⟨hcc2,hff2⟩:=bcell hb4; have hz4:=hb4.size; have hcc:∀ b o,b<w2.heap.size→w4.cell? ⟨b,o,none⟩=w2.cell? ⟨b,o,none⟩:=fun b o h=>(hcc2 b o (by omega)).trans (hcc1 b o (by simp; omega)))))
 have HB4:=Lib.hid ((below_drewN HA2.out.below 1).trans (hb3.mono (by simp; omega)) |>.trans (hb4.mono (by omega)))
 clear hcc hcc1 hcc2 hff hff2 hb3 hb4;go_wp2;go_ret2;exact ⟨by rw [HM.out.1,HM.out.2]; rfl,HB4.out⟩
set_option maxRecDepth 100000 in
set_option maxHeartbeats 3200000 in
theorem iMomentsAt_any (A:Option Addr) (n c:Nat) (zs:List Int) (B:Option Addr) (q d:Nat) (ls:List Int) (H V M D k:Int) (w:World) (h:RecsAt w w.heap.size 4 A n zs) (hn:n≤1048576) (hl:RecsAt w w.heap.size 3 B q ls) (hq:q≤1048576) :
  Calls Tryzx.prog 71 #[.agg #[.slice A n c],.slice B q d,.agg #[.int .i64 H,.int .i64 V,.int .i64 M,.int .i64 D],.int .i64 k] w fun e w'=>e = .returned (.tuple #[.int .i64 (mIn zs n ls q H V M D k),.int .i64 (mOut zs n ls q H V M D k)])∧Below w.heap.size w w':=by
 have at0:=AT.start w (.slice A n c) H V M D 26 31;have b0:=at_below w (.slice A n c) H V M D 26 31;have h1:=h.after b0;have l1:=hl.after b0;have HAT:=Lib.hid at0;clear at0 b0 hl;cases hP:pushB zs n ls q H V M D k
 ·have HF:=Lib.hid (m_f hP)
  go_enter Tryzx.func71,Tryz.ntmps71;go_wp2_with fail
  refine (pushOk_any _ _ _ zs _ _ _ ls _ _ _ _ _ _ h1 hn l1 hq).mono ?_;rw [hP];rintro e w1 ⟨rfl,hb1⟩;have HB1:=Lib.hid (HAT.out.after hb1).below;clear hb1;go_wp2;go_ret2;exact ⟨by rw [HF.out.1,HF.out.2]; rfl,HB1.out⟩
 obtain ⟨hL,hT,hk0,hk1⟩:=pushB_out hP;obtain ⟨K,rfl⟩:∃ K:Nat,k=(K:Int):=⟨k.toNat,by omega⟩;have HM:=Lib.hid (m_t hP);have HMB:=Lib.hid (m_bds hP);have hK:K<n:=by omega
 obtain ⟨b,off,rfl,hbB,hcell⟩:=h.2 (by omega);have HC:=Lib.hid (jtCells hcell hK);have k0:(0:Int)≤(K:Int):=by omega
 have k1:(K:Int)<(n:Int):=by omega
 clear hcell h hk0 hk1;go_enter Tryzx.func71,Tryz.ntmps71;go_wp2_with fail
 refine (pushOk_any _ _ _ zs _ _ _ ls _ _ _ _ _ _ h1 hn l1 hq).mono ?_;rw [hP];rintro e w1 ⟨rfl,hb1⟩;have HA1:=Lib.hid (HAT.out.after hb1);have h2:=h1.after hb1;have l2:=l1.after hb1;have a0:=HA1.out.arch.1;clear hb1;have hlt:lfB zs n ls q (K:Int)=true:=lfB_t hL (inB_t (by omega));have HLT:=Lib.hid (lf_t hlt);clear hlt;go_wp2_with fail
 refine (leftOf_any _ _ _ zs _ _ _ ls _ _ h2 hn l2 hq).mono ?_;rw [HLT.out.1,HLT.out.2];rintro e w2 ⟨rfl,hb2⟩;have HA2:=Lib.hid (HA1.out.after hb2);clear a0 hb2 h1 h2 l1 l2;have hz2:=HA2.out.below.size;have a2:=HA2.out.arch.1;have al:=HA2.out.arch.2;have tl:=HA2.out.thr.2;have t0:=HA2.out.thr.1.1;have t1:=HA2.out.thr.1.2.1;have t2:=HA2.out.thr.1.2.2.1;have t3:=HA2.out.thr.1.2.2.2;have j0:=(HA2.out.below.cell (p:=⟨b,off+K*4,none⟩) hbB).trans HC.out.1;have j1:=(HA2.out.below.cell (p:=⟨b,off+K*4+1,none⟩) hbB).trans HC.out.2.1;have j2:=(HA2.out.below.cell (p:=⟨b,off+K*4+2,none⟩) hbB).trans HC.out.2.2.1;have j3:=(HA2.out.below.cell (p:=⟨b,off+K*4+3,none⟩) hbB).trans HC.out.2.2.2;have bl:b<w2.heap.size:=by omega
 have hbd:=HMB.out.1.dw;have hv:=HMB.out.1.v;have e2:IntKind.i64.wrap (D*leftW zs ls q K)=D*leftW zs ls q K:=IntWalk.i64_in _ (by omega);have HS0:Below w2.heap.size w2 ((w2.alloc (.cells #[.int .i64 (leftW zs ls q K),.int .i64 (leftM zs ls q K)] 143)).alloc (.cells #[.int .i64 (V - D*leftW zs ls q K)] 3)):=((Below.refl _ _).alloc (Nat.le_refl _) _).alloc (by simp) _;have HCAP:Hid (MCap ((w2.alloc (.cells #[.int .i64 (leftW zs ls q K),.int .i64 (leftM zs ls q K)] 143)).alloc (.cells #[.int .i64 (V - D*leftW zs ls q K)] 3)) (w.heap.size+1) w2.heap.size (w2.heap.size+1) H V M D (leftW zs ls q K) (leftM zs ls q K)):=by
  have h1:=(rowF_new2 w2 (leftW zs ls q K) (leftM zs ls q K) 143).alloc (.cells #[.int .i64 (V - D*leftW zs ls q K)] 3);have h2:=rowF_new1 (w2.alloc (.cells #[.int .i64 (leftW zs ls q K),.int .i64 (leftM zs ls q K)] 143)) (.int .i64 (V - D*leftW zs ls q K)) 3;rw [World.size_alloc] at h2;exact ⟨HA2.out.thr.after HS0,⟨h1.cell (by omega),h1.cell (by omega),h1.lt⟩,⟨h2.cell (by omega),h2.lt⟩⟩
 have HA3:=Lib.hid (HA2.out.after HS0);have a3:=HA3.out.arch.1;have i0:=(HS0.cell (p:=⟨b,off+K*4,none⟩) bl).trans j0;have i1:=(HS0.cell (p:=⟨b,off+K*4+1,none⟩) bl).trans j1;have i2:=(HS0.cell (p:=⟨b,off+K*4+2,none⟩) bl).trans j2;have i3:=(HS0.cell (p:=⟨b,off+K*4+3,none⟩) bl).trans j3;clear HS0 j0 j1 j2 j3;generalize hW3:leftW zs ls q K=lw at *
 generalize hM3:leftM zs ls q K=lm at *
 have HW3:=Lib.hid hW3;have HM3:=Lib.hid hM3;clear hW3 hM3;go_wp2;clear a2 t0 t1 t2 t3 hbd hv;have HCAPD:=Lib.hid HCAP.out.drew;go_region_held3 (fun w'=>w'.cell? ⟨w.heap.size,0,none⟩=some (.slice (some ⟨b,off,none⟩) n c)∧(w'.cell? ⟨b,off+K*4,none⟩=some (.int .i64 (nth zs (K*4)))∧w'.cell? ⟨b,off+K*4+1,none⟩=some (.int .i64 (nth zs (K*4+1)))∧w'.cell? ⟨b,off+K*4+2,none⟩=some (.int .i64 (nth zs (K*4+2)))∧w'.cell? ⟨b,off+K*4+3,none⟩=some (.int .i64 (nth zs (K*4+3))))) (first | exact ⟨a3,⟨i0,i1,i2,i3⟩⟩ | (refine ⟨?_,⟨?_,?_,?_,?_⟩⟩ <;> (rw [hcc _ _ (by first | omega | (simp <;> omega))]; assumption)))
  (((go_at_call 110; first | ((with_reducible refine (moment1_any _ _ _ _ _ _ _ _ _ _ _ _ HCAPD.out HMB.out.1).mono ?_); rintro e w3 ⟨rfl,hb3⟩; have HCAP3:=Lib.hid (HCAPD.out.after hb3); obtain ⟨hcc,hff⟩:=bcell hb3; have hz3:=hb3.size; try simp at hz3) | ((with_reducible refine (moment1_any _ _ _ _ _ _ _ _ _ _ _ _ HCAP3.out HMB.out.2).mono ?_); rintro e w4 ⟨rfl,hb4⟩; have hcc1:=hcc; clear hcc; obtain ⟨hcc2,hff2⟩:=bcell hb4; have hz4:=hb4.size; have hcc:∀ b o,b<w2.heap.size+2→w4.cell? ⟨b,o,none⟩=((w2.alloc (.cells #[.int .i64 lw,.int .i64 lm] 143)).alloc (.cells #[.int .i64 (V - D*lw)] 3)).cell? ⟨b,o,none⟩:=fun b o h=>(hcc2 b o (by omega)).trans (hcc1 b o (by simp; omega))))))
 have HB4:=Lib.hid ((below_drewN HA3.out.below 1).trans (hb3.mono (by simp; omega)) |>.trans (hb4.mono (by omega)))
 clear hcc hcc1 hcc2 hff hff2 hb3 hb4;go_wp2;go_ret2;exact ⟨by rw [HM.out.1,HM.out.2]; rfl,HB4.out⟩
end X
section
open Go.RowKit
theorem OwnV.slice {w:World} {base:Nat} {E:TypeId} {v:Value} {xs:List Int} (h:OwnV w base E v xs):∃ A k c,v = .slice A k c:=by
 rcases h.form with ⟨e,_⟩ | ⟨g,cap,e,_⟩
 ·exact ⟨_,_,_,e⟩
 ·exact ⟨_,_,_,e⟩
theorem OwnV.weakenV {w:World} {base base':Nat} {E:TypeId} {v:Value} {xs:List Int} (h:OwnV w base E v xs) (hb:base'≤base):OwnV w base' E v xs:=by
 refine ⟨h.1,?_⟩;rcases h.2 with h2 | ⟨g,cap,cur,h1,h2,h3⟩
 ·exact .inl h2
 ·exact .inr ⟨g,cap,cur,h1,Nat.le_trans hb h2,h3⟩
theorem OwnV.belowV {w w':World} {base:Nat} {E:TypeId} {v:Value} {xs:List Int} (h:OwnV w base E v xs) (hb:Below w.heap.size w w'):OwnV w' base E v xs:=by
 refine ⟨h.1,?_⟩;rcases h.2 with h2 | ⟨g,cap,cur,h1,h2,h3,hr⟩
 ·exact .inl h2
 ·refine .inr ⟨g,cap,cur,h1,h2,(hb.block g ?_).trans h3,hr⟩
  exact (Array.getElem?_eq_some_iff.1 h3).1
theorem OwnV.sliceV {w:World} {base:Nat} {E:TypeId} {v:Value} {xs:List Int} (h:OwnV w base E v xs):∃ A l c,v = .slice A l c:=by
 rcases h.form with ⟨rfl,_⟩ | ⟨g,cap,rfl,_⟩ <;> exact ⟨_,_,_,rfl⟩
end
namespace X
open Go.RowKit
theorem wpList_app {P:Program} (w:World) {ops:Array Oper} {rest:List Oper} {o:Oper} {a:Act} {Q:Exit→Act→World→Prop} (hgd:o.guard=none) (s x:Operand) (t:TypeId)
  (ho:o.op = .call { callee := .builtin .append,args := #[s,x],argTypes := #[t,t] })
  (base:Nat) (E:TypeId) (ht:P.underlying t=some (.slice E)) (hinfo:(P.info? E).map (fun i=>(i.zero,i.size,i.bytes))=some (some (.int .i64 0),1,8))
  (v:Value) (xs:List Int) (hs:a.eval s=v) (hown:OwnV w base E v xs) (g c:Nat) (z:Int) (hx:a.eval x = .slice (some ⟨g,0,none⟩) 1 c)
  (hg:w.cell? ⟨g,0,none⟩=some (.int .i64 z)) (B:Nat) (w0:World) (hb:Below B w0 w) (hB:B≤base) (hbase:base≤w.heap.size) (k:Nat) (hk:xs.length=k) (hk2:k≤1099511627776) (xs':List Int) (hxs:xs ++ [z]=xs')
  (h:∀ g' cap' w',OwnV w' base E (.slice (some ⟨g',0,none⟩) (k+1) cap') xs'→Below B w0 w'→wpList P ops Q rest (a.put o.dst (.slice (some ⟨g',0,none⟩) (k+1) cap')) w'):wpList P ops Q (o :: rest) a w:=by
 subst hk hxs;refine wpList_append_int w hgd s x t ho base E ht hinfo v xs hs hown g c z hx hg hk2 hbase ?_;intro g' cap' w' hown' hgr;refine h g' cap' w' ?_ (hb.grown hgr (by omega) (fun k hk=>by have:=hown.ownLt k hk; omega))
 have e:=hown'.toV;rw [List.length_append] at e;exact e
end X
namespace X
open Go.RowKit
section
variable (zs : List Int) (n : Nat) (ls : List Int) (q : Nat) (H V M D : Int)
def crAt (k:Nat):Int:=if mIn zs n ls q H V M D (k:Int)=0 then 1 else if mOut zs n ls q H V M D (k:Int)=0 then 2 else 0
def crL (k:Nat):List Int:=(List.range k).map (crAt zs n ls q H V M D)
def crRes:List Int:=if stB zs n ls q H V M D=true then crL zs n ls q H V M D n else []
end
section
variable {zs : List Int} {n : Nat} {ls : List Int} {q : Nat} {H V M D : Int}
theorem crL_len (k:Nat):(crL zs n ls q H V M D k).length=k:=by simp [crL]
theorem crL_step (k:Nat):crL zs n ls q H V M D k ++ [crAt zs n ls q H V M D k]=crL zs n ls q H V M D (k+1):=by simp [crL,List.range_succ]
theorem crRes_t (h:stB zs n ls q H V M D=true):crRes zs n ls q H V M D=crL zs n ls q H V M D n:=by simp [crRes,h]
theorem crRes_f (h:stB zs n ls q H V M D=false):crRes zs n ls q H V M D = []:=by simp [crRes,h]
end
def CrPost (w:World) (L:List Int) (e:Ending) (w':World):Prop :=
 ∃ A l c,e = .returned (.slice A l c)∧OwnV w' w.heap.size 3 (.slice A l c) L∧Below w.heap.size w w'
set_option maxRecDepth 100000 in
set_option maxHeartbeats 3200000 in
theorem iCracksOf_any (A:Option Addr) (n c:Nat) (zs:List Int) (B:Option Addr) (q d:Nat) (ls:List Int) (H V M D:Int) (w:World) (h:RecsAt w w.heap.size 4 A n zs) (hn:n≤1048576) (hl:RecsAt w w.heap.size 3 B q ls) (hq:q≤1048576) :
  Calls Tryzx.prog 39 #[.agg #[.slice A n c],.slice B q d,.agg #[.int .i64 H,.int .i64 V,.int .i64 M,.int .i64 D]] w (CrPost w (crRes zs n ls q H V M D)):=by
 have at0:=AT.start w (.slice A n c) H V M D 26 31;have b0:=at_below w (.slice A n c) H V M D 26 31;have h1:=h.after b0;have l1:=hl.after b0;have HAT:=Lib.hid at0;have HH:=Lib.hid h;have HL:=Lib.hid hl;have hs0:((w.alloc (.cells #[.slice A n c] 26)).alloc (.cells #[.int .i64 H,.int .i64 V,.int .i64 M,.int .i64 D] 31)).heap.size=w.heap.size+2:=by simp
 clear at0 b0 h hl;cases hS:stB zs n ls q H V M D
 ·have HF:=Lib.hid (crRes_f hS)
  clear hs0;go_enter Tryzx.func39,Tryz.ntmps39;go_wp2_with fail
  refine (iStandsWith_any _ _ _ zs _ _ _ ls _ _ _ _ _ h1 hn l1 hq).mono ?_;rw [hS];rintro e w1 ⟨rfl,hb1⟩;have HB1:=Lib.hid (HAT.out.after hb1).below;clear hb1;go_wp2;go_ret;exact ⟨_,_,_,rfl,by rw [HF.out]; exact OwnV.nil _ _ _,HB1.out⟩
 have HT:=Lib.hid (crRes_t hS);have HS0:=Lib.hid hs0;clear hs0;go_enter Tryzx.func39,Tryz.ntmps39;go_wp2_with fail
 refine (iStandsWith_any _ _ _ zs _ _ _ ls _ _ _ _ _ h1 hn l1 hq).mono ?_;rw [hS];rintro e W1 ⟨rfl,hb1⟩;have HA1:=Lib.hid (HAT.out.after hb1);have a1:=HA1.out.arch.1;have hz1:=hb1.size;rw [HS0.out] at hz1;clear hb1 h1 l1 HAT;go_wp2;go_loopw [7,19] (fun v7 v19 wr=>∃ (k:Nat),k≤n∧v19 = .int .i64 k∧Hid (OwnV wr W1.heap.size 3 v7 (crL zs n ls q H V M D k))∧Hid (Below W1.heap.size W1 wr)) (fun _ v19 _=>n - (intOf v19).toNat)
 case atStart=>exact ⟨0,Nat.zero_le _,rfl,Lib.hid (OwnV.nil _ _ _),Lib.hid (Below.refl _ _)⟩
 case round =>
  clear a1;obtain ⟨k,hk,rfl,HO,HB⟩:=hrel;have HA:=Lib.hid (HA1.out.after HB.out);have hz:=HB.out.size;by_cases hlt:k<n
  ·have a0:=HA.out.arch.1
   have t0:=HA.out.thr.1.1;have t1:=HA.out.thr.1.2.1;have t2:=HA.out.thr.1.2.2.1;have t3:=HA.out.thr.1.2.2.2;have r1:=HH.out.below HA.out.below |>.mono HA.out.below.size;have r2:=HL.out.below HA.out.below |>.mono HA.out.below.size;have HSTEP:=Lib.hid (crL_step (zs:=zs) (n:=n) (ls:=ls) (q:=q) (H:=H) (V:=V) (M:=M) (D:=D) k);have HAT:Hid (∀ x y,mIn zs n ls q H V M D (k:Int)=x→mOut zs n ls q H V M D (k:Int)=y→crAt zs n ls q H V M D k=if x=0 then 1 else if y=0 then 2 else 0):=fun x y h1 h2=>by subst h1; subst h2; rfl
   go_wp2_with fail
   refine (iMomentsAt_any _ _ _ zs _ _ _ ls _ _ _ _ _ _ r1 hn r2 hq).mono ?_;generalize mIn zs n ls q H V M D (k:Int)=x at *
   generalize mOut zs n ls q H V M D (k:Int)=y at *
   have HE:=Lib.hid (HAT.out x y rfl rfl);rintro e w2 ⟨rfl,hb2⟩;have HO2:=Lib.hid (HO.out.belowV hb2);have HB2:=Lib.hid (HB.out.trans (hb2.mono hz));have hz2:=HB2.out.size;clear hb2 a0 t0 t1 t2 t3 r1 r2 HO HB HA HAT;by_cases hx:x=0
   ·subst hx
    have HX:=Lib.hid (show crL zs n ls q H V M D k ++ [1]=crL zs n ls q H V M D (k+1) by rw [← HSTEP.out,HE.out]; rfl)
    have HBA:=Lib.hid (HB2.out.alloc hz2 (.cells #[.int .i64 1] 3));go_wp2_with (at_builtin; refine wpList_app _ rfl (.tmp 36) (.tmp 37) 48 rfl W1.heap.size 3 Tryzx.underlying48 infoInt _ (crL zs n ls q H V M D k) rfl (by exact HO2.out.alloc _) w2.heap.size 1 1 rfl (by exact cell_new1 _ _ _) W1.heap.size W1 (by exact HBA.out) (Nat.le_refl _) (by simp; omega) k (by exact crL_len k) (by omega) _ HX.out ?_; intro g' cap' w3 hown3 hb3);go_wp2;go_roundw
    case rel=>exact ⟨k+1,by omega,by go_num,hown3,hb3⟩
    case measure=>simp [intOf]; omega
   ·have hxb:(x == 0)=false:=by simpa using hx
    by_cases hy:y=0
    ·subst hy
     have HX:=Lib.hid (show crL zs n ls q H V M D k ++ [2]=crL zs n ls q H V M D (k+1) by rw [← HSTEP.out,HE.out,if_neg hx]; rfl)
     have HBA:=Lib.hid (HB2.out.alloc hz2 (.cells #[.int .i64 2] 3));go_wp2_with (at_builtin; refine wpList_app _ rfl (.tmp 42) (.tmp 43) 48 rfl W1.heap.size 3 Tryzx.underlying48 infoInt _ (crL zs n ls q H V M D k) rfl (by exact HO2.out.alloc _) w2.heap.size 1 2 rfl (by exact cell_new1 _ _ _) W1.heap.size W1 (by exact HBA.out) (Nat.le_refl _) (by simp; omega) k (by exact crL_len k) (by omega) _ HX.out ?_; intro g' cap' w3 hown3 hb3);go_wp2;go_roundw
     case rel=>exact ⟨k+1,by omega,by go_num,hown3,hb3⟩
     case measure=>simp [intOf]; omega
    ·have hyb:(y == 0)=false:=by simpa using hy
     have HX:=Lib.hid (show crL zs n ls q H V M D k ++ [0]=crL zs n ls q H V M D (k+1) by rw [← HSTEP.out,HE.out,if_neg hx,if_neg hy]);have HBA:=Lib.hid (HB2.out.alloc hz2 (.cells #[.int .i64 0] 3));go_wp2_with (at_builtin; refine wpList_app _ rfl (.tmp 30) (.tmp 31) 48 rfl W1.heap.size 3 Tryzx.underlying48 infoInt _ (crL zs n ls q H V M D k) rfl (by exact HO2.out.alloc _) w2.heap.size 1 0 rfl (by exact cell_new1 _ _ _) W1.heap.size W1 (by exact HBA.out) (Nat.le_refl _) (by simp; omega) k (by exact crL_len k) (by omega) _ HX.out ?_; intro g' cap' w3 hown3 hb3);go_wp2;go_roundw
     case rel=>exact ⟨k+1,by omega,by go_num,hown3,hb3⟩
     case measure=>simp [intOf]; omega
  ·obtain rfl:n=k:=by omega
   obtain ⟨A9,l9,c9,rfl⟩:=HO.out.sliceV;have HO9:=Lib.hid (HO.out.weakenV HA1.out.below.size);go_wp2;go_ret;exact ⟨_,_,_,rfl,by rw [HT.out]; exact HO9.out,HA.out.below⟩
end X
namespace X
open Go.RowKit
def crTo (cs:List Int) (k:Nat):Prop:=∀ i,i<k→inB (nth cs i) 0 2=true
theorem crTo_0 (cs:List Int):crTo cs 0:=fun i hi=>absurd hi (by omega)
theorem crTo_step {cs:List Int} {k:Nat} (h:crTo cs k) (e:inB (nth cs k) 0 2=true):crTo cs (k+1):=by
 intro i hi;by_cases hik:i=k
 ·subst hik; exact e
 ·exact h i (by omega)
def cracksB (zs:List Int) (n:Nat) (cs:List Int) (q:Nat):Bool:=archB zs n && (decide (q=n) && (List.range q).all (fun i=>inB (nth cs i) 0 2))
theorem cracksB_1 {zs:List Int} {n:Nat} (cs:List Int) (q:Nat) (h:archB zs n=false):cracksB zs n cs q=false:=by simp [cracksB,h]
theorem cracksB_2 {zs:List Int} {n:Nat} (cs:List Int) {q:Nat} (h:¬ q=n):cracksB zs n cs q=false:=by simp [cracksB,h]
theorem cracksB_3 {zs:List Int} {n:Nat} {cs:List Int} {q k:Nat} (hk:k<q) (h:inB (nth cs k) 0 2=false):cracksB zs n cs q=false:=by
 have:(List.range q).all (fun i=>inB (nth cs i) 0 2)=false:=by
  rw [List.all_eq_false];exact ⟨k,by simpa using hk,by simp [h]⟩
 simp only [cracksB,this,Bool.and_false]
theorem cracksB_t {zs:List Int} {n:Nat} {cs:List Int} {q:Nat} (h:archB zs n=true) (h2:q=n) (h3:crTo cs q):cracksB zs n cs q=true:=by
 have:(List.range q).all (fun i=>inB (nth cs i) 0 2)=true:=by
  rw [List.all_eq_true];exact fun i hi=>h3 i (by simpa using hi)
 subst h2;simp only [cracksB,this,h,decide_true,Bool.and_self]
set_option maxHeartbeats 800000 in
theorem iCracksOk_any (A:Option Addr) (n c:Nat) (zs:List Int) (B:Option Addr) (q d:Nat) (cs:List Int) (w:World) (h:RecsAt w w.heap.size 4 A n zs) (hn:n≤1048576) (hi:IntsAt w w.heap.size B q cs) (hq:q≤1048576) :
  Calls Tryzx.prog 38 #[.agg #[.slice A n c],.slice B q d] w fun e w'=>e = .returned (.bool (cracksB zs n cs q))∧Below w.heap.size w w':=by
 have HA:=Lib.hid ((Below.refl w.heap.size w).alloc (Nat.le_refl _) (.cells #[.slice A n c] 26));have h1:RecsAt (w.alloc (.cells #[.slice A n c] 26)) (w.alloc (.cells #[.slice A n c] 26)).heap.size 4 A n zs:=(h.alloc (Nat.le_refl _) _).mono (by simp);have HI:=Lib.hid hi;clear h hi;cases hA:archB zs n
 ·have HF:=Lib.hid (cracksB_1 cs q hA)
  go_enter Tryzx.func38,Tryz.ntmps38;go_wp2_with fail
  refine (iArchOk_any _ _ _ zs _ h1 hn).mono ?_;rw [hA];rintro e w1 ⟨rfl,hb1⟩;have HB1:=Lib.hid (HA.out.trans (hb1.mono (by simp)));go_wp2;go_ret;exact ⟨ret_bool HF.out.symm,HB1.out⟩
 by_cases hqn:q=n
 ·have ht:((q:Int) == (n:Int))=true:=by simp; omega
  have HT:=Lib.hid (fun h3=>cracksB_t (cs:=cs) hA hqn h3);clear hqn;go_enter Tryzx.func38,Tryz.ntmps38;go_wp2_with fail
  refine (iArchOk_any _ _ _ zs _ h1 hn).mono ?_;rw [hA];rintro e w1 ⟨rfl,hb1⟩;have HB1:=Lib.hid (HA.out.trans (hb1.mono (by simp)));have hbox1:=(hb1.cell (p:=⟨w.heap.size,0,none⟩) (by simp)).trans (cell_new0 _ _ _);clear hb1;go_wp2;have hne:((q:Int) != (n:Int))=false:=by simp only [bne,ht]; rfl
  try simp only [hne,ht,Bool.not_true,Bool.not_false]
  go_loopw [20] (fun i wr=>∃ k:Nat,k≤q∧i = .int .i64 k∧crTo cs k∧Below w.heap.size w wr) (fun i _=>q - (intOf i).toNat)
  case atStart=>exact ⟨0,Nat.zero_le _,rfl,crTo_0 _,HB1.out⟩
  case round =>
   clear HA HB1 hbox1;obtain ⟨k,hk,rfl,hag,hb⟩:=hrel;have HB:=Lib.hid hb;by_cases hlt:k<q
   ·obtain ⟨b,off,rfl,hbB,hc⟩:=HI.out.2 (by omega)
    have x0:wr.cell? ⟨b,off+k,none⟩=some (.int .i64 (nth cs k)):=(hb.cell (by exact hbB)).trans (hc k hlt);clear hb hc;cases hp:inB (nth cs k) 0 2
    ·have HF:=Lib.hid (cracksB_3 (zs:=zs) (n:=n) hlt hp)
     go_wp2_with (go_at_call 76; refine (within_any _ _ _ _).mono ?_; rw [hp]; rintro e w' ⟨rfl,rfl⟩);go_ret;exact ⟨ret_bool HF.out.symm,HB.out⟩
    ·have HS:=Lib.hid (crTo_step hag hp)
     go_wp2_with (go_at_call 76; refine (within_any _ _ _ _).mono ?_; rw [hp]; rintro e w' ⟨rfl,rfl⟩);go_roundw
     case rel=>exact ⟨k+1,by omega,by go_num,HS.out,HB.out⟩
     case measure=>first | (simp [intOf]; done) | (simp [intOf]; omega)
   ·obtain rfl:k=q:=by omega
    have HF:=Lib.hid (HT.out hag);clear hb hag;go_wp2;go_ret;exact ⟨ret_bool HF.out.symm,HB.out⟩
 ·have HF:=Lib.hid (cracksB_2 (zs:=zs) cs hqn)
  have ht:((q:Int) == (n:Int))=false:=by simp; omega
  clear hqn;go_enter Tryzx.func38,Tryz.ntmps38;go_wp2_with fail
  refine (iArchOk_any _ _ _ zs _ h1 hn).mono ?_;rw [hA];rintro e w1 ⟨rfl,hb1⟩;have HB1:=Lib.hid (HA.out.trans (hb1.mono (by simp)));have hbox1:=(hb1.cell (p:=⟨w.heap.size,0,none⟩) (by simp)).trans (cell_new0 _ _ _);clear hb1;go_wp2;go_ret;exact ⟨ret_bool HF.out.symm,HB1.out⟩
end X
namespace X
open Go.RowKit
def exB (sn cs:List Int):Nat→Bool
 | 0=>true
 | k+1=>exB sn cs k && (decide (nth cs k=0) || decide (nth sn k=nth cs k))
theorem exB_f {sn cs:List Int} {k:Nat} (h:exB sn cs k=false):∀ d,exB sn cs (k+d)=false
 | 0=>h
 | d+1=>by rw [← Nat.add_assoc,exB,exB_f h d]; rfl
theorem exB_bad {sn cs:List Int} {k n:Nat} (hk:k<n) (h1:¬ nth cs k=0) (h2:¬ nth sn k=nth cs k):exB sn cs n=false:=by
 have:=exB_f (sn:=sn) (cs:=cs) (k:=k+1) (by simp [exB,h1,h2]) (n - (k+1));rwa [show k+1+(n - (k+1))=n by omega] at this
theorem exB_0 {sn cs:List Int} {k:Nat} (h:exB sn cs k=true) (h1:nth cs k=0):exB sn cs (k+1)=true:=by simp [exB,h,h1]
theorem exB_1 {sn cs:List Int} {k:Nat} (h:exB sn cs k=true) (h1:nth sn k=nth cs k):exB sn cs (k+1)=true:=by simp [exB,h,h1]
def exN (f:Nat→Bool):Nat→Nat
 | 0=>0
 | k+1=>if f k=true then exN f k+1 else exN f k
def exL (f:Nat→Bool) (L:List Int):Nat→List Int
 | 0 => []
 | k+1=>if f k=true then exL f L k ++ [nth L (k*4),nth L (k*4+1),nth L (k*4+2),nth L (k*4+3)] else exL f L k
theorem exN_le (f:Nat→Bool):∀ k,exN f k≤k
 | 0=>Nat.le_refl _
 | k+1=>by have:=exN_le f k; unfold exN; split <;> omega
theorem exN_t {f:Nat→Bool} {k:Nat} (h:f k=true):exN f (k+1)=exN f k+1:=by simp [exN,h]
theorem exN_f {f:Nat→Bool} {k:Nat} (h:f k=false):exN f (k+1)=exN f k:=by simp [exN,h]
theorem exL_t {f:Nat→Bool} {L:List Int} {k:Nat} (h:f k=true):exL f L (k+1)=exL f L k ++ [nth L (k*4),nth L (k*4+1),nth L (k*4+2),nth L (k*4+3)]:=by simp [exL,h]
theorem exL_f {f:Nat→Bool} {L:List Int} {k:Nat} (h:f k=false):exL f L (k+1)=exL f L k:=by simp [exL,h]
def exAt (zs:List Int) (n:Nat) (ls:List Int) (q:Nat) (cs:List Int) (j:Nat):Bool:=exB (crRes zs n ls q (nth (thrL zs n ls q) (j*4)) (nth (thrL zs n ls q) (j*4+1)) (nth (thrL zs n ls q) (j*4+2)) (nth (thrL zs n ls q) (j*4+3))) cs n
def expN (zs:List Int) (n:Nat) (ls:List Int) (q:Nat) (cs:List Int) (p:Nat):Nat:=if cracksB zs n cs p=true then exN (exAt zs n ls q cs) (thrN zs n ls q) else 0
theorem expN_t {zs:List Int} {n:Nat} {ls:List Int} {q:Nat} {cs:List Int} {p:Nat} (h:cracksB zs n cs p=true):expN zs n ls q cs p=exN (exAt zs n ls q cs) (thrN zs n ls q):=by simp [expN,h]
theorem expN_f {zs:List Int} {n:Nat} {ls:List Int} {q:Nat} {cs:List Int} {p:Nat} (h:cracksB zs n cs p=false):expN zs n ls q cs p=0:=by simp [expN,h]
theorem cracks_out {zs:List Int} {n:Nat} {cs:List Int} {p:Nat} (h:cracksB zs n cs p=true):p=n∧∀ k,k<n→0≤nth cs k∧nth cs k≤2:=by
 unfold cracksB at h;rw [Bool.and_eq_true,Bool.and_eq_true,decide_eq_true_eq] at h;refine ⟨h.2.1,fun k hk => ?_⟩;have:=List.all_eq_true.1 h.2.2 k (by rw [h.2.1]; simpa using hk)
 exact inB_iff.1 this
end X
namespace X
open Go.RowKit
set_option maxRecDepth 100000 in
set_option maxHeartbeats 1600000 in
theorem explains_any (A:Option Addr) (n c:Nat) (sn:List Int) (B:Option Addr) (d:Nat) (cs:List Int) (w:World) (h:IntsAt w w.heap.size A n sn) (hi:IntsAt w w.heap.size B n cs) (hn:n≤1048576) (hc2:∀ k,k<n→0≤nth cs k∧nth cs k≤2) :
  Calls Tryzx.prog 75 #[.slice A n c,.slice B n d] w fun e w'=>e = .returned (.bool (exB sn cs n))∧Below w.heap.size w w':=by
 have HS:=Lib.hid h;have HI:=Lib.hid hi;have HC2:=Lib.hid hc2;clear h hi hc2;go_enter Tryzx.func75,Tryz.ntmps75;go_wp2;go_loopw [9] (fun i wr=>∃ k:Nat,k≤n∧i = .int .i64 k∧exB sn cs k=true∧wr=w) (fun i _=>n - (intOf i).toNat)
 case atStart=>exact ⟨0,Nat.zero_le _,rfl,rfl,rfl⟩
 case round =>
  obtain ⟨k,hk,rfl,he,rfl⟩:=hrel;by_cases hlt:k<n
  ·obtain ⟨b,off,rfl,hbB,hb⟩:=HI.out.2 (by omega)
   obtain ⟨b',off',rfl,hbB',hb'⟩:=HS.out.2 (by omega);have c0:=hb k hlt;have c1:=hb' k hlt;have i1:IntKind.i64.wrap ((k:Int)+1)=(k:Int)+1:=IntWalk.i64_in _ (by omega);have hr:=HC2.out k hlt;have HE:=Lib.hid he;clear hb hb' he;by_cases h0:nth cs k=0
   ·have HX:=Lib.hid (exB_0 HE.out h0)
    rw [h0] at c0;clear h0 hr;go_wp2;go_roundw
    case rel=>exact ⟨k+1,by omega,by go_num,HX.out,by first | rfl | trivial⟩
    case measure=>simp [intOf]; omega
   ·by_cases h1:nth cs k=1
    ·rw [h1] at c0
     by_cases hs:nth sn k=1
     ·have HX:=Lib.hid (exB_1 HE.out (hs.trans h1.symm))
      rw [hs] at c1;clear h0 h1 hr hs;go_wp2;go_roundw
      case rel=>exact ⟨k+1,by omega,by go_num,HX.out,by first | rfl | trivial⟩
      case measure=>simp [intOf]; omega
     ·have HX:=Lib.hid (exB_bad (sn:=sn) hlt h0 (by rw [h1]; exact hs))
      have hne:(nth sn k != 1)=true:=by simp [hs]
      clear h0 h1 hr hs;go_wp2;go_ret;exact ⟨ret_bool HX.out.symm,Below.refl _ _⟩
    ·have h2:nth cs k=2:=by omega
     rw [h2] at c0;by_cases hs:nth sn k=2
     ·have HX:=Lib.hid (exB_1 HE.out (hs.trans h2.symm))
      rw [hs] at c1;clear h0 h1 h2 hr hs;go_wp2;go_roundw
      case rel=>exact ⟨k+1,by omega,by go_num,HX.out,by first | rfl | trivial⟩
      case measure=>simp [intOf]; omega
     ·have HX:=Lib.hid (exB_bad (sn:=sn) hlt h0 (by rw [h2]; exact hs))
      have hne:(nth sn k != 2)=true:=by simp [hs]
      clear h0 h1 h2 hr hs;go_wp2;go_ret;exact ⟨ret_bool HX.out.symm,Below.refl _ _⟩
  ·obtain rfl:k=n:=by omega
   have HE:=Lib.hid he;clear he;go_wp2;go_ret;exact ⟨ret_bool HE.out.symm,Below.refl _ _⟩
def CntPost (w:World) (m:Nat) (e:Ending) (w':World):Prop:=∃ A c,e = .returned (.slice A m c)∧Below w.heap.size w w'
section
variable (A : Option Addr) (n c : Nat) (zs : List Int) (B : Option Addr) (q d : Nat) (ls : List Int) (C : Option Addr) (p r : Nat) (cs : List Int) (w : World) (h : RecsAt w w.heap.size 4 A n zs) (hn : n ≤ 1048576) (hl : RecsAt w w.heap.size 3 B q ls) (hq : q ≤ 1048576) (hi : IntsAt w w.heap.size C p cs) (hp : p ≤ 1048576)
include h hn hl hq hi hp
set_option maxRecDepth 100000 in
set_option maxHeartbeats 3200000 in
theorem iFor_any:Calls Tryzx.prog 37 #[.agg #[.slice A n c],.slice B q d,.slice C p r] w (CntPost w (expN zs n ls q cs p)):=by
 have b0:Below w.heap.size w (w.alloc (.cells #[.slice A n c] 26)):=(Below.refl _ _).alloc (Nat.le_refl _) _;have bx0:Box (w.alloc (.cells #[.slice A n c] 26)) w.heap.size (.slice A n c):=Box.new _ _ _;have cx0:=bx0.1;have HH:=Lib.hid h;have HL:=Lib.hid hl;have HI:=Lib.hid hi;have HB0:=Lib.hid b0;have HX0:=Lib.hid bx0;clear h hl hi b0 bx0;cases hC:cracksB zs n cs p
 ·have HN:=Lib.hid (expN_f (ls:=ls) (q:=q) hC)
  go_enter Tryzx.func37,Tryz.ntmps37;go_wp2_with fail
  refine (iCracksOk_any _ _ _ zs _ _ _ cs _ (by exact HH.out.after HB0.out) hn (by exact HI.out.after HB0.out) hp).mono ?_;rw [hC];rintro e w1 ⟨rfl,hb1⟩;have HB1:=Lib.hid (below_then HB0.out hb1);clear hb1 cx0;go_wp2;go_ret;exact ⟨none,0,by rw [HN.out]; rfl,HB1.out⟩
 ·have HN:=Lib.hid (expN_t (ls:=ls) (q:=q) hC)
  obtain ⟨rfl,hc2⟩:=cracks_out hC;have HC2:=Lib.hid hc2;clear hc2;go_enter Tryzx.func37,Tryz.ntmps37;go_wp2_with fail
  refine (iCracksOk_any _ _ _ zs _ _ _ cs _ (by exact HH.out.after HB0.out) hn (by exact HI.out.after HB0.out) hp).mono ?_;rw [hC];rintro e w1 ⟨rfl,hb1⟩;have HB1:=Lib.hid (below_then HB0.out hb1);have HX1:=Lib.hid (HX0.out.after hb1);have cx1:=HX1.out.1;clear hb1 cx0 HB0 HX0;go_wp2_with fail
  refine (iThr_any _ _ _ zs _ _ _ ls _ (by exact HH.out.after HB1.out) hn (by exact HL.out.after HB1.out) hq).mono ?_;rintro e w2 ⟨v2,rfl,ho2,hb2⟩;have HB2:=Lib.hid (below_then HB1.out hb2);have HX2:=Lib.hid (HX1.out.after hb2);obtain ⟨A2,c2,rfl,hcap⟩:=ho2.slice;have HR2:=Lib.hid ho2.recs;have hfew:thrN zs p ls q≤8000:=by have:=(corn_acc (rowsZ zs p ls q) (rowsN zs p ls q)).few; unfold thrN; omega
  have HST:Hid (∀ j,j<thrN zs p ls q→stB zs p ls q (nth (thrL zs p ls q) (j*4)) (nth (thrL zs p ls q) (j*4+1)) (nth (thrL zs p ls q) (j*4+2)) (nth (thrL zs p ls q) (j*4+3))=true):=Lib.hid (fun j hj=>thr_stands hj);have HAT:Hid (∀ j,exAt zs p ls q cs j=exB (crRes zs p ls q (nth (thrL zs p ls q) (j*4)) (nth (thrL zs p ls q) (j*4+1)) (nth (thrL zs p ls q) (j*4+2)) (nth (thrL zs p ls q) (j*4+3))) cs p):=Lib.hid (fun j=>rfl);generalize thrN zs p ls q=m at *
  generalize thrL zs p ls q=L at *
  generalize exAt zs p ls q cs=f at *
  clear hb2 ho2 cx1 HB1 HX1;go_wp2;go_loopw [7,18] (fun v7 v18 wr=>∃ k:Nat,v18 = .int .i64 k∧k≤m∧Hid (OwnR wr w2.heap.size 31 4 v7 (exN f k) (exL f L k))∧Hid (Below w2.heap.size w2 wr)) (fun _ v18 _=>m - (intOf v18).toNat)
  case atStart=>exact ⟨0,rfl,Nat.zero_le _,Lib.hid (OwnR.nil _ _ _ _),Lib.hid (Below.refl _ _)⟩
  case round =>
   obtain ⟨k,rfl,hk,HO,HG⟩:=hrel;have hef:=exN_le f k;by_cases hlt:k<m
   ·obtain ⟨b,off,rfl,hbB,hc⟩:=HR2.out.2 (by omega)
    have hz:=HG.out.size;have y0:wr.cell? ⟨b,off+k*4,none⟩=some (.int .i64 (nth L (k*4))):=(HG.out.cell (by exact hbB)).trans (hc (k*4) (by omega));have y1:wr.cell? ⟨b,off+k*4+1,none⟩=some (.int .i64 (nth L (k*4+1))):=by
     have:=(HG.out.cell (p:=⟨b,off+(k*4+1),none⟩) hbB).trans (hc (k*4+1) (by omega));rwa [← Nat.add_assoc] at this
    have y2:wr.cell? ⟨b,off+k*4+2,none⟩=some (.int .i64 (nth L (k*4+2))):=by
     have:=(HG.out.cell (p:=⟨b,off+(k*4+2),none⟩) hbB).trans (hc (k*4+2) (by omega));rwa [← Nat.add_assoc] at this
    have y3:wr.cell? ⟨b,off+k*4+3,none⟩=some (.int .i64 (nth L (k*4+3))):=by
     have:=(HG.out.cell (p:=⟨b,off+(k*4+3),none⟩) hbB).trans (hc (k*4+3) (by omega));rwa [← Nat.add_assoc] at this
    have hst:=HST.out k hlt;have hat:=HAT.out k;have HT:Hid (f k=true→exL f L (k+1)=exL f L k ++ [nth L (k*4),nth L (k*4+1),nth L (k*4+2),nth L (k*4+3)]):=Lib.hid (fun h=>exL_t h);have i1:IntKind.i64.wrap ((k:Int)+1)=(k:Int)+1:=IntWalk.i64_in _ (by omega);have ik:(k:Int)<(m:Int):=by omega
    clear hc;generalize nth L (k*4)=p0 at *
    generalize nth L (k*4+1)=p1 at *
    generalize nth L (k*4+2)=p2 at *
    generalize nth L (k*4+3)=p3 at *
    have hbn:Below wr.heap.size wr (wr.alloc (.cells #[.int .i64 p0,.int .i64 p1,.int .i64 p2,.int .i64 p3] 31)):=(Below.refl _ _).alloc (Nat.le_refl _) _;have HWn:=Lib.hid (below_then (below_then HB2.out (HG.out.mono (Nat.le_refl _))) hbn);have HXn:=Lib.hid ((HX2.out.after HG.out).after hbn);have HYn:Hid (Box4 (wr.alloc (.cells #[.int .i64 p0,.int .i64 p1,.int .i64 p2,.int .i64 p3] 31)) wr.heap.size p0 p1 p2 p3):=Lib.hid (Box4.new _ _ _ _ _ _);have HGn:=Lib.hid (HG.out.trans (hbn.mono hz));have HOn:=Lib.hid (HO.out.below hbn);have cxn:=HXn.out.1;obtain ⟨⟨z0,z1,z2,z3⟩,_⟩:=HYn.out;clear hbn;go_wp2_with fail
    refine (iCracksOf_any _ _ _ zs _ _ _ ls p0 p1 p2 p3 _ (by exact HH.out.after HWn.out) hn (by exact HL.out.after HWn.out) hq).mono ?_;rintro e w3 ⟨A3,l3,c3,rfl,ho3,hb3⟩;have HW3:=Lib.hid (below_then HWn.out hb3);have HY3:=Lib.hid (HYn.out.after hb3);have hzn:=HGn.out.size;have HG3:=Lib.hid (HGn.out.trans (hb3.mono hzn));have HO3:=Lib.hid (HOn.out.below hb3);have hlen:l3=p:=by
     have:=ho3.len;rw [crRes_t hst,crL_len] at this;exact this
    have HI3:=Lib.hid ho3.intsAt;subst hlen;clear hb3 ho3 y0 y1 y2 y3 z0 z1 z2 z3 cxn;go_wp2_with fail
    refine (explains_any _ _ _ (crRes zs l3 ls q p0 p1 p2 p3) _ _ cs _ (by exact HI3.out) (by exact HI.out.after HW3.out) hn HC2.out).mono ?_;rw [← hat];rintro e w4 ⟨rfl,hb4⟩;have HY4:=Lib.hid (HY3.out.after hb4);have hz3:=HG3.out.size;have HG4:=Lib.hid (HG3.out.trans (hb4.mono hz3));have HO4:=Lib.hid (HO3.out.below hb4);clear hb4 hst hat;cases hf:f k
    ·have HNE:=Lib.hid (exN_f hf)
     have HLE:=Lib.hid (exL_f (L:=L) hf);go_wp2;go_roundw
     case rel=>exact ⟨k+1,by go_num,by omega,by rw [HNE.out,HLE.out]; exact HO4,HG4⟩
     case measure=>simp [intOf]; omega
    ·have HNE:=Lib.hid (exN_t hf)
     have HLE:=Lib.hid (HT.out hf);obtain ⟨⟨z0,z1,z2,z3⟩,_⟩:=HY4.out;have HBA:=Lib.hid (HG4.out.alloc HG4.out.size (.cells #[.int .i64 p0,.int .i64 p1,.int .i64 p2,.int .i64 p3] 31));have HCN:Hid (∀ i,i<1*4→(w4.alloc (.cells #[.int .i64 p0,.int .i64 p1,.int .i64 p2,.int .i64 p3] 31)).cell? ⟨w4.heap.size,i,none⟩=some (.int .i64 (nth [p0,p1,p2,p3] i))):=Lib.hid (fun i hi=>by
      have h:=Box4.new w4 p0 p1 p2 p3 31;match i,hi with
      | 0,_=>exact h.1.1
      | 1,_=>exact h.1.2.1
      | 2,_=>exact h.1.2.2.1
      | 3,_=>exact h.1.2.2.2)
     have hbs:w2.heap.size≤(w4.alloc (.cells #[.int .i64 p0,.int .i64 p1,.int .i64 p2,.int .i64 p3] 31)).heap.size:=by have:=HG4.out.size; simp; omega
     go_wp2_with (at_builtin; refine wpList_appR _ rfl (.tmp 28) (.tmp 30) 34 rfl w2.heap.size 31 4 32 #[.int .i64 0,.int .i64 0,.int .i64 0,.int .i64 0] Tryzx.underlying34 infoThr rfl (by decide) (by decide) _ (exN f k) (exL f L k) rfl (by exact HO4.out.alloc _) w4.heap.size 1 1 [p0,p1,p2,p3] rfl rfl (by exact HCN.out) (by omega) w2.heap.size w2 (by exact HBA.out) (Nat.le_refl _) hbs _ HLE.out.symm ?_ (by omega); intro g' cap' w7 hown7 hb7);have HO7:=Lib.hid hown7;have HB7:=Lib.hid hb7;clear hown7 hb7;go_wp2;go_roundw
     case rel=>exact ⟨k+1,by go_num,by omega,by rw [HNE.out]; exact HO7,HB7⟩
     case measure=>simp [intOf]; omega
   ·obtain rfl:k=m:=by omega
    obtain ⟨A7,c7,rfl,_⟩:=HO.out.slice;have HBE:=Lib.hid (below_then HB2.out HG.out);go_wp2;go_ret;exact ⟨_,_,by rw [HN.out]; rfl,HBE.out⟩
set_option maxRecDepth 100000 in
set_option maxHeartbeats 1600000 in
theorem iExp_any:Calls Tryzx.prog 36 #[.agg #[.slice A n c],.slice B q d,.slice C p r] w fun e w'=>e = .returned (.bool (decide (0<expN zs n ls q cs p)))∧Below w.heap.size w w':=by
 have b0:Below w.heap.size w (w.alloc (.cells #[.slice A n c] 26)):=(Below.refl _ _).alloc (Nat.le_refl _) _;have bx0:Box (w.alloc (.cells #[.slice A n c] 26)) w.heap.size (.slice A n c):=Box.new _ _ _;have cx0:=bx0.1;have hw1:=h.after b0;have hw2:=hl.after b0;have hw3:=hi.after b0;go_enter Tryzx.func36,Tryz.ntmps36;go_wp2_with fail
 refine (iFor_any _ _ _ zs _ _ _ ls _ _ _ cs _ (by exact hw1) hn (by exact hw2) hq (by exact hw3) hp).mono ?_;rintro e w1 ⟨A1,c1,rfl,hb1⟩;have HB1:=Lib.hid (below_then b0 hb1);have hd:decide (((expN zs n ls q cs p:Nat):Int) > 0)=decide (0<expN zs n ls q cs p):=decide_eq_decide.2 (by omega);clear hb1 cx0 bx0 hw1 hw2 hw3 b0;go_wp2;go_ret;first | exact ⟨ret_bool hd,HB1.out⟩ | exact ⟨rfl,HB1.out⟩
end
end X
namespace X
open Go.RowKit
def hcells:List (Int × Bool)→List Value
 | [] => []
 | x :: r => .int .i64 x.1 :: .bool x.2 :: hcells r
theorem hcells_len:∀ L:List (Int × Bool),(hcells L).length=L.length*2
 | []=>rfl
 | x :: r=>by simp [hcells,hcells_len r]; omega
theorem hcells_app:∀ (L:List (Int × Bool)) (x:Int × Bool),hcells (L ++ [x])=hcells L ++ [.int .i64 x.1,.bool x.2]
 | [],x=>rfl
 | y :: r,x=>by simp [hcells,hcells_app r x]
def hjs (L:List (Int × Bool)):List Int:=L.map (·.1)
theorem hcells_at:∀ (L:List (Int × Bool)) (i:Nat),i<L.length→(hcells L)[i*2]?=some (.int .i64 (nth (hjs L) i))∧∃ o,(hcells L)[i*2+1]?=some (.bool o)
 | [],i,h=>by simp at h
 | x :: r,0,_=>⟨by simp [hcells,hjs,nth],x.2,by simp [hcells]⟩
 | x :: r,i+1,h=>by
  have h2:=hcells_at r i (by simpa using h);obtain ⟨h3,o,h4⟩:=h2;refine ⟨?_,o,?_⟩
  ·rw [show (i+1)*2=i*2+1+1 by omega]
   simp only [hcells,List.getElem?_cons_succ,h3];simp [hjs,nth]
  ·rw [show (i+1)*2+1=(i*2+1)+1+1 by omega]
   simp only [hcells,List.getElem?_cons_succ,h4]
theorem cell_newH (w:World) (a:Int) (b:Bool) (T:TypeId):(w.alloc (.cells #[.int .i64 a,.bool b] T)).cell? ⟨w.heap.size,0,none⟩=some (.int .i64 a)∧(w.alloc (.cells #[.int .i64 a,.bool b] T)).cell? ⟨w.heap.size,1,none⟩=some (.bool b):=by
 have h:=World.rowIs_alloc w #[.int .i64 a,.bool b] T (fun i=>if i=0 then .int .i64 a else .bool b) (fun i hi=>by simp at hi; match i,hi with | 0,_=>rfl | 1,_=>rfl)
 exact ⟨World.rowIs.cell h (by simp),World.rowIs.cell h (by simp)⟩
def HngAt (w:World) (A:Option Addr) (m:Nat) (js:List Int):Prop :=
 1≤m→∃ b off,A=some ⟨b,off,none⟩∧b<w.heap.size∧∀ i,i<m→w.cell? ⟨b,off+i*2,none⟩=some (.int .i64 (nth js i))∧∃ o,w.cell? ⟨b,off+i*2+1,none⟩=some (.bool o)
theorem HngAt.below {w w':World} {A:Option Addr} {m:Nat} {js:List Int} (h:HngAt w A m js) (hb:Below w.heap.size w w'):HngAt w' A m js:=by
 intro hm;obtain ⟨b,off,rfl,hlt,hc⟩:=h hm;have hs:=hb.size;refine ⟨b,off,rfl,by omega,fun i hi => ?_⟩;obtain ⟨h1,o,h2⟩:=hc i hi;exact ⟨(hb.cell hlt).trans h1,o,(hb.cell hlt).trans h2⟩
def hgL (f g:Nat→Int):Nat→List (Int × Bool)
 | 0 => []
 | k+1=>(if f k=0 then hgL f g k ++ [((k:Int),false)] else hgL f g k) ++ (if g k=0 then [((k:Int),true)] else [])
theorem hgL_len (f g:Nat→Int):∀ k,(hgL f g k).length≤2*k
 | 0=>by simp [hgL]
 | k+1=>by
  have:=hgL_len f g k;unfold hgL;split <;> split <;> simp <;> omega
theorem hgL_00 {f g:Nat→Int} {k:Nat} (h1:f k=0) (h2:g k=0):hgL f g (k+1)=hgL f g k ++ [((k:Int),false)] ++ [((k:Int),true)]:=by simp [hgL,h1,h2]
theorem hgL_01 {f g:Nat→Int} {k:Nat} (h1:f k=0) (h2:g k ≠ 0):hgL f g (k+1)=hgL f g k ++ [((k:Int),false)]:=by simp [hgL,h1,h2]
theorem hgL_10 {f g:Nat→Int} {k:Nat} (h1:f k ≠ 0) (h2:g k=0):hgL f g (k+1)=hgL f g k ++ [((k:Int),true)]:=by simp [hgL,h1,h2]
theorem hgL_11 {f g:Nat→Int} {k:Nat} (h1:f k ≠ 0) (h2:g k ≠ 0):hgL f g (k+1)=hgL f g k:=by simp [hgL,h1,h2]
def OwnH (w:World) (base:Nat) (E:TypeId) (v:Value) (L:List (Int × Bool)):Prop:=w.ownsRow base E 2 v L.length (hcells L)
section
variable {w w' : World} {base : Nat} {E : TypeId} {v : Value} {L : List (Int × Bool)}
theorem OwnH.nil (w:World) (base:Nat) (E:TypeId):OwnH w base E (.slice none 0 0) []:=World.ownsRow_nil _ _ _ _
theorem OwnH.new (w:World) (E:TypeId):OwnH (w.alloc (.cells #[] E)) w.heap.size E (.slice (some ⟨w.heap.size,0,none⟩) 0 0) [] :=
 World.ownsRow_lit (base:=w.heap.size) (e:=E) (size:=2) w #[] 0 (Nat.le_refl _) (by simp [maxLen]) (by simp)
theorem OwnH.newB (w:World) (E:TypeId) (B:Nat) (hB:B≤w.heap.size):OwnH (w.alloc (.cells #[] E)) B E (.slice (some ⟨w.heap.size,0,none⟩) 0 0) [] :=
 World.ownsRow_lit (base:=B) (e:=E) (size:=2) w #[] 0 hB (by simp [maxLen]) (by simp)
theorem OwnH.alloc (h:OwnH w base E v L) (o:Obj):OwnH (w.alloc o) base E v L:=World.ownsRow.alloc h o
theorem OwnH.below (h:OwnH w base E v L) (hb:Below w.heap.size w w'):OwnH w' base E v L:=by
 refine ⟨h.1,?_⟩;rcases h.2 with h2 | ⟨g,cap,cur,h1,h2,h3,hr⟩
 ·exact .inl h2
 ·refine .inr ⟨g,cap,cur,h1,h2,(hb.block g ?_).trans h3,hr⟩
  exact (Array.getElem?_eq_some_iff.1 h3).1
theorem OwnH.form (h:OwnH w base E v L):(v = .slice none 0 0∧L = []) ∨ ∃ g cap,v = .slice (some ⟨g,0,none⟩) L.length cap∧base≤g∧L.length≤cap∧g<w.heap.size∧∀ i u,(hcells L)[i]?=some u→w.cell? ⟨g,i,none⟩=some u:=by
 rcases h.2 with ⟨h1,h2⟩ | ⟨g,cap,cur,h1,h2,h3,h4,h5,h6,h7⟩
 ·exact .inl ⟨h1,List.eq_nil_of_length_eq_zero h2⟩
 ·refine .inr ⟨g,cap,h1,h2,h4,(Array.getElem?_eq_some_iff.1 h3).1,fun i u hu => ?_⟩
  have hl:=hcells_len L;have hi:i<L.length*2:=by
   have:=(List.getElem?_eq_some_iff.1 hu).1;omega
  have e:(cur.toList.take (L.length*2))[i]?=(hcells L)[i]?:=by rw [h7]
  rw [List.getElem?_take,if_pos hi,hu] at e;have e2:cur[i]?=some u:=by simpa using e
  simp [World.cell?,h3,e2]
theorem OwnH.slice (h:OwnH w base E v L):∃ A c,v = .slice A L.length c∧HngAt w A L.length (hjs L):=by
 rcases h.form with ⟨rfl,rfl⟩ | ⟨g,cap,rfl,_,hc,hlt,hx⟩
 ·exact ⟨_,_,rfl,fun h=>by simp at h⟩
 ·refine ⟨_,_,rfl,fun _=>⟨g,0,rfl,hlt,fun i hi => ?_⟩⟩
  obtain ⟨h1,o,h2⟩:=hcells_at L i hi;rw [Nat.zero_add];exact ⟨hx _ _ h1,o,hx _ _ h2⟩
theorem OwnH.ownLt (h:OwnH w base E v L):∀ k,v.ownBlock=some k→base≤k:=fun k hk=>(World.ownsRow.lt h k hk).1
end
theorem wpList_appH {P:Program} (w:World) {ops:Array Oper} {rest:List Oper} {o:Oper} {a:Act} {Q:Exit→Act→World→Prop} (hgd:o.guard=none) (s x:Operand) (t:TypeId)
  (ho:o.op = .call { callee := .builtin .append,args := #[s,x],argTypes := #[t,t] })
  (base:Nat) (E:TypeId) (bytes:Nat) (zc:Array Value) (ht:P.underlying t=some (.slice E)) (hinfo:(P.info? E).map (fun i=>(i.zero,i.size,i.bytes))=some (some (.agg zc),2,bytes)) (hzc:zc.size=2) (hby:bytes≤1024)
  (v:Value) (L:List (Int × Bool)) (hs:a.eval s=v) (hown:OwnH w base E v L) (g c:Nat) (j:Int) (b:Bool) (hx:a.eval x = .slice (some ⟨g,0,none⟩) 1 c)
  (hg0:w.cell? ⟨g,0,none⟩=some (.int .i64 j)) (hg1:w.cell? ⟨g,1,none⟩=some (.bool b)) (hn:L.length+1≤1048576) (B:Nat) (w0:World) (hb:Below B w0 w) (hB:B≤base) (hbase:base≤w.heap.size)
  (h:∀ v' w',OwnH w' base E v' (L ++ [(j,b)])→Below B w0 w'→wpList P ops Q rest (a.put o.dst v') w'):wpList P ops Q (o :: rest) a w:=by
 obtain ⟨i0,hi0,hz0,hz1,hz2⟩:=info_parts hinfo;have hbb:(L.length+1)*bytes≤1048576*1024:=Nat.mul_le_mul hn hby;refine wpList_append_own (P:=P) w hgd s x t ho base E i0 (.agg zc) 2 bytes ht hi0 hz0 hz1 hz2 (by simpa [Value.cells] using hzc) (by omega) v L.length _ hs hown ⟨g,0,none⟩ 1 c [.int .i64 j,.bool b] hx rfl ?_ ?_ (by unfold maxLen; omega) (by omega) hbase ?_
 ·intro i u hi
  rw [Go.WideShapes.add_plain,Nat.zero_add];match i,hi with
  | 0,hi=>simp at hi; subst hi; exact hg0
  | 1,hi=>simp at hi; subst hi; exact hg1
  | k+2,hi=>simp at hi
 ·intro u hu
  simp at hu;rcases hu with rfl | rfl <;> rfl
 ·intro v' w' hown' hgr _
  refine h v' w' ?_ (hb.grown hgr (by omega) (fun k hk=>by have:=hown.ownLt k hk; omega))
  unfold OwnH;rw [hcells_app,List.length_append];exact hown'
theorem AT.keepH {w wr w1:World} {v:Value} {H V M D:Int} (h:AT w wr v H V M D) (hb:Below (w.heap.size+2) wr w1):AT w w1 v H V M D :=
  ⟨⟨(hb.cell (p:=⟨w.heap.size,0,none⟩) (by simp)).trans h.arch.1,Nat.lt_of_lt_of_le h.arch.2 hb.size⟩,
   ⟨⟨(hb.cell (p:=⟨w.heap.size+1,0,none⟩) (by simp)).trans h.thr.1.1,(hb.cell (p:=⟨w.heap.size+1,1,none⟩) (by simp)).trans h.thr.1.2.1,(hb.cell (p:=⟨w.heap.size+1,2,none⟩) (by simp)).trans h.thr.1.2.2.1,(hb.cell (p:=⟨w.heap.size+1,3,none⟩) (by simp)).trans h.thr.1.2.2.2⟩,Nat.lt_of_lt_of_le h.thr.2 hb.size⟩,
   h.below.trans (hb.mono (by omega))⟩
end X
namespace X
open Go.RowKit
def hgP (zs:List Int) (n:Nat) (ls:List Int) (q:Nat) (H V M D:Int) (k:Nat):List (Int × Bool):=hgL (fun j=>mIn zs n ls q H V M D (j:Int)) (fun j=>mOut zs n ls q H V M D (j:Int)) k
def hgJ (zs:List Int) (n:Nat) (ls:List Int) (q:Nat) (H V M D:Int):List (Int × Bool):=if stB zs n ls q H V M D=true then hgP zs n ls q H V M D n else []
theorem hgJ_f {zs:List Int} {n:Nat} {ls:List Int} {q:Nat} {H V M D:Int} (h:stB zs n ls q H V M D=false):hgJ zs n ls q H V M D = []:=by simp [hgJ,h]
theorem hgJ_t {zs:List Int} {n:Nat} {ls:List Int} {q:Nat} {H V M D:Int} (h:stB zs n ls q H V M D=true):hgJ zs n ls q H V M D=hgP zs n ls q H V M D n:=by simp [hgJ,h]
section
variable {zs : List Int} {n : Nat} {ls : List Int} {q : Nat} {H V M D : Int} {k : Nat}
theorem hgP_00 (h1:mIn zs n ls q H V M D (k:Int)=0) (h2:mOut zs n ls q H V M D (k:Int)=0):hgP zs n ls q H V M D (k+1)=hgP zs n ls q H V M D k ++ [((k:Int),false)] ++ [((k:Int),true)]:=hgL_00 h1 h2
theorem hgP_01 (h1:mIn zs n ls q H V M D (k:Int)=0) (h2:mOut zs n ls q H V M D (k:Int) ≠ 0):hgP zs n ls q H V M D (k+1)=hgP zs n ls q H V M D k ++ [((k:Int),false)]:=hgL_01 h1 h2
theorem hgP_10 (h1:mIn zs n ls q H V M D (k:Int) ≠ 0) (h2:mOut zs n ls q H V M D (k:Int)=0):hgP zs n ls q H V M D (k+1)=hgP zs n ls q H V M D k ++ [((k:Int),true)]:=hgL_10 h1 h2
theorem hgP_11 (h1:mIn zs n ls q H V M D (k:Int) ≠ 0) (h2:mOut zs n ls q H V M D (k:Int) ≠ 0):hgP zs n ls q H V M D (k+1)=hgP zs n ls q H V M D k:=hgL_11 h1 h2
theorem hgP_len (zs:List Int) (n:Nat) (ls:List Int) (q:Nat) (H V M D:Int) (k:Nat):(hgP zs n ls q H V M D k).length≤2*k:=hgL_len _ _ k
end
theorem stB_n {zs:List Int} {n:Nat} {ls:List Int} {q:Nat} {H V M D:Int} (h:stB zs n ls q H V M D=true):3≤n∧n≤8:=by
 cases hL:loadsB zs n ls q
 ·simp [stB,fulAll,rowsN,hL,inB] at h
 ·exact (archB_out (loadsB_out hL).1).1
def HgPost (w:World) (L:List (Int × Bool)) (e:Ending) (w':World):Prop:=∃ A c,e = .returned (.slice A L.length c)∧HngAt w' A L.length (hjs L)∧Below w.heap.size w w'
theorem infoHng:(Tryzx.prog.info? 60).map (fun i=>(i.zero,i.size,i.bytes))=some (some (.agg #[.int .i64 0,.bool false]),2,16):=by kernel_rfl
section
variable (A : Option Addr) (n c : Nat) (zs : List Int) (B : Option Addr) (q d : Nat) (ls : List Int) (H V M D : Int) (w : World) (h : RecsAt w w.heap.size 4 A n zs) (hn : n ≤ 1048576) (hl : RecsAt w w.heap.size 3 B q ls) (hq : q ≤ 1048576)
include h hn hl hq
set_option maxRecDepth 100000 in
set_option maxHeartbeats 3200000 in
theorem sHng_any:Calls Tryzx.prog 40 #[.agg #[.slice A n c],.slice B q d,.agg #[.int .i64 H,.int .i64 V,.int .i64 M,.int .i64 D]] w (HgPost w (hgJ zs n ls q H V M D)):=by
 have hz0:(((w.alloc (.cells #[.slice A n c] 26)).alloc (.cells #[.int .i64 H,.int .i64 V,.int .i64 M,.int .i64 D] 31)).alloc (.cells #[] 60)).heap.size=w.heap.size+3:=by simp
 have at0:=(AT.start w (.slice A n c) H V M D 26 31).after ((Below.refl _ _).alloc (Nat.le_refl _) (.cells #[] 60));have b0:=at0.below;have h1:=h.after b0;have l1:=hl.after b0;have HAT:=Lib.hid at0;have HH:=Lib.hid h;have HL:=Lib.hid hl;have ca:=at0.arch.1;have t0:=at0.thr.1.1;have t1:=at0.thr.1.2.1;have t2:=at0.thr.1.2.2.1;have t3:=at0.thr.1.2.2.2;clear at0 b0 h hl;cases hS:stB zs n ls q H V M D
 ·have HF:=Lib.hid (hgJ_f hS)
  go_enter Tryzx.func40,Tryz.ntmps40;go_wp2_with fail
  refine (sStandsWith_any _ _ _ zs _ _ _ ls _ _ _ _ _ (by exact h1) hn (by exact l1) hq).mono ?_;rw [hS];rintro e w1 ⟨rfl,hb1⟩;have HB1:=Lib.hid (HAT.out.after hb1).below;clear hb1 h1 l1 ca t0 t1 t2 t3;go_wp2;go_ret;exact ⟨_,_,by rw [HF.out]; rfl,by rw [HF.out]; exact fun h=>absurd h (by decide),HB1.out⟩
 ·have HF:=Lib.hid (hgJ_t hS)
  have hn8:=stB_n hS;have HO0:Hid (OwnH (((w.alloc (.cells #[.slice A n c] 26)).alloc (.cells #[.int .i64 H,.int .i64 V,.int .i64 M,.int .i64 D] 31)).alloc (.cells #[] 60)) (w.heap.size+2) 60 (.slice (some ⟨w.heap.size+2,0,none⟩) 0 0) []):=Lib.hid (by have h:=OwnH.newB ((w.alloc (.cells #[.slice A n c] 26)).alloc (.cells #[.int .i64 H,.int .i64 V,.int .i64 M,.int .i64 D] 31)) 60 (w.heap.size+2) (by simp); simpa using h)
  go_enter Tryzx.func40,Tryz.ntmps40;go_wp2_with fail
  refine (sStandsWith_any _ _ _ zs _ _ _ ls _ _ _ _ _ (by exact h1) hn (by exact l1) hq).mono ?_;rw [hS];rintro e w1 ⟨rfl,hb1⟩;have HA1:=Lib.hid (HAT.out.after hb1);have HO1:=Lib.hid (HO0.out.below hb1);have HB1:=Lib.hid (Below.refl w1.heap.size w1);have a0:=HA1.out.arch.1;clear hb1 h1 l1 hS ca t0 t1 t2 t3 HAT HO0;go_wp2;clear a0;go_loopw [7,8] (fun v7 v8 wr=>∃ k:Nat,v8 = .int .i64 k∧k≤n∧Hid (OwnH wr (w.heap.size+2) 60 v7 (hgP zs n ls q H V M D k))∧Hid (AT w wr (.slice A n c) H V M D)) (fun v7 v8 _=>n - (intOf v8).toNat)
  case atStart=>exact ⟨0,rfl,Nat.zero_le _,HO1,HA1⟩
  case round =>
   clear HA1 HO1;obtain ⟨k,rfl,hk,HO,HA⟩:=hrel;have a0:=HA.out.arch.1;have t0:=HA.out.thr.1.1;have t1:=HA.out.thr.1.2.1;have t2:=HA.out.thr.1.2.2.1;have t3:=HA.out.thr.1.2.2.2;have hz:=HA.out.below.size;have hzz:w.heap.size+2≤wr.heap.size:=HA.out.thr.2;by_cases hlt:k<n
   ·have ki:(k:Int)<(n:Int):=by omega
    have k0:(0:Int)≤(k:Int):=by omega
    have i1:IntKind.i64.wrap ((k:Int)+1)=(k:Int)+1:=IntWalk.i64_in _ (by omega);have r1:=HH.out.after HA.out.below;have r2:=HL.out.after HA.out.below;go_wp2_with fail
    refine (sMomentsAt_any _ _ _ zs _ _ _ ls _ _ _ _ (k:Int) _ (by exact r1) hn (by exact r2) hq).mono ?_;rintro e w2 ⟨rfl,hb2⟩;have HA2:=Lib.hid (HA.out.after hb2);have HO2:=Lib.hid (HO.out.below hb2);have hz2:w.heap.size+2≤w2.heap.size:=HA2.out.thr.2;have hlen:=hgP_len zs n ls q H V M D k;clear hb2 r1 r2 a0 t0 t1 t2 t3 HA HO;have e00:=Lib.hid (hgP_00 (zs:=zs) (n:=n) (ls:=ls) (q:=q) (H:=H) (V:=V) (M:=M) (D:=D) (k:=k));have e01:=Lib.hid (hgP_01 (zs:=zs) (n:=n) (ls:=ls) (q:=q) (H:=H) (V:=V) (M:=M) (D:=D) (k:=k));have e10:=Lib.hid (hgP_10 (zs:=zs) (n:=n) (ls:=ls) (q:=q) (H:=H) (V:=V) (M:=M) (D:=D) (k:=k));have e11:=Lib.hid (hgP_11 (zs:=zs) (n:=n) (ls:=ls) (q:=q) (H:=H) (V:=V) (M:=M) (D:=D) (k:=k));generalize mIn zs n ls q H V M D (k:Int)=f at *
    generalize mOut zs n ls q H V M D (k:Int)=g at *
    generalize hL:hgP zs n ls q H V M D k=L at *
    clear hL;by_cases hf0:f=0
    ·have hq0:(f == 0)=true:=by simp [hf0]
     by_cases hg0:g=0
     ·have hq1:(g == 0)=true:=by simp [hg0]
      have yw3:=cell_newH w2 (k:Int) false 60;have yaw3:=yw3.1;have ybw3:=yw3.2;have HAAw3:=Lib.hid (HA2.out.after ((Below.refl _ _).alloc (Nat.le_refl _) (.cells #[.int .i64 (k:Int),.bool false] 60)));have hqw3:w.heap.size+2≤(w2.alloc (.cells #[.int .i64 (k:Int),.bool false] 60)).heap.size:=HAAw3.out.thr.2;have HRw3:=Lib.hid (Below.refl (w.heap.size+2) (w2.alloc (.cells #[.int .i64 (k:Int),.bool false] 60)));go_wp2_with (first | (at_builtin; refine wpList_appH _ rfl (.tmp 35) (.tmp 38) 56 rfl (w.heap.size+2) 60 16 #[.int .i64 0,.bool false] Tryzx.underlying56 infoHng rfl (by decide) _ (L) rfl (by exact HO2.out.alloc _) w2.heap.size 1 (k:Int) false rfl (by exact yaw3) (by exact ybw3) (by simp; omega) (w.heap.size+2) (w2.alloc (.cells #[.int .i64 (k:Int),.bool false] 60)) (by exact HRw3.out) (Nat.le_refl _) hqw3 ?_; intro vw3 w3 hownw3 hbw3; have HOw3:=Lib.hid hownw3; have HAXw3:=Lib.hid (HAAw3.out.keepH hbw3); have hzw3:w.heap.size+2≤w3.heap.size:=HAXw3.out.thr.2; have yw4:=cell_newH w3 (k:Int) true 60; have yaw4:=yw4.1; have ybw4:=yw4.2; have HAAw4:=Lib.hid (HAXw3.out.after ((Below.refl _ _).alloc (Nat.le_refl _) (.cells #[.int .i64 (k:Int),.bool true] 60))); have hqw4:w.heap.size+2≤(w3.alloc (.cells #[.int .i64 (k:Int),.bool true] 60)).heap.size:=HAAw4.out.thr.2; have HRw4:=Lib.hid (Below.refl (w.heap.size+2) (w3.alloc (.cells #[.int .i64 (k:Int),.bool true] 60)))) | (at_builtin; refine wpList_appH _ rfl (.tmp 42) (.tmp 45) 56 rfl (w.heap.size+2) 60 16 #[.int .i64 0,.bool false] Tryzx.underlying56 infoHng rfl (by decide) _ (L ++ [((k:Int),false)]) rfl (by exact HOw3.out.alloc _) w3.heap.size 1 (k:Int) true rfl (by exact yaw4) (by exact ybw4) (by simp; omega) (w.heap.size+2) (w3.alloc (.cells #[.int .i64 (k:Int),.bool true] 60)) (by exact HRw4.out) (Nat.le_refl _) hqw4 ?_; intro vw4 w4 hownw4 hbw4; have HOw4:=Lib.hid hownw4; have HAXw4:=Lib.hid (HAAw4.out.keepH hbw4); have hzw4:w.heap.size+2≤w4.heap.size:=HAXw4.out.thr.2));clear hownw3 hbw3 hownw4 hbw4 yaw3 ybw3 yw3 yaw4 ybw4 yw4;go_wp2;go_roundw
      case rel=>exact ⟨k+1,by go_num,by omega,Lib.hid (by rw [e00.out hf0 hg0]; exact HOw4.out),HAXw4⟩
      case measure=>simp [intOf]; omega
     ·have hq1:(g == 0)=false:=by simp [hg0]
      have yw3:=cell_newH w2 (k:Int) false 60;have yaw3:=yw3.1;have ybw3:=yw3.2;have HAAw3:=Lib.hid (HA2.out.after ((Below.refl _ _).alloc (Nat.le_refl _) (.cells #[.int .i64 (k:Int),.bool false] 60)));have hqw3:w.heap.size+2≤(w2.alloc (.cells #[.int .i64 (k:Int),.bool false] 60)).heap.size:=HAAw3.out.thr.2;have HRw3:=Lib.hid (Below.refl (w.heap.size+2) (w2.alloc (.cells #[.int .i64 (k:Int),.bool false] 60)));go_wp2_with (at_builtin; refine wpList_appH _ rfl (.tmp 35) (.tmp 38) 56 rfl (w.heap.size+2) 60 16 #[.int .i64 0,.bool false] Tryzx.underlying56 infoHng rfl (by decide) _ (L) rfl (by exact HO2.out.alloc _) w2.heap.size 1 (k:Int) false rfl (by exact yaw3) (by exact ybw3) (by simp; omega) (w.heap.size+2) (w2.alloc (.cells #[.int .i64 (k:Int),.bool false] 60)) (by exact HRw3.out) (Nat.le_refl _) hqw3 ?_; intro vw3 w3 hownw3 hbw3);have HOw3:=Lib.hid hownw3;have HAXw3:=Lib.hid (HAAw3.out.keepH hbw3);have hzw3:w.heap.size+2≤w3.heap.size:=HAXw3.out.thr.2;clear hownw3 hbw3 yaw3 ybw3 yw3;go_wp2;go_roundw
      case rel=>exact ⟨k+1,by go_num,by omega,Lib.hid (by rw [e01.out hf0 hg0]; exact HOw3.out),HAXw3⟩
      case measure=>simp [intOf]; omega
    ·have hq0:(f == 0)=false:=by simp [hf0]
     by_cases hg0:g=0
     ·have hq1:(g == 0)=true:=by simp [hg0]
      have yw4:=cell_newH w2 (k:Int) true 60;have yaw4:=yw4.1;have ybw4:=yw4.2;have HAAw4:=Lib.hid (HA2.out.after ((Below.refl _ _).alloc (Nat.le_refl _) (.cells #[.int .i64 (k:Int),.bool true] 60)));have hqw4:w.heap.size+2≤(w2.alloc (.cells #[.int .i64 (k:Int),.bool true] 60)).heap.size:=HAAw4.out.thr.2;have HRw4:=Lib.hid (Below.refl (w.heap.size+2) (w2.alloc (.cells #[.int .i64 (k:Int),.bool true] 60)));go_wp2_with (at_builtin; refine wpList_appH _ rfl (.tmp 42) (.tmp 45) 56 rfl (w.heap.size+2) 60 16 #[.int .i64 0,.bool false] Tryzx.underlying56 infoHng rfl (by decide) _ (L) rfl (by exact HO2.out.alloc _) w2.heap.size 1 (k:Int) true rfl (by exact yaw4) (by exact ybw4) (by simp; omega) (w.heap.size+2) (w2.alloc (.cells #[.int .i64 (k:Int),.bool true] 60)) (by exact HRw4.out) (Nat.le_refl _) hqw4 ?_; intro vw4 w4 hownw4 hbw4);have HOw4:=Lib.hid hownw4;have HAXw4:=Lib.hid (HAAw4.out.keepH hbw4);have hzw4:w.heap.size+2≤w4.heap.size:=HAXw4.out.thr.2;clear hownw4 hbw4 yaw4 ybw4 yw4;go_wp2;go_roundw
      case rel=>exact ⟨k+1,by go_num,by omega,Lib.hid (by rw [e10.out hf0 hg0]; exact HOw4.out),HAXw4⟩
      case measure=>simp [intOf]; omega
     ·have hq1:(g == 0)=false:=by simp [hg0]
      go_wp2;go_roundw
      case rel=>exact ⟨k+1,by go_num,by omega,Lib.hid (by rw [e11.out hf0 hg0]; exact HO2.out),HA2⟩
      case measure=>simp [intOf]; omega
   ·obtain rfl:n=k:=by omega
    obtain ⟨A7,c7,rfl,h7⟩:=HO.out.slice;have H7:=Lib.hid h7;clear h7;go_wp2;go_ret;exact ⟨A7,c7,by rw [HF.out]; rfl,by rw [HF.out]; exact H7.out,HA.out.below⟩
end
end X
namespace X
open Go.RowKit
def cnt (zs:List Int):Nat→Nat
 | 0=>0
 | k+1=>cnt zs k+(if nth zs k=0 then 0 else 1)
theorem cnt_le (zs:List Int):∀ k,cnt zs k≤k
 | 0=>Nat.le_refl _
 | k+1=>by have:=cnt_le zs k; unfold cnt; split <;> omega
theorem cnt_hit {zs:List Int} {k:Nat} (h:nth zs k ≠ 0):cnt zs (k+1)=cnt zs k+1:=by simp [cnt,h]
theorem cnt_miss {zs:List Int} {k:Nat} (h:nth zs k=0):cnt zs (k+1)=cnt zs k:=by simp [cnt,h]
set_option maxHeartbeats 400000 in
theorem iCountCracks_any (A:Option Addr) (n c:Nat) (zs:List Int) (w:World) (h:IntsAt w w.heap.size A n zs) (hn:n≤1048576) :
  Calls Tryzx.prog 41 #[.slice A n c] w fun e w'=>e = .returned (.int .i64 (cnt zs n))∧w=w':=by
 have H:=Lib.hid h;clear h;go_enter Tryzx.func41,Tryz.ntmps41;go_wp2;go_loop [3,8,5] (fun r i _=>∃ k:Nat,k≤n∧i = .int .i64 k∧r = .int .i64 (cnt zs k)) (fun _ i _=>n - (intOf i).toNat)
 case atStart=>exact ⟨0,Nat.zero_le _,rfl,rfl⟩
 case round =>
  obtain ⟨k,hk,rfl,rfl⟩:=hrel;have hcl:=cnt_le zs k;by_cases hlt:k<n
  ·obtain ⟨b,off,rfl,hbB,hc⟩:=H.out.2 (by omega)
   have hcx:w.cell? ⟨b,off+k,none⟩=some (.int .i64 (nth zs k)):=hc k hlt;clear hc;by_cases h0:nth zs k=0
   ·have ht:(nth zs k != 0)=false:=by simp [h0]
    have HE:=Lib.hid (cnt_miss h0);clear h0;go_wp2;go_round
    case rel=>exact ⟨k+1,by omega,by go_num,by rw [HE.out]⟩
    case measure=>simp [intOf]; omega
   ·have ht:(nth zs k != 0)=true:=by simp [h0]
    have HE:=Lib.hid (cnt_hit h0);clear h0;go_wp2;go_round
    case rel=>exact ⟨k+1,by omega,by go_num,by rw [HE.out]; go_num⟩
    case measure=>simp [intOf]; omega
  ·have hkn:k=n:=by omega
   subst hkn;go_wp2;go_ret;exact ⟨rfl,rfl⟩
end X
end Go.Proofs.YtpblihmhpalkfaaGreat
