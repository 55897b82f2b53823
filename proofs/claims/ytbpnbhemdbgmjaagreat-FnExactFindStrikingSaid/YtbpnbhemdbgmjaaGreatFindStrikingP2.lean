/-
  Texts that the law stands on, part 2.
-/
import Derived.Test.YtbpnbhemdbgmjaaGreatFindStrikingP1
import Derived.Test.YtbpnbhemdbgmjaaGreatC1
import Derived.Test.YtbpnbhemdbgmjaaGreatC11
import Derived.Test.YtbpnbhemdbgmjaaGreatC17
import Derived.Test.YtbpnbhemdbgmjaaGreatC19
import Derived.Test.YtbpnbhemdbgmjaaGreatC22
import Derived.Test.YtbpnbhemdbgmjaaGreatC24
import Derived.Test.YtbpnbhemdbgmjaaGreatF1
import Derived.Deep.RegionHeld3
import Derived.Outline
set_option maxRecDepth 100000
set_option linter.unusedVariables false
set_option linter.unusedSimpArgs false
namespace Go.Proofs.YtbpnbhemdbgmjaaGreat
section
open Go.RowKit
theorem wpList_appV2 {P:Program} (w:World) {ops:Array Oper} {rest:List Oper} {o:Oper} {a:Act} {Q:Exit→Act→World→Prop} (hgd:o.guard=none) (s x:Operand) (t:TypeId)
  (ho:o.op = .call { callee := .builtin .append,args := #[s,x],argTypes := #[t,t] })
  (base:Nat) (E:TypeId) (ht:P.underlying t=some (.slice E)) (hinfo:(P.info? E).map (fun i=>(i.zero,i.size,i.bytes))=some (some (.int .i64 0),1,8))
  (v:Value) (xs:List Int) (hs:a.eval s=v) (hown:OwnV w base E v xs) (g c:Nat) (z:Int) (hx:a.eval x = .slice (some ⟨g,0,none⟩) 1 c)
  (hg:w.cell? ⟨g,0,none⟩=some (.int .i64 z)) (hlen:xs.length≤1099511627776) (hbase:base≤w.heap.size) (bl:Nat) (hbl:bl<w.heap.size) (hne:v.ownBlock ≠ some bl)
  (h:∀ g' cap' w',OwnI w' base E g' cap' (xs ++ [z])→w.grownBy w' v.ownBlock→g' ≠ bl→wpList P ops Q rest (a.put o.dst (.slice (some ⟨g',0,none⟩) (xs.length+1) cap')) w'):wpList P ops Q (o :: rest) a w:=by
 obtain ⟨i0,hi0,hz0,hz1,hz2⟩:=info_parts hinfo;have hnews:∀ j u,([Value.int .i64 z]:List Value)[j]?=some u→w.cell? ((⟨g,0,none⟩:Addr).add j)=some u:=by
  intro j u hj;match j,hj with
  | 0,hj=>simp at hj; subst hj; simpa [Addr.add] using hg
 have hone:∀ u ∈ ([Value.int .i64 z]:List Value),u.oneCell'=true:=by intro u hu; simp at hu; subst hu; rfl
 have fin:∀ g' cap' w',w'.ownsRow base E 1 (.slice (some ⟨g',0,none⟩) (xs.length+1) cap') (xs.length+1) (xs.map (Value.int .i64) ++ [Value.int .i64 z])→w.grownBy w' v.ownBlock→g' ≠ bl→wpList P ops Q rest (a.put o.dst (.slice (some ⟨g',0,none⟩) (xs.length+1) cap')) w':=by
  intro g' cap' w' ho' hgr hn;refine h g' cap' w' ?_ hgr hn;have e:OwnV w' base E (.slice (some ⟨g',0,none⟩) (xs ++ [z]).length cap') (xs ++ [z]):=by
   unfold OwnV;rw [List.length_append,List.map_append];exact ho'
  exact e
 have grow:∀ (A0:Option Addr) (cap0:Nat),v = .slice A0 xs.length cap0→(A0=none→xs.length=0∧cap0=0)→cap0<xs.length+1→(∀ b,A0=some b→∀ j u,(xs.map (Value.int .i64))[j]?=some u→w.cell? (b.add j)=some u)→wpList P ops Q (o :: rest) a w:=by
  intro A0 cap0 e hA hfull hcells;refine wpList_append_grows (P:=P) w hgd s x t ho E i0 (.int .i64 0) 1 8 ht hi0 hz0 hz1 hz2 rfl (by decide) A0 xs.length cap0 (xs.map (Value.int .i64)) (hs.trans e) hA (by simp) hcells ⟨g,0,none⟩ 1 c [.int .i64 z] hx rfl hnews hone hfull (by unfold maxLen; omega) (by omega) ?_
  intro v' w' ho' hgr;have hgr':w.grownBy w' v.ownBlock:=by
   obtain ⟨a1,a2,a3,a4,a5⟩:=hgr;exact ⟨a1,a2,a3,a4,fun k hk _=>a5 k hk (by simp)⟩
  rcases ho'.2 with ⟨_,h2⟩ | ⟨g',cap',cur,rfl,hg',hr⟩
  ·omega
  ·exact fin g' cap' w' ⟨ho'.1,.inr ⟨g',cap',cur,rfl,by omega,hr⟩⟩ hgr' (by omega)
 rcases hown.form with ⟨rfl,rfl⟩ | ⟨g0,cap0,rfl,hi⟩
 ·exact grow none 0 rfl (fun _=>⟨rfl,rfl⟩) (by simp) (fun b hb=>by cases hb)
 ·by_cases hfit:xs.length+1≤cap0
  ·refine wpList_append_fits w hgd s x t ho base E i0 1 ht hi0 hz1 g0 xs.length cap0 _ hs hown ⟨g,0,none⟩ 1 c _ hx rfl hnews hone hfit ?_
   intro w' ho' hgr;exact fin g0 cap0 w' ho' hgr (fun e=>hne (by rw [e]; rfl))
  ·exact grow _ cap0 rfl (fun e=>by cases e) (by omega) (fun b hb j u hu=>by cases hb; exact World.ownsRow.cells (g:=g0) hown rfl j u hu)
theorem OwnV.grownR {w w':World} {base mb:Nat} {E:TypeId} {v:Value} {xs:List Int} (h:OwnV w base E v xs) (hg:w.grownBy w' (some mb)) (hm:mb<base):OwnV w' base E v xs:=by
 refine ⟨h.1,?_⟩;rcases h.2 with h2 | ⟨g,cap,cur,h1,h2,h3,hr⟩
 ·exact .inl h2
 ·exact .inr ⟨g,cap,cur,h1,h2,(hg.block g (Array.getElem?_eq_some_iff.1 h3).1 (by simp; omega)).trans h3,hr⟩
end
namespace X
open Go.RowKit Go.Maps
def fndB (zs:List Int) (n:Nat):Bool:=decide (0<strN zs n)
def fndL (zs:List Int) (n:Nat):List Int:=if fndB zs n=true then findL (setB zs n) (stgC zs n - 1) else []
theorem fnd_no {zs:List Int} {n:Nat} (h:strN zs n=0):fndB zs n=false∧fndL zs n = []:=by
 have h1:fndB zs n=false:=by simp [fndB,h]
 exact ⟨h1,by simp [fndL,h1]⟩
theorem fnd_yes {zs:List Int} {n:Nat} (h:0<strN zs n):fndB zs n=true∧fndL zs n=findL (setB zs n) (stgC zs n - 1):=by
 have h1:fndB zs n=true:=by simp [fndB,h]
 exact ⟨h1,by simp [fndL,h1]⟩
theorem fndL_len (zs:List Int) (n:Nat):(fndL zs n).length≤6:=by
 unfold fndL;split
 ·unfold findL; rw [pikL_len]; exact pc_le _
 ·simp
def FndPost (w:World) (L:List Int) (b:Bool) (e:Ending) (w':World):Prop :=
 ∃ A l c,e = .returned (.tuple #[.slice A l c,.bool b])∧OwnV w' w.heap.size 3 (.slice A l c) L∧Below w.heap.size w w'
def LAt (wr:World) (bl bo N:Nat) (ok:Nat→Bool):Prop:=bl<wr.heap.size∧∀ t,t<N→wr.cell? ⟨bl,bo+t,none⟩=some (.int .i64 (way ok t:Nat))
theorem LAt.kept {w w':World} {bl bo N:Nat} {ok:Nat→Bool} {row:Option Nat} (h:LAt w bl bo N ok) (hg:w.grownBy w' row) (hne:row ≠ some bl):LAt w' bl bo N ok :=
 ⟨Nat.lt_of_lt_of_le h.1 hg.size,fun t ht=>hg.cell (h.2 t ht) (fun e=>hne e.symm)⟩
theorem LAt.alloc {w:World} {bl bo N:Nat} {ok:Nat→Bool} (h:LAt w bl bo N ok) (o:Obj):LAt (w.alloc o) bl bo N ok:=h.kept (World.grownBy_alloc w o none) (by simp)
theorem grown_of_alloc {w w':World} {o:Obj} {row:Option Nat} (h:(w.alloc o).grownBy w' row):w.grownBy w' row:=(World.grownBy_alloc w o row).trans h
theorem less_facts {S k:Nat} (hs:S<64) (hb:S / p2 k % 2=1):∃ T:Nat,S - p2 k=T∧IntKind.i64.wrap ((S:Int) - ((p2 k:Nat):Int))=(T:Int)∧T<S:=by
 have hp:=p2_in hb;refine ⟨S - p2 k,rfl,?_,hp.2⟩;rw [IntWalk.i64_in _ (by omega)]; omega
section
variable (A : Option Addr) (n c : Nat) (zs : List Int) (w : World) (h : RecsAt w w.heap.size 4 A n zs) (hn : n ≤ 1048576)
include h hn
set_option maxRecDepth 100000 in
set_option maxHeartbeats 6400000 in
theorem sFind_any:Calls Tryzx.prog 59 #[.agg #[.slice A n c]] w (FndPost w (fndL zs n) (fndB zs n)):=by
 have b0:Below w.heap.size w ((w.alloc (.cells #[.slice A n c] 26)).alloc (.cells #[] 3)):=((Below.refl _ _).alloc (Nat.le_refl _) _).alloc (by simp) _;have h1:=h.after b0;have bx0:Box (w.alloc (.cells #[.slice A n c] 26)) w.heap.size (.slice A n c):=Box.new _ _ _;have cx0:=(bx0.after ((Below.refl _ _).alloc (Nat.le_refl _) (.cells #[] 3))).1;have HO0:Hid (OwnV ((w.alloc (.cells #[.slice A n c] 26)).alloc (.cells #[] 3)) w.heap.size 3 (.slice (some ⟨w.heap.size+1,0,none⟩) 0 0) []):=Lib.hid (by
  have h:=(OwnI.new (w.alloc (.cells #[.slice A n c] 26)) 3).toV.weakenN (base':=w.heap.size) (by simp);simpa using h)
 have hN:=stgC_64 zs n;have HF:Hid ((stgC zs n=0→strN zs n=0)∧(stgC zs n ≠ 0→strN zs n=way (setB zs n) (stgC zs n - 1))):=Lib.hid ⟨str_0,str_way⟩;have HNO:Hid (strN zs n=0→fndB zs n=false∧fndL zs n = []):=Lib.hid fnd_no;have HYES:Hid (0<strN zs n→fndB zs n=true∧fndL zs n=findL (setB zs n) (stgC zs n - 1)):=Lib.hid fnd_yes;clear h;go_enter Tryzx.func59,Tryz.ntmps59;go_wp2_with fail
 refine (sWays_any _ _ _ zs _ (by exact h1) hn).mono ?_;generalize stgC zs n=N at *
 generalize hOK:setB zs n=ok at *
 clear hOK;rintro e w1 ⟨v1,rfl,ho1,hb1⟩;have HB1:=Lib.hid (below_then b0 hb1);have HO1:=Lib.hid (HO0.out.below hb1);obtain ⟨A1,q1,d1,rfl⟩:=ho1.sliceN;have hq1:=ho1.len;rw [wayL_len] at hq1;subst hq1;have hi1:=ho1.intsAt;by_cases h0:q1=0
 ·have HR:=Lib.hid (HNO.out (HF.out.1 h0))
  have i1:IntKind.i64.wrap ((q1:Int) - 1) = -1:=by rw [h0]; rfl
  clear HF HNO HYES hi1 ho1 hb1 b0 h1 cx0 bx0;go_wp2;go_ret2;exact ⟨some ⟨w.heap.size+1,0,none⟩,0,0,by rw [HR.out.1]; rfl,by rw [HR.out.2]; exact HO1.out,HB1.out⟩
 ·have HW:=Lib.hid (HF.out.2 h0)
  obtain ⟨F,hF⟩:∃ F,q1 - 1=F:=⟨_,rfl⟩;rw [hF] at HW HYES;have i1:IntKind.i64.wrap ((q1:Int) - 1)=(F:Int):=by rw [IntWalk.i64_in _ (by omega)]; omega
  have f0:¬ (F:Int)<0:=by omega
  have f1:(0:Int)≤(F:Int):=by omega
  have f2:(F:Int)<(q1:Int):=by omega
  obtain ⟨bl,bo,rfl,hbl,hc⟩:=hi1.2 (by omega);have hb2:w.heap.size+2≤bl:=by
   have:=ho1.ownLt bl rfl;simpa using this
  have HL1:Hid (LAt w1 bl bo q1 ok):=Lib.hid ⟨hbl,fun t ht=>by rw [← wayL_at q1 ht]; exact hc t ht⟩;have cF:=HL1.out.2 F (by omega);clear hc hi1 ho1 hb1 b0 h1 cx0 bx0 HF;by_cases hw0:way ok F=0
  ·have HR:=Lib.hid (HNO.out (HW.out.trans hw0))
   have z0:(((way ok F:Nat):Int) == 0)=true:=by simp [hw0]
   clear HNO HYES;go_wp2;go_ret2;exact ⟨some ⟨w.heap.size+1,0,none⟩,0,0,by rw [HR.out.1]; rfl,by rw [HR.out.2]; exact HO1.out,HB1.out⟩
  ·have HR:=Lib.hid (HYES.out (by rw [HW.out]; omega))
   have z0:(((way ok F:Nat):Int) == 0)=false:=by simp [hw0]
   have HST:Hid (FAt ok F 0 F):=Lib.hid (FAt.start (by omega) (by omega));clear HNO HYES HW;go_wp2;go_loopw [4,6] (fun v4 v6 wr=>∃ (i S:Nat) (V:Value),V=v4∧v6 = .int .i64 S∧S≤F∧Hid (FAt ok F i S)∧Hid (OwnV wr w.heap.size 3 V (pikL ok F i))∧Hid (V.ownBlock ≠ some bl)∧Hid (LAt wr bl bo q1 ok)∧Hid (Below w.heap.size w wr)) (fun _ v6 _=>(intOf v6).toNat)
   case atStart=>exact ⟨0,F,_,rfl,rfl,Nat.le_refl _,HST,HO1,Lib.hid (by simp [Value.ownBlock]; omega),HL1,HB1⟩
   case round =>
    clear HST HO1 HL1 HB1;obtain ⟨i,S,V,rfl,rfl,hSF,HFA,HO,HNE,HL,HB⟩:=hrel;by_cases hS0:0<S
    ·have s0:(S:Int) > 0:=by omega
     have h64:=HFA.out.lt;have HEX:=Lib.hid (hit_ex HFA.out.on (by omega));have hpl:=pikL_len ok F i;have hpc:=pc_le F;have hnum:=HFA.out.num;have hi6:i≤6:=by omega
     go_wp2;go_loopw [4,6,7] (fun u4 u6 u7 wx=>∃ k:Nat,u7 = .int .i64 k∧k≤6∧V=u4∧u6 = .int .i64 S∧wx=wr∧Hid (∀ j,j<k→hit ok S j=false)) (fun _ _ u7 _=>6 - (intOf u7).toNat)
     case atStart=>exact ⟨0,rfl,Nat.zero_le _,rfl,rfl,rfl,Lib.hid (fun j hj=>absurd hj (by omega))⟩
     case round =>
      obtain ⟨k,rfl,hk,rfl,rfl,rfl,HH⟩:=hrel;by_cases hk6:k<6
      ·have kk:(k:Int)<6:=by omega
       have i2:IntKind.i64.wrap ((k:Int)+1)=(k:Int)+1:=IntWalk.i64_in _ (by omega);have k0:(0:Int)≤(k:Int):=by omega
       have HBIT:=Lib.hid (bit_at S k (by omega));have hsh:=wrap_p2 k (by omega);by_cases hbit:S / p2 k % 2=1
       ·have ht:(bits BinOp.and IntKind.i64 ((S:Int) / 2 ^ k) 1 == 1)=true:=by rw [HBIT.out,hbit]; rfl
        obtain ⟨T,hT,hsub,hTS⟩:=less_facts h64 hbit;have t0:(0:Int)≤(T:Int):=by omega
        have t1:(T:Int)<(q1:Int):=by omega
        have cT:=HL.out.2 T (by omega);by_cases hw:0<way ok T
        ·have hgt:((way ok T:Nat):Int) > 0:=by omega
         have HSTEP:=Lib.hid (HFA.out.step hk6 (hit_t hbit (by rw [hT]; exact hw)) HH.out);rw [hT] at HSTEP;have hz:=HB.out.size;clear hbit hnum hpc HH;go_wp2_with (at_builtin; refine wpList_appV2 _ rfl (.tmp 45) (.tmp 47) 54 rfl w.heap.size 3 Tryzx.underlying54 infoInt _ (pikL ok F i) rfl (by exact HO.out.alloc _) _ _ (k:Int) rfl (by exact cell_new1 _ _ _) (by omega) (by simp; omega) bl (by have:=HL.out.1; simp; omega) HNE.out ?_; intro g' cap' w5 hown5 hgr5 hne5);have HB5:=Lib.hid (ownB_below HB.out HB.out.size HO.out (Nat.le_refl _) hgr5);have HL5:=Lib.hid ((HL.out.alloc _).kept hgr5 HNE.out);have hv5:=hown5.toV;rw [List.length_append,hpl,← HSTEP.out.2] at hv5;have HV5:=Lib.hid hv5;have HA5:=Lib.hid HSTEP.out.1;have HN5:Hid ((Value.slice (some ⟨g',0,none⟩) (i+1) cap').ownBlock ≠ some bl):=Lib.hid (by simp [Value.ownBlock]; exact hne5);clear hown5 hgr5 hv5 hne5 HSTEP;go_wp2;go_roundw
         case rel=>exact ⟨i+1,T,_,rfl,rfl,by omega,HA5,HV5,HN5,HL5,HB5⟩
         case measure=>simp [intOf]; omega
        ·have hgt:¬ ((way ok T:Nat):Int) > 0:=by omega
         have HN:Hid (hit ok S k=false):=Lib.hid (hit_f2 (by rw [hT]; omega))
         have HH1:Hid (∀ j,j<k+1→hit ok S j=false):=Lib.hid (fun j hj=>by
          rcases Nat.lt_or_ge j k with e | e
          ·exact HH.out j e
          ·obtain rfl:j=k:=by omega
           exact HN.out)
         clear hbit HH;go_wp2;go_roundw
         case rel=>exact ⟨k+1,by go_num,by omega,rfl,rfl,trivial,HH1⟩
         case measure=>simp [intOf]; omega
       ·have ho:S / p2 k % 2=0:=by omega
        have ht:(bits BinOp.and IntKind.i64 ((S:Int) / 2 ^ k) 1 == 1)=false:=by rw [HBIT.out,ho]; rfl
        have HN:Hid (hit ok S k=false):=Lib.hid (hit_f1 hbit);have HH1:Hid (∀ j,j<k+1→hit ok S j=false):=Lib.hid (fun j hj=>by
         rcases Nat.lt_or_ge j k with e | e
         ·exact HH.out j e
         ·obtain rfl:j=k:=by omega
          exact HN.out)
        clear hbit ho HH;go_wp2;go_roundw
        case rel=>exact ⟨k+1,by go_num,by omega,rfl,rfl,trivial,HH1⟩
        case measure=>simp [intOf]; omega
      ·obtain rfl:k=6:=by omega
       exact absurd HH.out HEX.out
    ·obtain rfl:S=0:=by omega
     have HD:=Lib.hid HFA.out.done;have HR2:Hid (OwnV wr w.heap.size 3 V (fndL zs n)):=Lib.hid (by rw [HR.out.2,← HD.out]; exact HO.out);obtain ⟨A9,l9,c9,rfl⟩:=HO.out.sliceN;clear HL HNE HFA HO HD;go_wp2;go_ret2;exact ⟨A9,l9,c9,by rw [HR.out.1]; rfl,HR2.out,HB.out⟩
end
theorem pow7_le (T:Nat):7 ^ pc T≤117649:=by
 have:7 ^ pc T≤7 ^ 6:=Nat.pow_le_pow_right (by omega) (pc_le T);omega
structure FsAt (w wr:World) (X mb:Nat) (va:Value):Prop where
 c0:wr.cell? ⟨X,0,none⟩=some va
 c1:wr.cell? ⟨X,1,none⟩=some (.map (some mb))
 below:Below w.heap.size w wr
 lt:X<wr.heap.size
 far:w.heap.size≤mb∧mb<X
theorem FsAt.grown {w wr w':World} {X mb:Nat} {va:Value} {row:Option Nat} (h:FsAt w wr X mb va) (hg:wr.grownBy w' row) (hr:∀ k,row=some k→k=mb ∨ X<k):FsAt w w' X mb va:=by
 have hf:=h.far;have hx:some X ≠ row:=fun e=>by have:=hr X e.symm; omega
 exact ⟨hg.cell h.c0 hx,hg.cell h.c1 hx,h.below.grown hg h.below.size (fun k hk=>by have:=hr k hk; omega),Nat.lt_of_lt_of_le h.lt hg.size,hf⟩
theorem StkIn.keptR {ok:Nat→Bool} {A:Option Addr} {n:Nat} {zs:List Int} {w w':World} {mb k:Nat} {D:DataW Unit} {row:Option Nat} (h:StkIn ok A n zs w mb k D) (hg:w.grownBy w' row) (hr:∀ k,row=some k→mb<k):StkIn ok A n zs w' mb k D:=by
 refine ⟨h.own.kept hg (fun e=>by have:=hr mb e.symm; omega),h.memo,h.recs.1,fun hn => ?_⟩
 obtain ⟨b,off,rfl,hb,hc⟩:=h.recs.2 hn;exact ⟨b,off,rfl,hb,fun i hi=>hg.cell (hc i hi) (fun e=>by have:=hr b e.symm; omega)⟩
def LiAt (w:World) (A:Option Addr) (mb:Nat) (L:List Int):Prop:=∀ i,i<L.length→∃ b off,A=some ⟨b,off,none⟩∧b ≠ mb∧w.cell? ⟨b,off+i,none⟩=some (.int .i64 (nth L i))
theorem LiAt.kept {w w':World} {A:Option Addr} {mb:Nat} {L:List Int} (h:LiAt w A mb L) (hg:w.grownBy w' (some mb)):LiAt w' A mb L:=fun i hi=>by
 obtain ⟨b,off,e,hb,hc⟩:=h i hi;exact ⟨b,off,e,hb,hg.cell hc (by simp; omega)⟩
section
variable (A : Option Addr) (n c : Nat) (zs : List Int) (w : World) (h : RecsAt w w.heap.size 4 A n zs) (hn : n ≤ 1048576)
include h hn
set_option maxRecDepth 100000 in
set_option maxHeartbeats 6400000 in
theorem iFind_any:Calls Tryzx.prog 60 #[.agg #[.slice A n c]] w (FndPost w (fndL zs n) (fndB zs n)):=by
 have b0:Below w.heap.size w (w.alloc (.cells #[.slice A n c] 26)):=(Below.refl _ _).alloc (Nat.le_refl _) _;have h1:=h.after b0;have bx0:Box (w.alloc (.cells #[.slice A n c] 26)) w.heap.size (.slice A n c):=Box.new _ _ _;have cx0:=bx0.1;have hm7:=cstN_le zs n;have HF:Hid (strN zs n=if 1≤cstN zs n∧cstN zs n≤6 then way (setB zs n) (p2 (cstN zs n) - 1) else 0):=Lib.hid rfl;have HG:Hid (1≤cstN zs n∧cstN zs n≤6→stgC zs n=p2 (cstN zs n)):=Lib.hid (fun h=>by unfold stgC; rw [if_pos h]);have HNO:Hid (strN zs n=0→fndB zs n=false∧fndL zs n = []):=Lib.hid fnd_no;have HYES:Hid (0<strN zs n→fndB zs n=true∧fndL zs n=findL (setB zs n) (stgC zs n - 1)):=Lib.hid fnd_yes;obtain ⟨m,hm⟩:∃ m,cstN zs n=m:=⟨_,rfl⟩;rw [hm] at hm7 HF HG;have HM:=Lib.hid hm;clear h hm;go_enter Tryzx.func60,Tryz.ntmps60;go_wp2_with fail
 refine (newStk_any _ _ _ zs _ (by exact h1) hn m HM.out).mono ?_;rintro e w1 ⟨mb,rfl,hi1,hmb,hb1⟩;have hz1:w.heap.size≤w1.heap.size:=by have:=hb1.size; simp at this; omega
 have hbx:=box_two w1 (.slice A n c) (.map (some mb)) 114;have hlt1:=hi1.lt;have HS1:Hid (FsAt w (w1.alloc (.cells #[.slice A n c,.map (some mb)] 114)) w1.heap.size mb (.slice A n c)):=Lib.hid ⟨hbx.1,hbx.2,(below_then b0 hb1).alloc hz1 _,by simp,by simp at hmb; omega,hlt1⟩
 have HI1:=Lib.hid (hi1.below ((Below.refl _ _).alloc (Nat.le_refl _) (.cells #[.slice A n c,.map (some mb)] 114)));obtain ⟨X,hX⟩:∃ X,w1.heap.size=X:=⟨_,rfl⟩;rw [hX] at HS1;have c0:(w1.alloc (.cells #[.slice A n c,.map (some mb)] 114)).cell? ⟨X,0,none⟩=some (.slice A n c):=HS1.out.c0;have c1:(w1.alloc (.cells #[.slice A n c,.map (some mb)] 114)).cell? ⟨X,1,none⟩=some (.map (some mb)):=HS1.out.c1;clear hi1 hb1 b0 h1 cx0 bx0 hbx hmb hlt1;cases hy:inB (m:Int) 1 6
 ·have HR:=Lib.hid (HNO.out (by
   rw [HF.out,if_neg];intro hc;have:inB (m:Int) 1 6=true:=inB_iff.2 (by omega);rw [hy] at this; cases this))
  clear HF HG HNO HYES;go_wp2;go_ret2;exact ⟨none,0,0,by rw [HR.out.1]; rfl,by rw [HR.out.2]; exact OwnV.nil _ _ _,HS1.out.below⟩
 ·have hin:=inB_iff.1 hy
  have hm1:1≤m:=by omega
  have hm6:m≤6:=by omega
  have HW:Hid (strN zs n=way (setB zs n) (p2 m - 1)):=Lib.hid (by rw [HF.out,if_pos ⟨hm1,hm6⟩]);have hp1:=p2_pos m;have hp6:=p2_6 hm6;have HST:=HG.out ⟨hm1,hm6⟩;rw [HST] at HYES;obtain ⟨F,hF⟩:∃ F,p2 m - 1=F:=⟨_,rfl⟩;rw [hF] at HW HYES;have hFm:F<p2 m:=by omega
  have h7:0+7 ^ pc F≤10000000:=by have:=pow7_le F; omega
  clear HF HG hy HST hin;rw [hF];go_wp2_with fail
  refine (count_any A n c zs hn m HM.out hm1 hm6 mb (pc F) F _ 0 (.map []) hFm rfl (by exact HI1.out) h7).mono ?_;rintro e w2 ⟨rfl,k2,D2,hi2,hk2,hg2⟩;have HS2:=Lib.hid (HS1.out.grown hg2 (fun k hk=>by cases hk; exact .inl rfl));have HI2:=Lib.hid hi2;have hk2':k2≤117649:=by have:=pow7_le F; omega
  clear hi2 hk2 hg2 c0 c1 h7 HS1 HI1;by_cases hw0:way (setB zs n) F=0
  ·have HR:=Lib.hid (HNO.out (HW.out.trans hw0))
   have z0:(((way (setB zs n) F:Nat):Int) == 0)=true:=by simp [hw0]
   clear HNO HYES;go_wp2;go_ret2;exact ⟨none,0,0,by rw [HR.out.1]; rfl,by rw [HR.out.2]; exact OwnV.nil _ _ _,HS2.out.below⟩
  ·have HR:=Lib.hid (HYES.out (by rw [HW.out]; omega))
   have z0:(((way (setB zs n) F:Nat):Int) == 0)=false:=by simp [hw0]
   have HFA0:Hid (FAt (setB zs n) F 0 F):=Lib.hid (FAt.start (by omega) (by omega));clear HNO HYES HW;go_wp2;go_loopw [5,7] (fun v5 v7 wr=>∃ (i S k:Nat) (D:DataW Unit) (V:Value),V=v7∧v5 = .int .u64 S∧S<p2 m∧k≤117649*(1+6*i)∧Hid (FAt (setB zs n) F i S)∧Hid (OwnV wr (X+1) 3 V (pikL (setB zs n) F i))∧Hid (StkIn (setB zs n) A n zs wr mb k D)∧Hid (FsAt w wr X mb (.slice A n c))) (fun v5 _ _=>(intOf v5).toNat)
   case atStart=>exact ⟨0,F,k2,D2,_,rfl,rfl,hFm,by omega,HFA0,Lib.hid (OwnV.nil _ _ _),HI2,HS2⟩
   case round =>
    clear HFA0 HI2 HS2;obtain ⟨i,S,k,D,V,rfl,rfl,hSm,hk,HFA,HO,HI,HS⟩:=hrel;by_cases hS0:S=0
    ·subst hS0
     have s0:((0:Int) != 0)=false:=rfl;have HD:=Lib.hid HFA.out.done;have HR2:Hid (OwnV wr (X+1) 3 V (fndL zs n)):=Lib.hid (by rw [HR.out.2,← HD.out]; exact HO.out);obtain ⟨A9,l9,c9,rfl⟩:=HO.out.sliceN;clear HFA HO HD;go_wp2;go_ret2;exact ⟨A9,l9,c9,by rw [HR.out.1]; rfl,HR2.out.weakenN (by have:=HS.out.far; omega),HS.out.below⟩
    ·have s0:((S:Int) != 0)=true:=by simp; omega
     have h64:=HFA.out.lt;have HEX:=Lib.hid (hit_ex HFA.out.on hS0);have hpl:=pikL_len (setB zs n) F i;have hpc:=pc_le F;have hnum:=HFA.out.num;have hi6:i≤6:=by omega
     have hlen:=setL_len S m;go_wp2_with fail
     refine (iSet_any S m hSm (by omega) _).mono ?_;rintro e w3 ⟨v3,rfl,ho3,hb3⟩;obtain ⟨A3,q3,d3,rfl⟩:=ho3.sliceN;have hq3:=ho3.len;subst hq3;have HI3:=Lib.hid (HI.out.below hb3);have HS3:=Lib.hid (HS.out.grown (below_grownR hb3 none) (fun k hk=>by cases hk));have HO3:=Lib.hid (HO.out.afterN hb3);have HL3:Hid (LiAt w3 A3 mb (setL S m)):=Lib.hid (own_li ho3 (by have:=HI.out.lt; omega))
     clear hb3 ho3 HI HS HO;go_wp2;go_loopw [5,7,29] (fun u5 u7 u29 wx=>∃ (t k1:Nat) (D1:DataW Unit),u29 = .int .i64 t∧t≤(setL S m).length∧V=u7∧u5 = .int .u64 S∧k1≤k+t*117649∧Hid (noneTo (setB zs n) S m t)∧Hid (OwnV wx (X+1) 3 V (pikL (setB zs n) F i))∧Hid (StkIn (setB zs n) A n zs wx mb k1 D1)∧Hid (FsAt w wx X mb (.slice A n c))∧Hid (LiAt wx A3 mb (setL S m))) (fun _ _ u29 _=>(setL S m).length - (intOf u29).toNat)
     case atStart=>exact ⟨0,k,D,rfl,Nat.zero_le _,rfl,rfl,by omega,Lib.hid (none_0 _ _ _),HO3,HI3,HS3,HL3⟩
     case round =>
      clear HO3 HI3 HS3 HL3;obtain ⟨t,k1,D1,rfl,ht,rfl,rfl,hk1,HN,HO,HI,HS,HL⟩:=hrel;by_cases hlt2:t<(setL S m).length
      ·have ii:(t:Int)<((setL S m).length:Int):=by omega
       have i0:(0:Int)≤(t:Int):=by omega
       have i1:IntKind.i64.wrap ((t:Int)+1)=(t:Int)+1:=IntWalk.i64_in _ (by omega);obtain ⟨j,hj,hnj,hbit,hjl⟩:=setL_at hlt2;obtain ⟨b,off,rfl,hbm,hcz⟩:=HL.out t hlt2;rw [hnj] at hcz;have hp:=p2_in hbit;have handn:=andNot_at h64 (show j<6 by omega) hbit;have hshj:=uwrap_p2 j (by omega);have j0:(0:Int)≤(j:Int):=by omega
       obtain ⟨T,hT⟩:∃ T,S - p2 j=T:=⟨_,rfl⟩;rw [hT] at handn;have hTm:T<p2 m:=by omega
       have hTS:T<S:=by omega
       have h7T:=pow7_le T;have hbd:k1+7 ^ pc T≤10000000:=by omega
       have c0:=HS.out.c0;have c1:=HS.out.c1;clear hp hnj;by_cases hw:0<way (setB zs n) T
       ·have hgt:((way (setB zs n) T:Nat):Int) > 0:=by omega
        have HSTEP:=Lib.hid (HFA.out.step (show j<6 by omega) (hit_t hbit (by rw [hT]; exact hw)) (none_before HN.out hjl hj));rw [hT] at HSTEP;have hk3:∀ k3,k3≤k1+7 ^ pc T→k3≤117649*(1+6*(i+1)):=fun k3 h3=>by omega
        have HK3:=Lib.hid hk3;clear hbit hnum hpc HN hw hk3;go_wp2_with fail
        go_region_held3 (fun w'=>w'.cell? ⟨X,0,none⟩=some (.slice A n c)∧w'.cell? ⟨X,1,none⟩=some (.map (some mb))) (first | exact ⟨c0,c1⟩ | exact ⟨HS6.out.c0,HS6.out.c1⟩) ((go_at_call 99; refine (count_any A n c zs hn m HM.out hm1 hm6 mb (pc T) T _ k1 D1 hTm rfl (by exact HI.out.drew) hbd).mono ?_; rintro e w6 ⟨rfl,k3,D3,hi6',hk6,hgx⟩; have hg6:=grown_undrew hgx; have HI6:=Lib.hid hi6'; have HS6:=Lib.hid (HS.out.grown hg6 (fun k hk=>by cases hk; exact .inl rfl)); have HO6:=Lib.hid (HO.out.grownR hg6 (by have:=HS.out.far; omega))))
        have hz6:=HS6.out.lt;clear hgx hg6 hi6' c0 c1 hcz HL HI HS HO;go_wp2_with (at_builtin; refine wpList_append_int _ rfl (.tmp 40) (.tmp 42) 54 rfl (X+1) 3 Tryzx.underlying54 infoInt _ (pikL (setB zs n) F i) rfl (by exact HO6.out.alloc _) _ _ (j:Int) rfl (by exact cell_new1 _ _ _) (by omega) (by simp; omega) ?_; intro g' cap' w7 hown7 hgr7);have hgr:=grown_of_alloc hgr7;have HI7:=Lib.hid (HI6.out.keptR hgr (fun k hk=>by have:=HO6.out.ownLt k hk; have:=HS6.out.far; omega))
        have HS7:=Lib.hid (HS6.out.grown hgr (fun k hk=>by have:=HO6.out.ownLt k hk; exact .inr (by omega)));have hv7:=hown7.toV;rw [List.length_append,hpl,← HSTEP.out.2] at hv7;have HV7:=Lib.hid hv7;have HA7:=Lib.hid HSTEP.out.1;clear hown7 hgr7 hgr hv7 HSTEP;go_wp2;go_roundw
        case rel=>exact ⟨i+1,T,k3,D3,_,rfl,rfl,hTm,HK3.out _ hk6,HA7,HV7,HI7,HS7⟩
        case measure=>simp [intOf]; omega
       ·have hgt:¬ ((way (setB zs n) T:Nat):Int) > 0:=by omega
        have HN1:=Lib.hid (none_step HN.out hjl hj hbit (by rw [hT]; omega))
        have HK3:Hid (∀ k3,k3≤k1+7 ^ pc T→k3≤k+(t+1)*117649):=Lib.hid (fun k3 h3=>by omega);clear hbit hnum hpc HN hw;go_wp2_with fail
        go_region_held3 (fun w'=>w'.cell? ⟨X,0,none⟩=some (.slice A n c)∧w'.cell? ⟨X,1,none⟩=some (.map (some mb))) (first | exact ⟨c0,c1⟩ | exact ⟨HS6.out.c0,HS6.out.c1⟩) ((go_at_call 99; refine (count_any A n c zs hn m HM.out hm1 hm6 mb (pc T) T _ k1 D1 hTm rfl (by exact HI.out.drew) hbd).mono ?_; rintro e w6 ⟨rfl,k3,D3,hi6',hk6,hgx⟩; have hg6:=grown_undrew hgx; have HI6:=Lib.hid hi6'; have HS6:=Lib.hid (HS.out.grown hg6 (fun k hk=>by cases hk; exact .inl rfl)); have HO6:=Lib.hid (HO.out.grownR hg6 (by have:=HS.out.far; omega)); have HL6:=Lib.hid (HL.out.kept hg6)));clear hgx hg6 hi6' c0 c1 hcz HL HI HS HO;go_wp2;go_roundw
        case rel=>exact ⟨t+1,k3,D3,by go_num,by omega,rfl,rfl,HK3.out _ hk6,HN1,HO6,HI6,HS6,HL6⟩
        case measure=>simp [intOf]; omega
      ·obtain rfl:t=(setL S m).length:=by omega
       exact absurd (none_all hSm HN.out) HEX.out
end
end X
namespace X
open Go.RowKit
set_option maxHeartbeats 800000 in
theorem markJointS_any (g n c:Nat) (f:Nat→Value) (k0:Int) (w:World) (h:w.rowIs g 45 (n*4) f) (hf:IntRow f) (hn:n≤1048576) (h0:0≤k0) (h1:k0≤1000000000) :
  Calls Tryzx.prog 104 #[.slice (some ⟨g,0,none⟩) n c,.int .i64 k0] w fun e w'=>e = .returned (.int .i64 (k0+(n*4:Nat)))∧w'.rowIs g 45 (n*4) (marks f k0 (n*4))∧Only g w w':=by
 have H:=Lib.hid h;have HFI:=Lib.hid hf;clear h hf;go_enter Tryzx.func104,Tryz.ntmps104;go_wp2;go_loopw [1,5] (fun m i wr=>∃ k:Nat,k≤n∧i = .int .i64 k∧m = .int .i64 (k0+(k*4:Nat))∧wr.rowIs g 45 (n*4) (marks f k0 (k*4))∧Only g w wr) (fun _ i _=>n - (intOf i).toNat)
 case atStart=>exact ⟨0,Nat.zero_le _,rfl,by simp,by rw [Nat.zero_mul]; exact H.out.congr (fun j _=>(marks_0 f k0 j).symm),Only.refl _ _⟩
 case round =>
  obtain ⟨k,hk,rfl,rfl,hrow,ho⟩:=hrel;have HR:=Lib.hid hrow;have HO:=Lib.hid ho;by_cases hlt:k<n
  ·
   obtain ⟨v0,e0⟩:∃ z:Int,marks f k0 (k*4) (k*4) = .int .i64 z:=by
    obtain ⟨z,e⟩:=HFI.out (k*4);exact ⟨z,by rw [marks,if_neg (by omega)]; exact e⟩
   have hc0:wr.cell? ⟨g,k*4,none⟩=some (.int .i64 v0):=by rw [HR.out.cell (by omega),e0]
   have hf0:wr.frozen? ⟨g,k*4,none⟩=false:=HR.out.frozen _;clear e0;obtain ⟨v1,e1⟩:∃ z:Int,marks f k0 (k*4) (k*4+1) = .int .i64 z:=by
    obtain ⟨z,e⟩:=HFI.out (k*4+1);exact ⟨z,by rw [marks,if_neg (by omega)]; exact e⟩
   have hc1:wr.cell? ⟨g,k*4+1,none⟩=some (.int .i64 v1):=by rw [HR.out.cell (by omega),e1]
   have hf1:wr.frozen? ⟨g,k*4+1,none⟩=false:=HR.out.frozen _;clear e1;obtain ⟨v2,e2⟩:∃ z:Int,marks f k0 (k*4) (k*4+2) = .int .i64 z:=by
    obtain ⟨z,e⟩:=HFI.out (k*4+2);exact ⟨z,by rw [marks,if_neg (by omega)]; exact e⟩
   have hc2:wr.cell? ⟨g,k*4+2,none⟩=some (.int .i64 v2):=by rw [HR.out.cell (by omega),e2]
   have hf2:wr.frozen? ⟨g,k*4+2,none⟩=false:=HR.out.frozen _;clear e2;obtain ⟨v3,e3⟩:∃ z:Int,marks f k0 (k*4) (k*4+3) = .int .i64 z:=by
    obtain ⟨z,e⟩:=HFI.out (k*4+3);exact ⟨z,by rw [marks,if_neg (by omega)]; exact e⟩
   have hc3:wr.cell? ⟨g,k*4+3,none⟩=some (.int .i64 v3):=by rw [HR.out.cell (by omega),e3]
   have hf3:wr.frozen? ⟨g,k*4+3,none⟩=false:=HR.out.frozen _;clear e3;clear hrow ho;have hkk:(((k*4:Nat):Nat):Int)≤1073741824:=by omega
   go_wp2;go_roundw
   case rel =>
    refine ⟨k+1,by omega,by go_num,by go_num,?_,((((HO.out.setCell _ _).setCell _ _).setCell _ _).setCell _ _)⟩;have hs:=(World.rowIs.congr (World.rowIs.set (World.rowIs.congr (World.rowIs.set (World.rowIs.congr (World.rowIs.set (World.rowIs.congr (World.rowIs.set HR.out (k*4) (.int .i64 (k0+((k*4:Nat):Int)))) (fun j _=>marks_step f k0 (k*4) j)) (k*4+1) (.int .i64 (k0+((k*4+1:Nat):Int)))) (fun j _=>marks_step f k0 (k*4+1) j)) (k*4+2) (.int .i64 (k0+((k*4+2:Nat):Int)))) (fun j _=>marks_step f k0 (k*4+2) j)) (k*4+3) (.int .i64 (k0+((k*4+3:Nat):Int)))) (fun j _=>marks_step f k0 (k*4+3) j));rw [Nat.add_mul,Nat.one_mul];simpa [Int.add_assoc] using hs
   case measure=>simp [intOf]; omega
  ·have hkn:k=n:=by omega
   subst hkn;clear hrow ho;go_wp2;go_ret;exact ⟨rfl,HR.out,HO.out⟩
end X
section
open Go.RowKit
def filled (w:World) (g:Nat) (E:TypeId) (K:Nat) (f:Nat→Value) (L:List (Nat × List Int)) (i:Nat):Prop :=
 ∃ gi,f i = .slice (some ⟨gi,0,none⟩) (rowN L i) (rowN L i)∧g<gi∧w.rowIs gi E (rowN L i*K) (ints (rowZ L i))
def NestRow (w:World) (g:Nat) (T E:TypeId) (K n:Nat) (L:List (Nat × List Int)):Prop:=∃ f,w.rowIs g T n f∧∀ i,i<n→filled w g E K f L i
def NestTo (w:World) (g:Nat) (T E:TypeId) (K n:Nat) (L:List (Nat × List Int)) (k:Nat):Prop:=∃ f,w.rowIs g T n f∧(∀ i,i<k→filled w g E K f L i)∧∀ i,k≤i→f i = .slice none 0 0
section
variable {w w' : World} {g : Nat} {T E : TypeId} {K n k : Nat} {L : List (Nat × List Int)} {f f' : Nat → Value} {i : Nat}
theorem filled.after (h:filled w g E K f L i) (hb:Below w.heap.size w w'):filled w' g E K f L i:=by
 obtain ⟨gi,h1,h2,h3⟩:=h;exact ⟨gi,h1,h2,h3.of_block (hb.block gi h3.lt)⟩
theorem NestTo.after (h:NestTo w g T E K n L k) (hb:Below w.heap.size w w'):NestTo w' g T E K n L k:=by
 obtain ⟨f,h1,h2,h3⟩:=h;exact ⟨f,h1.of_block (hb.block g h1.lt),fun i hi=>(h2 i hi).after hb,h3⟩
theorem NestRow.after (h:NestRow w g T E K n L) (hb:Below w.heap.size w w'):NestRow w' g T E K n L:=by
 obtain ⟨f,h1,h2⟩:=h;exact ⟨f,h1.of_block (hb.block g h1.lt),fun i hi=>(h2 i hi).after hb⟩
theorem NestRow.lt (h:NestRow w g T E K n L):g<w.heap.size:=by
 obtain ⟨f,h1,_⟩:=h;exact h1.lt
theorem NestTo.start (w:World) (T E:TypeId) (K n:Nat) (L:List (Nat × List Int)):NestTo (w.alloc (.cells (madeCells #[.slice none 0 0] n) T)) w.heap.size T E K n L 0 :=
 ⟨_,World.rowIs_made w (.slice none 0 0) n T,fun i hi=>absurd hi (by omega),fun _ _=>rfl⟩
end
end
section
open Go.RowKit
structure Within (lo hi:Nat) (w w':World):Prop where
 os:w'.os=w.os
 tape:w'.tape=w.tape
 output:w'.output=w.output
 size:w'.heap.size=w.heap.size
 block:∀ k,k<lo ∨ hi≤k→w'.heap[k]?=w.heap[k]?
section
variable {lo hi : Nat} {w w' w'' : World}
theorem Within.refl (lo hi:Nat) (w:World):Within lo hi w w:=⟨rfl,rfl,rfl,rfl,fun _ _=>rfl⟩
theorem Within.trans (h:Within lo hi w w') (h':Within lo hi w' w''):Within lo hi w w'':=⟨h'.os.trans h.os,h'.tape.trans h.tape,h'.output.trans h.output,h'.size.trans h.size,fun k hk=>(h'.block k hk).trans (h.block k hk)⟩
theorem Within.of_only {g:Nat} (h:Only g w w') (h1:lo≤g) (h2:g<hi):Within lo hi w w':=⟨h.os,h.tape,h.output,h.size,fun k hk=>h.block k (by omega)⟩
theorem Within.below (h:Within lo hi w w'):Below lo w w':=⟨h.os,h.tape,h.output,Nat.le_of_eq h.size.symm,fun k hk=>h.block k (.inl hk)⟩
theorem Within.row {g:Nat} {t:TypeId} {n:Nat} {f:Nat→Value} (h:Within lo hi w w') (hr:w.rowIs g t n f) (hg:g<lo ∨ hi≤g):w'.rowIs g t n f:=hr.of_block (h.block g hg)
theorem Within.own {base:Nat} {E:TypeId} {v:Value} {xs:List Int} (h:Within lo hi w w') (ho:OwnV w base E v xs) (hb:hi≤base):OwnV w' base E v xs:=by
 rcases ho.form with ⟨rfl,rfl⟩ | ⟨g',cap,rfl,hi'⟩
 ·exact OwnV.nil _ _ _
 ·refine ⟨hi'.1,?_⟩
  rcases hi'.2 with h2 | ⟨g'',cap',cur,h1,h2,h3,hr⟩
  ·exact .inl h2
  ·simp at h1
   obtain ⟨rfl,rfl⟩:=h1;exact .inr ⟨g',cap,cur,rfl,h2,(h.block g' (.inr (by omega))).trans h3,hr⟩
end
def RowI (w:World) (lo hi g:Nat) (E:TypeId) (m:Nat):Prop:=∃ f,w.rowIs g E m f∧IntRow f∧lo≤g∧g<hi
section
variable {w w' : World} {lo hi g : Nat} {E : TypeId} {m : Nat}
theorem RowI.of_row {f:Nat→Value} (h:w.rowIs g E m f) (hi':IntRow f) (h1:lo≤g) (h2:w.heap.size≤hi):RowI w lo hi g E m:=⟨f,h,hi',h1,Nat.lt_of_lt_of_le h.lt h2⟩
theorem RowI.after (h:RowI w lo hi g E m) (hb:Below w.heap.size w w'):RowI w' lo hi g E m:=by
 obtain ⟨f,h1,h2⟩:=h;exact ⟨f,h1.of_block (hb.block g h1.lt),h2⟩
end
def NestInts (w:World) (lo hi g:Nat) (T E:TypeId) (K n:Nat) (L:List (Nat × List Int)):Prop :=
 lo≤g∧∃ f,w.rowIs g T n f∧∀ i,i<n→∃ gi fi,f i = .slice (some ⟨gi,0,none⟩) (rowN L i) (rowN L i)∧g<gi∧gi<hi∧w.rowIs gi E (rowN L i*K) fi∧IntRow fi
section
variable {w w' : World} {lo hi g : Nat} {T E : TypeId} {K n : Nat} {L : List (Nat × List Int)}
theorem NestInts.of_row (h:NestRow w g T E K n L) (h1:lo≤g) (h2:w.heap.size≤hi):NestInts w lo hi g T E K n L:=by
 obtain ⟨f,hr,hf⟩:=h;refine ⟨h1,f,hr,fun i hi' => ?_⟩;obtain ⟨gi,e1,e2,e3⟩:=hf i hi';exact ⟨gi,_,e1,e2,Nat.lt_of_lt_of_le e3.lt h2,e3,intRow_ints _⟩
theorem NestInts.after (h:NestInts w lo hi g T E K n L) (hb:Below w.heap.size w w'):NestInts w' lo hi g T E K n L:=by
 obtain ⟨h1,f,hr,hf⟩:=h;refine ⟨h1,f,hr.of_block (hb.block g hr.lt),fun i hi' => ?_⟩;obtain ⟨gi,fi,e1,e2,e3,e4,e5⟩:=hf i hi';exact ⟨gi,fi,e1,e2,e3,e4.of_block (hb.block gi e4.lt),e5⟩
theorem rowIs_size {t:TypeId} {m m':Nat} {f f':Nat→Value} (h:w.rowIs g t m f) (h':w.rowIs g t m' f'):m=m':=by
 obtain ⟨c,hb,hn,_⟩:=h;obtain ⟨c',hb',hn',_⟩:=h';rw [hb] at hb';simp at hb';rw [← hn,← hn',hb']
theorem NestInts.only {gk m:Nat} {fk fk':Nat→Value} (h:NestInts w lo hi g T E K n L) (hg:g<gk) (ho:Only gk w w') (hr0:w.rowIs gk E m fk) (hr:w'.rowIs gk E m fk') (hk:IntRow fk'):NestInts w' lo hi g T E K n L:=by
 obtain ⟨h1,f,hrow,hf⟩:=h;refine ⟨h1,f,ho.row hrow (by omega),fun i hi' => ?_⟩;obtain ⟨gi,fi,e1,e2,e3,e4,e5⟩:=hf i hi';by_cases e:gi=gk
 ·subst e
  have:=rowIs_size e4 hr0;exact ⟨gi,fk',e1,e2,e3,by rw [this]; exact hr,hk⟩
 ·exact ⟨gi,fi,e1,e2,e3,ho.row e4 e,e5⟩
end
end
section
open Go.RowKit
theorem RowI.in {w:World} {lo hi g:Nat} {E:TypeId} {m:Nat} (h:RowI w lo hi g E m):lo≤g∧g<hi:=by
 obtain ⟨f,_,_,h3⟩:=h;exact h3
end
section
open Go.RowKit
structure Inside (lo hi:Nat) (w w':World):Prop where
 os:w'.os=w.os
 tape:w'.tape=w.tape
 output:w'.output=w.output
 size:w.heap.size≤w'.heap.size
 block:∀ k,k<w.heap.size→k<lo ∨ hi≤k→w'.heap[k]?=w.heap[k]?
section
variable {lo hi : Nat} {w w' w'' : World}
theorem Within.inside (h:Within lo hi w w'):Inside lo hi w w':=⟨h.os,h.tape,h.output,Nat.le_of_eq h.size.symm,fun k _ hk=>h.block k hk⟩
theorem Inside.trans (h:Inside lo hi w w') (h':Inside lo hi w' w''):Inside lo hi w w'':=⟨h'.os.trans h.os,h'.tape.trans h.tape,h'.output.trans h.output,Nat.le_trans h.size h'.size,fun k hk hh=>(h'.block k (Nat.lt_of_lt_of_le hk h.size) hh).trans (h.block k hk hh)⟩
theorem Inside.of_below (h:Below w.heap.size w w'):Inside lo hi w w':=⟨h.os,h.tape,h.output,h.size,fun k hk _=>h.block k hk⟩
theorem Inside.below (h:Inside lo hi w w') (hlo:lo≤w.heap.size):Below lo w w':=⟨h.os,h.tape,h.output,h.size,fun k hk=>h.block k (by omega) (.inl hk)⟩
theorem Inside.own {base:Nat} {E:TypeId} {v:Value} {xs:List Int} (h:Inside lo hi w w') (ho:OwnV w base E v xs) (hb:hi≤base):OwnV w' base E v xs:=by
 rcases ho.form with ⟨rfl,rfl⟩ | ⟨g',cap,rfl,hi'⟩
 ·exact OwnV.nil _ _ _
 ·refine ⟨hi'.1,?_⟩
  rcases hi'.2 with h2 | ⟨g'',cap',cur,h1,h2,h3,hr⟩
  ·exact .inl h2
  ·simp at h1
   obtain ⟨rfl,rfl⟩:=h1;exact .inr ⟨g',cap,cur,rfl,h2,(h.block g' (Array.getElem?_eq_some_iff.1 h3).1 (.inr (by omega))).trans h3,hr⟩
theorem Inside.row {g:Nat} {t:TypeId} {n:Nat} {f:Nat→Value} (h:Inside lo hi w w') (hr:w.rowIs g t n f) (hg:g<lo ∨ hi≤g):w'.rowIs g t n f:=hr.of_block (h.block g hr.lt hg)
theorem RowI.inside {lo' hi' g m:Nat} {E:TypeId} (h:RowI w lo hi g E m) (hw:Inside lo' hi' w w') (hd:hi≤lo' ∨ hi'≤lo):RowI w' lo hi g E m:=by
 obtain ⟨f,h1,h2,h3,h4⟩:=h;exact ⟨f,hw.row h1 (by omega),h2,h3,h4⟩
end
end
namespace X
open Go.RowKit
set_option maxHeartbeats 800000 in
theorem markArch_row (lo hi g n c:Nat) (k0:Int) (w:World) (h:RowI w lo hi g 45 (n*4)) (hn:n≤1048576) (h0:0≤k0) (h1:k0≤1000000000) :
  Calls Tryzx.prog 52 #[.agg #[.slice (some ⟨g,0,none⟩) n c],.int .i64 k0] w fun e w'=>e = .returned (.int .i64 (k0+(n*4:Nat)))∧Inside lo hi w w':=by
 obtain ⟨f,hr,hf,hl,hh⟩:=h;have b0:Below w.heap.size w (w.alloc (.cells #[.slice (some ⟨g,0,none⟩) n c] 26)):=(Below.refl _ _).alloc (Nat.le_refl _) _;have hr0:=hr.of_block (b0.block g hr.lt);go_enter Tryzx.func52,Tryz.ntmps52;go_wp2_with fail
 refine (markJointS_any g n c f k0 _ hr0 hf hn h0 h1).mono ?_;rintro e w1 ⟨rfl,_,ho⟩;have HI:=Lib.hid ((Inside.of_below b0 (lo:=lo) (hi:=hi)).trans (Within.of_only ho hl hh).inside);clear ho;go_wp2;go_ret;exact ⟨rfl,HI.out⟩
end X
namespace X
open Go.RowKit
def markTo (xs:List Int) (k0:Int):Nat→List Int
 | 0=>xs
 | k+1=>(markTo xs k0 k).set k (k0+k)
theorem markTo_length (xs:List Int) (k0:Int):∀ k,(markTo xs k0 k).length=xs.length
 | 0=>rfl
 | k+1=>by rw [markTo,List.length_set,markTo_length xs k0 k]
def iota (k0:Int) (n:Nat):List Int:=(List.range n).map (fun (i:Nat)=>k0+(i:Int))
theorem iota_length (k0:Int) (n:Nat):(iota k0 n).length=n:=by simp [iota]
theorem nth_iota {k0:Int} {n j:Nat} (hj:j<n):nth (iota k0 n) j=k0+j:=by
 rw [nth_get _ _ (by rw [iota_length]; exact hj)];simp [iota]
theorem nth_markTo (xs:List Int) (k0:Int):∀ k,k≤xs.length→∀ j,j<k→nth (markTo xs k0 k) j=k0+j
 | 0,_,j,hj=>absurd hj (by omega)
 | k+1,hk,j,hj=>by
  have hl:j<(markTo xs k0 (k+1)).length:=by rw [markTo_length]; omega
  rw [nth_get _ _ hl];simp only [markTo,List.getElem_set];by_cases h:k=j
  ·subst h; simp
  ·rw [if_neg h,← nth_get]
   exact nth_markTo xs k0 k (by omega) j (by omega)
theorem markTo_end (xs:List Int) (k0:Int):markTo xs k0 xs.length=iota k0 xs.length :=
 list_ext_nth (by rw [markTo_length,iota_length]) (fun j hj=>by
  rw [markTo_length] at hj;rw [nth_markTo xs k0 _ (Nat.le_refl _) j hj,nth_iota hj])
theorem markTo_step (xs:List Int) (k0:Int) (k:Nat):markTo xs k0 (k+1)=(markTo xs k0 k).set k (k0+k):=rfl
set_option maxHeartbeats 400000 in
theorem markIntS_any (A:Option Addr) (n c:Nat) (xs:List Int) (k0:Int) (base:Nat) (w:World) (h:OwnV w base 3 (.slice A n c) xs) (hn:n≤1048576) (h0:0≤k0) (h1:k0≤1000000000) :
  Calls Tryzx.prog 53 #[.slice A n c,.int .i64 k0] w fun e w'=>e = .returned (.int .i64 (k0+n))∧OwnV w' base 3 (.slice A n c) (iota k0 n)∧Below base w w'∧w'.heap.size=w.heap.size:=by
 have hln:=h.len;subst hln;go_enter Tryzx.func53,Tryz.ntmps53;go_wp2;go_loopw [1,5] (fun m i wr=>∃ k:Nat,k≤xs.length∧i = .int .i64 k∧m = .int .i64 (k0+k)∧OwnV wr base 3 (.slice A xs.length c) (markTo xs k0 k)∧Below base w wr∧wr.heap.size=w.heap.size) (fun _ i _=>xs.length - (intOf i).toNat)
 case atStart=>exact ⟨0,Nat.zero_le _,rfl,by simp,h,Below.refl _ _,rfl⟩
 case round =>
  obtain ⟨k,hk,rfl,rfl,hown,hb,hsz⟩:=hrel;have HL:=Lib.hid (markTo_length xs k0 k);have HS:=Lib.hid (markTo_step xs k0 k);have HE:=Lib.hid (markTo_end xs k0);by_cases hlt:k<xs.length
  ·rcases hown.form with ⟨e1,e2⟩ | ⟨g,cap,e1,hi⟩
   ·exfalso
    have:=HL.out;rw [e2] at this;simp at this;omega
   rw [HL.out] at e1;simp only [Value.slice.injEq,true_and] at e1;obtain ⟨rfl,rfl⟩:=e1;have hcx:=hi.cell (j:=k) (by rw [HL.out]; exact hlt);have hfx:=hi.frozen k;have hg:=hi.blk;have HB:=Lib.hid hb;have HI:=Lib.hid hi;have HZ:=Lib.hid hsz;clear hown hi hb hsz h;generalize nth (markTo xs k0 k) k=z at *
   generalize hmm:markTo xs k0 k=mm at *
   clear hmm;go_wp2;go_roundw
   case rel =>
    refine ⟨k+1,by omega,by go_num,by go_num,?_,HB.out.setCell hg.1 _,by simpa using HZ.out⟩;rw [HS.out];have:=HI.out.set k (k0+k);unfold OwnI at this;rw [List.length_set,HL.out] at this;exact this
   case measure=>simp [intOf]; omega
  ·have hkn:k=xs.length:=by omega
   subst hkn;have HO:=Lib.hid hown;have HB:=Lib.hid hb;have HZ:=Lib.hid hsz;clear hown hb hsz h;go_wp2;go_ret;refine ⟨rfl,?_,HB.out,HZ.out⟩;rw [← HE.out];exact HO.out
set_option maxHeartbeats 400000 in
theorem heldIntS_any (A:Option Addr) (n c:Nat) (k0:Int) (w:World) (h:IntsAt w w.heap.size A n (iota k0 n)) (hn:n≤1048576) (h0:0≤k0) (h1:k0≤1000000000) :
  Calls Tryzx.prog 54 #[.slice A n c,.int .i64 k0] w fun e w'=>e = .returned (.int .i64 (k0+n))∧w=w':=by
 have H:=Lib.hid h;clear h;go_enter Tryzx.func54,Tryz.ntmps54;go_wp2;go_loop [1,5] (fun m i=>∃ k:Nat,k≤n∧i = .int .i64 k∧m = .int .i64 (k0+k)) (fun _ i=>n - (intOf i).toNat)
 case atStart=>exact ⟨0,Nat.zero_le _,rfl,by simp⟩
 case round =>
  obtain ⟨k,hk,rfl,rfl⟩:=hrel;by_cases hlt:k<n
  ·obtain ⟨b,off,rfl,hbB,hc⟩:=H.out.2 (by omega)
   have hcx:w.cell? ⟨b,off+k,none⟩=some (.int .i64 (k0+k)):=by rw [hc k hlt,nth_iota hlt]
   have ht:(k0+(k:Int) != k0+(k:Int))=false:=by simp
   clear hc;go_wp2;go_round
   case rel=>exact ⟨k+1,by omega,by go_num,by go_num⟩
   case measure=>simp [intOf]; omega
  ·have hkn:k=n:=by omega
   subst hkn;go_wp2;go_ret;exact ⟨rfl,rfl⟩
end X
namespace X
open Go.RowKit
set_option maxRecDepth 100000 in
set_option maxHeartbeats 3200000 in
theorem fnExactFindStriking.walk (A0:Option Addr) (n0 c0:Nat) (z0:List Int) (hm0:n0≤maxLen) (w:World) (a0_:RecsAt w w.heap.size 4 A0 n0 z0) :
  Calls Tryzx.prog 13 #[.agg #[.slice A0 n0 c0]] w fun e w'=>e = .returned (.bool true)∧Below w.heap.size w w':=by
 have hm0':n0≤9223372036854775807:=by unfold maxLen at hm0; omega
 have b_0:Below w.heap.size w w:=Below.refl _ _;have a0_0:=a0_;have hb_1:Below w.heap.size w (w.alloc (.cells #[.slice A0 n0 c0] 49)):=(Below.refl _ _).alloc (Nat.le_refl _) _;have b_1:=below_then b_0 hb_1;clear b_0;have a0_1:=a0_0.after hb_1;clear a0_0;have hz_1:=hb_1.size;clear hb_1;have bx0_1:Box (w.alloc (.cells #[.slice A0 n0 c0] 49)) w.heap.size (.slice A0 n0 c0):=Box.new _ _ _;have cbx0_1:=bx0_1.1;go_enter Tryzx.func13,Tryz.ntmps13;go_wp2_with fail
 refine (sz1_any (n:=n0) (by omega) (fun h=>szArch_ok A0 n0 c0 _ _ (by omega) (by omega) hm0' h) (fun h=>szArch_no A0 n0 c0 _ _ (by omega) (by omega) hm0' h)).mono ?_;rintro e w2 ⟨r2,rfl,hb_2,hr2⟩;have b_2:=below_then b_1 hb_2;clear b_1;have a0_2:=a0_1.after hb_2;clear a0_1;have bx0_2:=bx0_1.after hb_2;clear bx0_1;clear cbx0_1;have cbx0_2:=bx0_2.1;have hz_2:=hb_2.size;clear hb_2;rcases hr2 with rfl | hr2
 ·go_wp2
  go_ret;exact ⟨rfl,b_2⟩
 obtain ⟨hr2a,hr2b,hr2c⟩:=hr2;have hn0:n0≤1048576:=by omega
 have ht0:¬ r2<0:=by omega
 go_wp2_with fail
 refine (toArch_any A0 n0 c0 z0 _ a0_2 hn0).mono ?_;rintro e w3 ⟨g3,rfl,hg3,r_3,hb_3⟩;have b_3:=below_then b_2 hb_3;clear b_2;have a0_3:=a0_2.after hb_3;clear a0_2;have bx0_3:=bx0_2.after hb_3;clear bx0_2;clear cbx0_2;have cbx0_3:=bx0_3.1;have hz_3:=hb_3.size;clear hb_3;have s0_3:=recsAt_row r_3 a0_.1 (fun k _=>rfl);clear r_3;go_wp2_with fail
 refine (sFind_any _ _ _ z0 _ (by exact s0_3) hn0).mono ?_;rintro e w4 ⟨A_4,l_4,c_4,rfl,os_4,hb_4⟩;have b_4:=below_then b_3 hb_4;clear b_3;have a0_4:=a0_3.after hb_4;clear a0_3;have bx0_4:=bx0_3.after hb_4;clear bx0_3;have s0_4:=s0_3.after hb_4;clear s0_3;clear cbx0_3;have cbx0_4:=bx0_4.1;have hz_4:=hb_4.size;clear hb_4;generalize hLL:fndL z0 n0=LL at *
 have HLL:=Lib.hid hLL;clear hLL;have hk:LL.length≤1048576:=by have h:=fndL_len z0 n0; rw [HLL.out] at h; omega
 obtain rfl:=os_4.len;have iw_4:=os_4.intsAt;have d_4:Below w4.heap.size w4 w4:=Below.refl _ _;clear s0_4;have bD:=b_4;clear b_4;have aD0:=a0_4;have iD:=iw_4;have bxD0:=bx0_4;go_wp2_with fail
 refine (toArch_any A0 n0 c0 z0 _ a0_4 hn0).mono ?_;rintro e w5 ⟨g5,rfl,hg5,r_5,hb_5⟩;have a0_5:=a0_4.after hb_5;clear a0_4;have bx0_5:=bx0_4.after hb_5;clear bx0_4;have iw_5:=iw_4.after hb_5;clear iw_4;have d_5:=below_then d_4 hb_5;clear d_4;clear cbx0_4;have cbx0_5:=bx0_5.1;have hz_5:=hb_5.size;clear hb_5;have s0_5:=recsAt_row r_5 a0_.1 (fun k _=>rfl);have hgl0:g5<w5.heap.size:=r_5.lt;have m0_5:=RowI.of_row (lo:=w4.heap.size) (hi:=w5.heap.size) r_5 (intRow_ints _) hg5 (Nat.le_refl _);clear r_5;have hb_6:Below w5.heap.size w5 (w5.alloc (.cells #[.slice (some ⟨g5,0,none⟩) n0 n0] 26)):=(Below.refl _ _).alloc (Nat.le_refl _) _;have a0_6:=a0_5.after hb_6;clear a0_5;have bx0_6:=bx0_5.after hb_6;clear bx0_5;have iw_6:=iw_5.after hb_6;clear iw_5;have d_6:=below_then d_5 hb_6;clear d_5;have s0_6:=s0_5.after hb_6;clear s0_5;have m0_6:=m0_5.after hb_6;clear m0_5;clear cbx0_5;have cbx0_6:=bx0_6.1;have hz_6:=hb_6.size;clear hb_6;have by0_6:Box (w5.alloc (.cells #[.slice (some ⟨g5,0,none⟩) n0 n0] 26)) w5.heap.size (.slice (some ⟨g5,0,none⟩) n0 n0):=Box.new _ _ _;have cby0_6:=by0_6.1;go_wp2_with fail
 refine (iFind_any _ _ _ z0 _ (by exact s0_6) hn0).mono ?_;rintro e w7 ⟨A_7,l_7,c_7,rfl,o_7,hb_7⟩;have a0_7:=a0_6.after hb_7;clear a0_6;have bx0_7:=bx0_6.after hb_7;clear bx0_6;have iw_7:=iw_6.after hb_7;clear iw_6;have d_7:=below_then d_6 hb_7;clear d_6;have s0_7:=s0_6.after hb_7;clear s0_6;have m0_7:=m0_6.after hb_7;clear m0_6;have by0_7:=by0_6.after hb_7;clear by0_6;clear cbx0_6;have cbx0_7:=bx0_7.1;clear cby0_6;have cby0_7:=by0_7.1;have hz_7:=hb_7.size;clear hb_7;rw [HLL.out] at o_7;obtain rfl:=o_7.len;go_wp2_with fail
 refine (eqIntS_any _ _ _ _ _ _ LL LL _ o_7.intsAt iw_7 hk hk).mono ?_;rintro e w8 ⟨e8,hb_8⟩;rw [eqL_refl] at e8;subst e8;have a0_8:=a0_7.after hb_8;clear a0_7;have bx0_8:=bx0_7.after hb_8;clear bx0_7;have iw_8:=iw_7.after hb_8;clear iw_7;have d_8:=below_then d_7 hb_8;clear d_7;have s0_8:=s0_7.after hb_8;clear s0_7;have m0_8:=m0_7.after hb_8;clear m0_7;have by0_8:=by0_7.after hb_8;clear by0_7;have o_8:=o_7.below hb_8;clear o_7;clear cbx0_7;have cbx0_8:=bx0_8.1;clear cby0_7;have cby0_8:=by0_8.1;have hz_8:=hb_8.size;clear hb_8;go_wp2_with fail
 go_region_held3 (fun w'=>w'.cell? ⟨w5.heap.size,0,none⟩=some (.slice (some ⟨g5,0,none⟩) n0 n0)∧w'.cell? ⟨w.heap.size,0,none⟩=some (.slice A0 n0 c0)) (first | exact ⟨cby0_8,cbx0_8⟩ | exact ⟨dy0_1,dx0_1⟩ | exact ⟨dy0_2,dx0_2⟩) ((first | (go_at_call 28; refine (toArch_any A0 n0 c0 z0 _ (by exact a0_8) hn0).mono ?_; rintro e w9 ⟨g9,rfl,_,r_9,hbx9⟩; have hb_9:=below_undrew hbx9; have e0_1:=s0_8.after hb_9; have v0_1:=recsAt_row r_9 a0_.1 (fun k _=>rfl); have dy0_1:=(by0_8.after hb_9).1; have dx0_1:=(bx0_8.after hb_9).1) | (go_at_call 30; refine (eqArch_same _ _ _ _ _ z0 _ (by exact e0_1) (by exact v0_1) hn0).mono ?_; rintro e w10 ⟨rfl,hb_10⟩; have dy0_2:=((by0_8.after hb_9).after hb_10).1; have dx0_2:=((bx0_8.after hb_9).after hb_10).1)));clear dy0_1 dx0_1 dy0_2 dx0_2 e0_1 v0_1 hbx9;have a0_9:=a0_8.after hb_9;clear a0_8;have bx0_9:=bx0_8.after hb_9;clear bx0_8;have iw_9:=iw_8.after hb_9;clear iw_8;have d_9:=below_then d_8 hb_9;clear d_8;have s0_9:=s0_8.after hb_9;clear s0_8;have m0_9:=m0_8.after hb_9;clear m0_8;have by0_9:=by0_8.after hb_9;clear by0_8;have o_9:=o_8.below hb_9;clear o_8;clear cbx0_8;have cbx0_9:=bx0_9.1;clear cby0_8;have cby0_9:=by0_9.1;have hz_9:=hb_9.size;have a0_10:=a0_9.after hb_10;clear a0_9;have bx0_10:=bx0_9.after hb_10;clear bx0_9;have iw_10:=iw_9.after hb_10;clear iw_9;have d_10:=below_then d_9 hb_10;clear d_9;have s0_10:=s0_9.after hb_10;clear s0_9;have m0_10:=m0_9.after hb_10;clear m0_9;have by0_10:=by0_9.after hb_10;clear by0_9;have o_10:=o_9.below hb_10;clear o_9;clear cbx0_9;have cbx0_10:=bx0_10.1;clear cby0_9;have cby0_10:=by0_10.1;have hz_10:=hb_10.size;clear hb_9 hb_10;clear s0_10;clear a0_10;clear iw_10;clear bx0_10;clear cbx0_10;go_wp2_with fail
 refine (markArch_row w4.heap.size w5.heap.size g5 n0 _ _ _ m0_10 hn0 (by omega) (by omega)).mono ?_;rintro e w11 ⟨rfl,wt_11⟩;clear m0_10;have d_11:=d_10.trans ((wt_11.below (by omega)).mono (by omega));clear d_10;have o_11:=wt_11.own o_10 (by omega);clear o_10;clear cby0_10;clear by0_10;have hy_11:=wt_11.size;clear wt_11;have hkk:¬ (1+((n0*4:Nat):Int))<0:=by omega
 have a0_11:=(aD0.below d_11).mono d_11.size;have iw_11:=(iD.below d_11).mono d_11.size;have bx0_11:=bxD0.after d_11;have cbx0_11:=bx0_11.1;go_wp2_with fail
 refine (eqIntS_any _ _ _ _ _ _ LL LL _ o_11.intsAt iw_11 hk hk).mono ?_;rintro e w12 ⟨e12,hb_12⟩;rw [eqL_refl] at e12;subst e12;have d_12:=below_then d_11 hb_12;clear d_11;have o_12:=o_11.below hb_12;clear o_11;have iw_12:=iw_11.after hb_12;clear iw_11;have a0_12:=a0_11.after hb_12;clear a0_11;have bx0_12:=bx0_11.after hb_12;clear bx0_11;clear cbx0_11;have cbx0_12:=bx0_12.1;have hz_12:=hb_12.size;clear hb_12;go_wp2_with fail
 refine (markIntS_any _ _ _ LL 1 (w5.alloc (.cells #[.slice (some ⟨g5,0,none⟩) n0 n0] 26)).heap.size _ o_12 hk (by omega) (by omega)).mono ?_;rintro e w13 ⟨rfl,o_13,hb_13,hs_13⟩;clear hs_13;have d_13:=d_12.trans (hb_13.mono (by omega));clear d_12 o_12;clear a0_12;clear iw_12;clear bx0_12;have a0_13:=(aD0.below d_13).mono d_13.size;have iw_13:=(iD.below d_13).mono d_13.size;have bx0_13:=bxD0.after d_13;clear cbx0_12;have cbx0_13:=bx0_13.1;clear hb_13;go_wp2_with fail
 refine (heldIntS_any _ _ _ 1 _ o_13.intsAt hk (by omega) (by omega)).mono ?_;rintro e w14 ⟨rfl,rfl⟩;have hnn:¬ (1+(LL.length:Int))<0:=by omega
 have hw_14:Below w13.heap.size w13 w13:=Below.refl _ _;go_wp2_with fail
 refine (toArch_any A0 n0 c0 z0 _ a0_13 hn0).mono ?_;rintro e w14 ⟨g14,rfl,hg14,r_14,hb_14⟩;have d_14:=below_then d_13 hb_14;clear d_13;have o_14:=o_13.below hb_14;clear o_13;have iw_14:=iw_13.after hb_14;clear iw_13;have a0_14:=a0_13.after hb_14;clear a0_13;have bx0_14:=bx0_13.after hb_14;clear bx0_13;clear cbx0_13;have cbx0_14:=bx0_14.1;have hz_14:=hb_14.size;clear hb_14;have s0_14:=recsAt_row r_14 a0_.1 (fun k _=>rfl);clear r_14;go_wp2_with fail
 refine (iFind_any _ _ _ z0 _ (by exact s0_14) hn0).mono ?_;rintro e w15 ⟨A_15,l_15,c_15,rfl,oo_15,hb_15⟩;have d_15:=below_then d_14 hb_15;clear d_14;have o_15:=o_14.below hb_15;clear o_14;have iw_15:=iw_14.after hb_15;clear iw_14;have a0_15:=a0_14.after hb_15;clear a0_14;have bx0_15:=bx0_14.after hb_15;clear bx0_14;have s0_15:=s0_14.after hb_15;clear s0_14;clear cbx0_14;have cbx0_15:=bx0_15.1;have hz_15:=hb_15.size;clear hb_15;rw [HLL.out] at oo_15;obtain rfl:=oo_15.len;go_wp2_with fail
 refine (eqIntS_any _ _ _ _ _ _ LL LL _ oo_15.intsAt iw_15 hk hk).mono ?_;rintro e w16 ⟨e16,hb_16⟩;rw [eqL_refl] at e16;subst e16;have d_16:=below_then d_15 hb_16;clear d_15;have o_16:=o_15.below hb_16;clear o_15;have iw_16:=iw_15.after hb_16;clear iw_15;have a0_16:=a0_15.after hb_16;clear a0_15;have bx0_16:=bx0_15.after hb_16;clear bx0_15;have s0_16:=s0_15.after hb_16;clear s0_15;clear cbx0_15;have cbx0_16:=bx0_16.1;have hz_16:=hb_16.size;clear hb_16;go_wp2_with fail
 refine (heldIntS_any _ _ _ 1 _ o_16.intsAt hk (by omega) (by omega)).mono ?_;rintro e w17 ⟨rfl,rfl⟩;go_wp2;go_ret;exact ⟨rfl,below_then bD d_16⟩
end X
end Go.Proofs.YtbpnbhemdbgmjaaGreat
