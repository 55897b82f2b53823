/-
  Texts that the law stands on, part 9.
-/
import Derived.Test.YtpblihmhpalkfaaGreatSettlementsP1
import Derived.Test.YtpblihmhpalkfaaGreatSettlementsP2
import Derived.Test.YtpblihmhpalkfaaGreatSettlementsP3
import Derived.Test.YtpblihmhpalkfaaGreatSettlementsP7
import Derived.Test.YtpblihmhpalkfaaGreatSettlementsP8
import Derived.Test.YtpblihmhpalkfaaGreatJ17
import Derived.Test.YtpblihmhpalkfaaGreatJ20
import Derived.Deep.CutRange
set_option maxRecDepth 100000
set_option linter.unusedVariables false
set_option linter.unusedSimpArgs false
namespace Go.Proofs.YtpblihmhpalkfaaGreat
namespace X
open Go.RowKit
structure SeL (w wr:World) (X b m d:Nat) (Z:List Int) (A':Option Addr) (q:Nat) (Ld:List Int):Prop where
 box:Box wr X (.slice (some ⟨b,0,none⟩) m d)
 recs:RecsAt wr wr.heap.size 4 (some ⟨b,0,none⟩) m Z
 lds:RecsAt wr wr.heap.size 3 A' q Ld
 below:Below w.heap.size w wr
theorem SeL.after {w wr w':World} {X b m d:Nat} {Z:List Int} {A':Option Addr} {q:Nat} {Ld:List Int} (h:SeL w wr X b m d Z A' q Ld) (hb:Below wr.heap.size wr w'):SeL w w' X b m d Z A' q Ld :=
 ⟨h.box.after hb,h.recs.after hb,h.lds.after hb,below_then h.below hb⟩
def fs3 (i:Nat):Bool:=decide (i=1)
theorem hng3 (w:World) (T:TypeId):HngF (w.alloc (.cells #[.int .i64 0,.bool false,.int .i64 1,.bool true,.int .i64 2,.bool false] T)) (some ⟨w.heap.size,0,none⟩) 3 [0,1,2] fs3:=by
 have h:=World.rowIs_alloc w #[.int .i64 0,.bool false,.int .i64 1,.bool true,.int .i64 2,.bool false] T (fun i=>match i with | 0 => .int .i64 0 | 1 => .bool false | 2 => .int .i64 1 | 3 => .bool true | 4 => .int .i64 2 | _ => .bool false) (fun i hi=>by simp at hi; match i,hi with | 0,_=>rfl | 1,_=>rfl | 2,_=>rfl | 3,_=>rfl | 4,_=>rfl | 5,_=>rfl)
 refine fun _=>⟨_,0,rfl,by simp,fun i hi => ?_⟩
 match i,hi with
 | 0,_=>exact ⟨World.rowIs.cell h (i:=0) (by simp),World.rowIs.cell h (i:=1) (by simp)⟩
 | 1,_=>exact ⟨World.rowIs.cell h (i:=2) (by simp),World.rowIs.cell h (i:=3) (by simp)⟩
 | 2,_=>exact ⟨World.rowIs.cell h (i:=4) (by simp),World.rowIs.cell h (i:=5) (by simp)⟩
theorem mech3:(decide (3≤dcnt [0,1,2] 3) && decide (2≤trnN fs3 3))=true:=by
 rw [dcnt_012];decide
theorem in3:∀ i,i<3→0≤nth [0,1,2] i∧nth [0,1,2] i≤1048576:=by
 intro i hi;match i,hi with
 | 0,_=>decide
 | 1,_=>decide
 | 2,_=>decide
namespace fnSettlements
set_option maxRecDepth 100000 in
set_option maxHeartbeats 25600000 in
theorem walk (A:Option Addr) (n c:Nat) (zs:List Int) (w:World) (h:BytesAt w w.heap.size A n zs) :
  Calls Tryzx.prog 5 #[.slice A n c] w fun e w'=>e = .returned (.bool true)∧Below w.heap.size w w':=by
 by_cases hbig:(1048576:Int)<(n:Int)
 ·have HB:=Lib.hid (show decide ((1048576:Int)<(n:Int))=true by simp [hbig])
  clear h;go_enter Tryzx.func5,Tryz.ntmps5;go_wp2_with fail
  refine (big_any _ _ _ _).mono ?_;rw [HB.out];rintro e w1 ⟨rfl,rfl⟩;go_wp2;go_ret;exact ⟨rfl,Below.refl _ _⟩
 ·have hn:n≤1048576:=by omega
  have HB:=Lib.hid (show decide ((1048576:Int)<(n:Int))=false by simp [hbig]);have HBY:=Lib.hid h;clear hbig h;go_enter Tryzx.func5,Tryz.ntmps5;go_wp2_with fail
  refine (big_any _ _ _ _).mono ?_;rw [HB.out];rintro e w1 ⟨rfl,rfl⟩;go_wp2_with fail
  refine (drawStanding_any A n c zs _ HBY.out hn).mono ?_;rintro e w2 ⟨b,m,d,Z,A',q,cp,Ld,rfl,hm8,hq,hb,hl,ho,hr,hx,hb2⟩;have ba:Below w2.heap.size w2 (w2.alloc (.cells #[.slice (some ⟨b,0,none⟩) m d] 26)):=(Below.refl _ _).alloc (Nat.le_refl _) _;have HC3:Hid (SeL w (w2.alloc (.cells #[.slice (some ⟨b,0,none⟩) m d] 26)) w2.heap.size b m d Z A' q Ld):=Lib.hid ⟨Box.new _ _ _,(rowRecs hr hl).after ba,hx.recs.after ba,below_then hb2 ba⟩;have cx3:=HC3.out.box.1;obtain ⟨X,hX⟩:∃ X,w2.heap.size=X:=⟨_,rfl⟩;rw [hX] at HC3 cx3;clear hr hl ho hb2 ba hx hb HBY HB;obtain ⟨x0,x1,x2,x3,b1,y0,y1,y2,y3,b2,hsx,hsy,hsf⟩:=set_facts Z m Ld q;have HSX:=Lib.hid hsx;have HSY:=Lib.hid hsy;have HSF:=Lib.hid hsf;have HS3:=Lib.hid (setV_3 (k:=3) (by omega) (by omega) Z m Ld q);clear hsx hsy hsf;go_wp2_with fail
  refine (iSettle_any _ _ _ Z _ _ _ Ld 1 _ (by exact HC3.out.recs) (by omega) (by exact HC3.out.lds) (by omega)).mono ?_;rintro e w4 ⟨rfl,hb4⟩;rw [HSX.out];have bx:=(Below.refl w4.heap.size w4).alloc (Nat.le_refl _) (.cells #[.int .i64 x0,.int .i64 x1,.int .i64 x2,.int .i64 x3] 31);have HC4:=Lib.hid ((HC3.out.after hb4).after bx);have HX4:=Lib.hid (Box4.new w4 x0 x1 x2 x3 31);have cx4:=HC4.out.box.1;obtain ⟨Xx,hXx⟩:∃ Xx,w4.heap.size=Xx:=⟨_,rfl⟩;rw [hXx] at HX4;clear hb4 bx HC3 cx3;go_wp2_with fail
  refine (iSettle_any _ _ _ Z _ _ _ Ld 2 _ (by exact HC4.out.recs) (by omega) (by exact HC4.out.lds) (by omega)).mono ?_;rintro e w5 ⟨rfl,hb5⟩;rw [HSY.out];have bx:=(Below.refl w5.heap.size w5).alloc (Nat.le_refl _) (.cells #[.int .i64 y0,.int .i64 y1,.int .i64 y2,.int .i64 y3] 31);have HC5:=Lib.hid ((HC4.out.after hb5).after bx);have HX5:=Lib.hid ((HX4.out.after hb5).after bx);have HY5:=Lib.hid (Box4.new w5 y0 y1 y2 y3 31);have cx5:=HC5.out.box.1;obtain ⟨Xy,hXy⟩:∃ Xy,w5.heap.size=Xy:=⟨_,rfl⟩;rw [hXy] at HY5;clear hb5 bx HC4 HX4 cx4;go_wp2_with fail
  refine (iSettle_any _ _ _ Z _ _ _ Ld 3 _ (by exact HC5.out.recs) (by omega) (by exact HC5.out.lds) (by omega)).mono ?_;rintro e w6 ⟨rfl,hb6⟩;rw [HS3.out];simp only [thrV];have bx:=(Below.refl w6.heap.size w6).alloc (Nat.le_refl _) (.cells #[.int .i64 0,.int .i64 0,.int .i64 0,.int .i64 0] 31);have HC6:=Lib.hid ((HC5.out.after hb6).after bx);have HX6:=Lib.hid ((HX5.out.after hb6).after bx);have HY6:=Lib.hid ((HY5.out.after hb6).after bx);have cx6:=HC6.out.box.1;obtain ⟨t0,t1,t2,t3⟩:=HX6.out.1;clear hb6 bx HC5 HX5 HY5 cx5;go_wp2_with fail
  refine (iHng_any _ _ _ Z _ _ _ Ld _ _ _ _ _ (by exact HC6.out.recs) (by omega) (by exact HC6.out.lds) (by omega)).mono ?_;rintro e w7 ⟨A7,c7,rfl,h7,hb7⟩;have HC7:=Lib.hid (HC6.out.after hb7);have HX7:=Lib.hid (HX6.out.after hb7);have HY7:=Lib.hid (HY6.out.after hb7);obtain ⟨fs,hfs⟩:=hngF_of h7;have HG7:=Lib.hid hfs;have hgi:=hgJ_in Z m Ld q x0 x1 x2 x3;have HJ:=Lib.hid hgi.2;have hgl:=hgi.1;have HAS:=Lib.hid (hgJ_asc Z m Ld q x0 x1 x2 x3);have HTH:=Lib.hid HSF.out.three;have HONE:=Lib.hid HSF.out.one;have HCMP:=Lib.hid HSF.out.cmp;have hmv:=HSF.out.mov;unfold movJ at hmv;have HMV:=Lib.hid hmv;have HDL:=Lib.hid (dcnt_le (hjs (hgJ Z m Ld q x0 x1 x2 x3)) (hgJ Z m Ld q x0 x1 x2 x3).length);clear hb7 h7 hfs hgi hmv HSX HSY HSF HS3 HC6 HX6 HY6 cx6 t0 t1 t2 t3;have HMO:Hid (∃ ob,movB Z m Ld q=ob∧(ob=true→b1=true∧3≤(hgJ Z m Ld q x0 x1 x2 x3).length)):=Lib.hid ⟨_,rfl,fun h=>by
   rw [HMV.out,Bool.and_eq_true,decide_eq_true_eq] at h;have:=HDL.out;exact ⟨h.1,by omega⟩⟩
  generalize hgJ Z m Ld q x0 x1 x2 x3=G at *
  generalize hjs G=JL at *
  generalize G.length=GL at *
  clear G;have cx:=HC7.out.box.1;obtain ⟨t0,t1,t2,t3⟩:=HX7.out.1;obtain ⟨u0,u1,u2,u3⟩:=HY7.out.1;go_upto_region 8 with fail
  go_cut [72] from 43 to 72 (fun v72 wx=>v72 = .bool false∧Hid (Below w7.heap.size w7 wx))
  case first =>
   have hcase:(b1=true∧x0 > 0) ∨ (b1=true∧¬ x0 > 0) ∨ b1=false:=by
    cases b1
    ·exact .inr (.inr rfl)
    ·by_cases hx0:x0 > 0
     ·exact .inl ⟨rfl,hx0⟩
     ·exact .inr (.inl ⟨rfl,hx0⟩)
   rcases hcase with ⟨rfl,hx0⟩ | ⟨rfl,hx0⟩ | rfl;all_goals
    (try have hl3:¬ ((GL:Nat):Int)<3:=by have:=HTH.out rfl hx0; omega)
    go_wp2_with fail
    refine (sStd_any _ _ _ Z _ _ _ Ld _ (by exact HC7.out.recs) (by omega) (by exact HC7.out.lds) (by omega)).mono ?_;rw [HONE.out];rintro e w8 ⟨rfl,hb8⟩;have HB8:=Lib.hid hb8;have HX8:=Lib.hid (HX7.out.after hb8);have HY8:=Lib.hid (HY7.out.after hb8);obtain ⟨t0',t1',t2',t3'⟩:=HX8.out.1;obtain ⟨u0',u1',u2',u3'⟩:=HY8.out.1;clear hb8 cx t0 t1 t2 t3 u0 u1 u2 u3 HC7 HX7 HY7 HG7;cases b2
    ·go_wp2_with fail
     go_meet
     case rel=>exact ⟨by first | rfl | (congr 1; simp; omega),HB8⟩
    ·have hcmp:=HCMP.out rfl
     obtain ⟨cv,hcv⟩:∃ cv,cmpT x0 x1 x2 x3 y0 y1 y2 y3=cv:=⟨_,rfl⟩;rw [hcv] at hcmp;have HCV:=Lib.hid hcv;clear hcv;go_wp2_with fail
     refine (sCmpT_any _ _ _ _ _ _ _ _ _).mono ?_;rw [HCV.out];rintro e w9 ⟨rfl,hb9⟩;have HB9:=Lib.hid (below_then HB8.out hb9);obtain ⟨t0'',t1'',t2'',t3''⟩:=(HX8.out.after hb9).1;clear hb9 HB8 t0' t1' t2' t3' u0' u1' u2' u3';go_wp2_with fail
     go_meet
     case rel=>exact ⟨by first | rfl | (congr 1; simp; omega),HB9⟩
  case rest =>
   obtain ⟨rfl,HB9⟩:=hcut;have HC9:=Lib.hid (HC7.out.after HB9.out);have HG9:=Lib.hid (HG7.out.below HB9.out);have cx9:=HC9.out.box.1;clear cx t0 t1 t2 t3 u0 u1 u2 u3 HC7 HX7 HY7 HG7 HB9;go_wp2_with fail
   refine (iTurns_any _ _ _ JL fs _ (by exact HG9.out) hgl).mono ?_;rintro e wa ⟨rfl,hba⟩;have HCa:=Lib.hid (HC9.out.after hba);have HGa:=Lib.hid (HG9.out.below hba);clear hba HC9 HG9 cx9;obtain ⟨TN,hTN⟩:∃ TN,trnN fs GL=TN:=⟨_,rfl⟩;have HTN:=Lib.hid hTN;have hTL:GL=0 ∨ TN<GL:=by
    rcases Nat.eq_zero_or_pos GL with e | e
    ·exact .inl e
    ·obtain ⟨g,rfl⟩:∃ g,GL=g+1:=⟨GL - 1,by omega⟩
     have:=trnN_le fs g;omega
   rw [hTN];clear hTN;go_wp2;go_loopw [13] (fun v13 wr=>∃ j:Nat,v13 = .int .i64 ((j:Int)+1)∧Hid (Below wa.heap.size wa wr)) (fun v13 _=>GL - (intOf v13).toNat)
   case atStart=>exact ⟨0,rfl,Lib.hid (Below.refl _ _)⟩
   case round =>
    obtain ⟨j,rfl,HB⟩:=hrel;by_cases hlt:j+1<GL
    ·have i1:IntKind.i64.wrap ((j:Int)+1+1)=(j:Int)+1+1:=IntWalk.i64_in _ (by omega)
     have i2:IntKind.i64.wrap ((j:Int)+1 - 1)=(j:Int):=by rw [IntWalk.i64_in _ (by omega)]; omega
     have ik:(j:Int)+1<(GL:Int):=by omega
     have k0:(0:Int)≤(j:Int)+1:=by omega
     have j0:(0:Int)≤(j:Int):=by omega
     have j1:(j:Int)<(GL:Int):=by omega
     have tn:((j:Int)+1).toNat=j+1:=by omega
     obtain ⟨gb,go,rfl,hgb,hgc⟩:=HGa.out (by omega);have c1:=(HB.out.cell (p:=⟨gb,go+(j+1)*2,none⟩) (by exact hgb)).trans (hgc (j+1) (by omega)).1;have c0:=(HB.out.cell (p:=⟨gb,go+j*2,none⟩) (by exact hgb)).trans (hgc j (by omega)).1;have hns:¬ nth JL (j+1)<nth JL j:=by have:=HAS.out j hlt; omega
     generalize nth JL (j+1)=p1 at *
     generalize nth JL j=p0 at *
     clear hgc;go_wp2;go_region
     go_wp2;go_roundw
     case rel=>exact ⟨j+1,by go_num,Lib.hid (below_dr HB.out)⟩
     case measure=>simp [intOf]; omega
    ·have ik:¬ (j:Int)+1<(GL:Int):=by omega
     have HCr:=Lib.hid (HCa.out.after HB.out);have HGr:=Lib.hid (HGa.out.below HB.out);have cx:=HCr.out.box.1;have tn0:((TN:Nat):Int) ≥ 0:=by omega
     obtain ⟨mb,hmb,hmb2⟩:∃ mb,(decide (3≤dcnt JL GL) && decide (2≤trnN fs GL))=mb∧(mb=true→3≤GL∧2≤TN):=⟨_,rfl,fun h=>by
      rw [Bool.and_eq_true,decide_eq_true_eq,decide_eq_true_eq,HTN.out] at h;have:=HDL.out
      omega⟩
     obtain ⟨ob,hob,hob2⟩:=HMO.out;have HMb:=Lib.hid hmb;have HOb:=Lib.hid hob;clear hmb hob HCa HGa HB;have hq5:(GL=0∧mb=false∧ob=false) ∨ (¬ GL=0∧mb=false∧ob=false) ∨ (3≤GL∧2≤TN∧mb=true∧ob=false) ∨ (3≤GL∧mb=false∧ob=true∧b1=true) ∨ (3≤GL∧2≤TN∧mb=true∧ob=true∧b1=true):=by
      cases mb
      ·cases ob
       ·by_cases h0:GL=0
        ·exact .inl ⟨h0,rfl,rfl⟩
        ·exact .inr (.inl ⟨h0,rfl,rfl⟩)
       ·exact .inr (.inr (.inr (.inl ⟨(hob2 rfl).2,rfl,rfl,(hob2 rfl).1⟩)))
      ·cases ob
       ·exact .inr (.inr (.inl ⟨(hmb2 rfl).1,(hmb2 rfl).2,rfl,rfl⟩))
       ·exact .inr (.inr (.inr (.inr ⟨(hmb2 rfl).1,(hmb2 rfl).2,rfl,rfl,(hob2 rfl).1⟩)))
     clear hmb2 hob2;have HTL:=Lib.hid hTL;clear hTL;rcases hq5 with ⟨g0,rfl,rfl⟩ | ⟨g0,rfl,rfl⟩ | ⟨g0,n0,rfl,rfl⟩ | ⟨g0,rfl,rfl,rfl⟩ | ⟨g0,n0,rfl,rfl,rfl⟩;all_goals
      (try have z0:(((GL:Nat):Int) == 0)=true:=by simp [g0])
      (try have z0:(((GL:Nat):Int) == 0)=false:=by simp; omega)
      (try have nl:((TN:Nat):Int)<((GL:Nat):Int):=by have:=HTL.out; omega)
      (try have g3:((GL:Nat):Int) ≥ 3:=by omega)
      (try have n2:((TN:Nat):Int) ≥ 2:=by omega)
      clear g0
      (try clear n0)
      go_wp2_with fail
      refine (iMech_any _ _ _ JL fs _ (by exact HGr.out) hgl HJ.out).mono ?_;rw [HMb.out];rintro e wb ⟨rfl,hbb⟩;have HCb:=Lib.hid (HCr.out.after hbb);have cxb:=HCb.out.box.1;clear hbb;go_wp2_with fail
      refine (iMoves_any _ _ _ Z _ _ _ Ld _ (by exact HCb.out.recs) (by omega) (by exact HCb.out.lds) (by omega)).mono ?_;rw [HOb.out];rintro e wc ⟨rfl,hbc⟩;have HCc:=Lib.hid (HCb.out.after hbc);clear hbc cxb;have HBc:=Lib.hid ((Below.refl wc.heap.size wc).alloc (Nat.le_refl _) (.cells #[.int .i64 0,.bool false,.int .i64 1,.bool true,.int .i64 2,.bool false] 60));go_wp2_with fail
      refine (iMech_any _ _ _ [0,1,2] fs3 _ (by exact hng3 _ _) (by omega) in3).mono ?_;rw [mech3];rintro e wd ⟨rfl,hbd⟩;have HCd:=Lib.hid (below_then HCc.out.below (below_then HBc.out hbd));clear hbd;go_wp2;go_ret;exact ⟨rfl,HCd.out⟩
end fnSettlements
end X
end Go.Proofs.YtpblihmhpalkfaaGreat
