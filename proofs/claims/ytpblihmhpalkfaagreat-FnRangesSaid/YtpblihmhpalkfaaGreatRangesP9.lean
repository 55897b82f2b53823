/-
  Texts that the law stands on, part 9.
-/
import Derived.Test.YtpblihmhpalkfaaGreatRangesP1
import Derived.Test.YtpblihmhpalkfaaGreatRangesP3
import Derived.Test.YtpblihmhpalkfaaGreatRangesP7
import Derived.Test.YtpblihmhpalkfaaGreatRangesP8
import Derived.Test.YtpblihmhpalkfaaGreatJ20
import Derived.Deep.CutRange
set_option maxRecDepth 100000
set_option linter.unusedVariables false
set_option linter.unusedSimpArgs false
namespace Go.Proofs.YtpblihmhpalkfaaGreat
namespace X
open Go.RowKit
structure RgL (w wr:World) (X b m d:Nat) (Z:List Int) (A':Option Addr) (q:Nat) (Ld:List Int):Prop where
 box:Box wr X (.slice (some ⟨b,0,none⟩) m d)
 recs:RecsAt wr wr.heap.size 4 (some ⟨b,0,none⟩) m Z
 lds:RecsAt wr wr.heap.size 3 A' q Ld
 below:Below w.heap.size w wr
theorem RgL.after {w wr w':World} {X b m d:Nat} {Z:List Int} {A':Option Addr} {q:Nat} {Ld:List Int} (h:RgL w wr X b m d Z A' q Ld) (hb:Below wr.heap.size wr w'):RgL w w' X b m d Z A' q Ld :=
 ⟨h.box.after hb,h.recs.after hb,h.lds.after hb,below_then h.below hb⟩
structure RgE (wr:World) (P Q:Nat) (p0 p1 p2 p3 q0 q1 q2 q3:Int):Prop where
 p:Box4 wr P p0 p1 p2 p3
 q:Box4 wr Q q0 q1 q2 q3
theorem RgE.after {wr w':World} {P Q:Nat} {p0 p1 p2 p3 q0 q1 q2 q3:Int} (h:RgE wr P Q p0 p1 p2 p3 q0 q1 q2 q3) (hb:Below wr.heap.size wr w'):RgE w' P Q p0 p1 p2 p3 q0 q1 q2 q3:=⟨h.p.after hb,h.q.after hb⟩
def Row4 (wr:World) (b o:Nat) (H V M D:Int):Prop:=wr.cell? ⟨b,o,none⟩=some (.int .i64 H)∧wr.cell? ⟨b,o+1,none⟩=some (.int .i64 V)∧wr.cell? ⟨b,o+2,none⟩=some (.int .i64 M)∧wr.cell? ⟨b,o+3,none⟩=some (.int .i64 D)
theorem Row4.after {wr w':World} {b o:Nat} {H V M D:Int} (h:Row4 wr b o H V M D) (hl:b<wr.heap.size) (hb:Below wr.heap.size wr w'):Row4 w' b o H V M D :=
 ⟨(hb.cell (p:=⟨b,_,none⟩) hl).trans h.1,(hb.cell (p:=⟨b,_,none⟩) hl).trans h.2.1,(hb.cell (p:=⟨b,_,none⟩) hl).trans h.2.2.1,(hb.cell (p:=⟨b,_,none⟩) hl).trans h.2.2.2⟩
theorem flat_at (w:World) (T:TypeId):RecsAt (w.alloc (.cells #[.int .i64 0,.int .i64 0,.int .i64 0,.int .i64 3,.int .i64 4,.int .i64 0,.int .i64 4,.int .i64 3,.int .i64 8,.int .i64 0,.int .i64 8,.int .i64 3] T)) (w.alloc (.cells #[.int .i64 0,.int .i64 0,.int .i64 0,.int .i64 3,.int .i64 4,.int .i64 0,.int .i64 4,.int .i64 3,.int .i64 8,.int .i64 0,.int .i64 8,.int .i64 3] T)).heap.size 4 (some ⟨w.heap.size,0,none⟩) 3 [0,0,0,3,4,0,4,3,8,0,8,3] :=
 recsAt_row (World.rowIs_alloc w #[.int .i64 0,.int .i64 0,.int .i64 0,.int .i64 3,.int .i64 4,.int .i64 0,.int .i64 4,.int .i64 3,.int .i64 8,.int .i64 0,.int .i64 8,.int .i64 3] T (ints [0,0,0,3,4,0,4,3,8,0,8,3]) (fun i hi=>by simp at hi; match i,hi with | 0,_=>rfl | 1,_=>rfl | 2,_=>rfl | 3,_=>rfl | 4,_=>rfl | 5,_=>rfl | 6,_=>rfl | 7,_=>rfl | 8,_=>rfl | 9,_=>rfl | 10,_=>rfl | 11,_=>rfl)) rfl (fun k _=>rfl)
theorem Row4.only {wr w':World} {b o g:Nat} {H V M D:Int} (h:Row4 wr b o H V M D) (hg:b ≠ g) (hb:Only g wr w'):Row4 w' b o H V M D :=
 ⟨(hb.cell (p:=⟨b,_,none⟩) hg).trans h.1,(hb.cell (p:=⟨b,_,none⟩) hg).trans h.2.1,(hb.cell (p:=⟨b,_,none⟩) hg).trans h.2.2.1,(hb.cell (p:=⟨b,_,none⟩) hg).trans h.2.2.2⟩
structure RdF (zs:List Int) (n:Nat) (ls:List Int) (q:Nat) (p0 p1 p2 p3 q0 q1 q2 q3:Int) (b2:Bool) (H V M D m0 m1 m2 m3:Int) (mb:Bool):Prop where
 lo:¬ cmpT p0 p1 p2 p3 H V M D > 0
 hi:b2=true→¬ cmpT q0 q1 q2 q3 H V M D<0
 st:mb=true→stB zs n ls q m0 m1 m2 m3=true
 lo2:mb=true→¬ cmpT p0 p1 p2 p3 m0 m1 m2 m3 > 0
 hi2:mb=true→b2=true→¬ cmpT q0 q1 q2 q3 m0 m1 m2 m3<0
theorem rd_names {zs:List Int} {n:Nat} {ls:List Int} {q:Nat} {p0 p1 p2 p3 q0 q1 q2 q3 x y:Int} {b1 b2 bb:Bool} {T:Nat} {TL:List Int} {wr:World} {tb tf k:Nat} (hF:RngF zs n ls q p0 p1 p2 p3 b1 q0 q1 q2 q3 b2 x y bb) (hT:thrN zs n ls q=T) (hL:thrL zs n ls q=TL) (hc:∀ i,i<T*4→wr.cell? ⟨tb,tf+i,none⟩=some (.int .i64 (nth TL i))) (hk:k<T) :
  ∃ H V M D H0 V0 M0 D0 m0 m1 m2 m3 mb,Row4 wr tb (tf+k*4) H V M D∧Row4 wr tb tf H0 V0 M0 D0∧mixV H V M D H0 V0 M0 D0 = .tuple #[.agg #[.int .i64 m0,.int .i64 m1,.int .i64 m2,.int .i64 m3],.bool mb]∧RdF zs n ls q p0 p1 p2 p3 q0 q1 q2 q3 b2 H V M D m0 m1 m2 m3 mb:=by
 have j1:=jtCells hc hk;have j0:=jtCells hc (show 0<T by omega);simp only [Nat.zero_mul,Nat.add_zero,Nat.zero_add] at j0;subst hT;subst hL;obtain ⟨m0,m1,m2,m3,mb,hm,_⟩:=mixV_ex (nth (thrL zs n ls q) (k*4)) (nth (thrL zs n ls q) (k*4+1)) (nth (thrL zs n ls q) (k*4+2)) (nth (thrL zs n ls q) (k*4+3)) (nth (thrL zs n ls q) 0) (nth (thrL zs n ls q) 1) (nth (thrL zs n ls q) 2) (nth (thrL zs n ls q) 3);have hmx:mb=true→_:=fun e=>hF.mix k hk m0 m1 m2 m3 (by rw [hm,e])
 exact ⟨_,_,_,_,_,_,_,_,m0,m1,m2,m3,mb,j1,j0,hm,⟨hF.lo k hk,fun hb=>hF.hi hb k hk,fun e=>(hmx e).1,fun e=>(hmx e).2.1,fun e hb=>(hmx e).2.2 hb⟩⟩
def flatW (w:World) (T U:TypeId):World:=(w.alloc (.cells #[.int .i64 0,.int .i64 0,.int .i64 0,.int .i64 3,.int .i64 4,.int .i64 0,.int .i64 4,.int .i64 3,.int .i64 8,.int .i64 0,.int .i64 8,.int .i64 3] T)).alloc (.cells #[.slice (some ⟨w.heap.size,0,none⟩) 3 3] U)
structure FlatF (w w':World):Prop where
 below:Below w.heap.size w w'
 recs:RecsAt w' w'.heap.size 4 (some ⟨w.heap.size,0,none⟩) 3 [0,0,0,3,4,0,4,3,8,0,8,3]
 box:Box w' (w.heap.size+1) (.slice (some ⟨w.heap.size,0,none⟩) 3 3)
theorem FlatF.after {w w' w2:World} (h:FlatF w w') (hb:Below w'.heap.size w' w2):FlatF w w2:=⟨below_then h.below hb,h.recs.after hb,h.box.after hb⟩
theorem flat_in (w:World) (T U:TypeId):FlatF w (flatW w T U):=by
 have hz:(w.alloc (.cells #[.int .i64 0,.int .i64 0,.int .i64 0,.int .i64 3,.int .i64 4,.int .i64 0,.int .i64 4,.int .i64 3,.int .i64 8,.int .i64 0,.int .i64 8,.int .i64 3] T)).heap.size=w.heap.size+1:=by simp
 have ba:=(Below.refl (w.alloc (.cells #[.int .i64 0,.int .i64 0,.int .i64 0,.int .i64 3,.int .i64 4,.int .i64 0,.int .i64 4,.int .i64 3,.int .i64 8,.int .i64 0,.int .i64 8,.int .i64 3] T)).heap.size (w.alloc (.cells #[.int .i64 0,.int .i64 0,.int .i64 0,.int .i64 3,.int .i64 4,.int .i64 0,.int .i64 4,.int .i64 3,.int .i64 8,.int .i64 0,.int .i64 8,.int .i64 3] T))).alloc (Nat.le_refl _) (.cells #[.slice (some ⟨w.heap.size,0,none⟩) 3 3] U);have hb:=Box.new (w.alloc (.cells #[.int .i64 0,.int .i64 0,.int .i64 0,.int .i64 3,.int .i64 4,.int .i64 0,.int .i64 4,.int .i64 3,.int .i64 8,.int .i64 0,.int .i64 8,.int .i64 3] T)) (.slice (some ⟨w.heap.size,0,none⟩) 3 3) U;rw [hz] at hb;exact ⟨below_then ((Below.refl _ _).alloc (Nat.le_refl _) _) ba,(flat_at w T).after ba,hb⟩
namespace fnRanges
set_option maxRecDepth 100000 in
set_option maxHeartbeats 25600000 in
theorem walk (A:Option Addr) (n c:Nat) (zs:List Int) (w:World) (h:BytesAt w w.heap.size A n zs) :
  Calls Tryzx.prog 3 #[.slice A n c] w fun e w'=>e = .returned (.bool true)∧Below w.heap.size w w':=by
 by_cases hbig:(1048576:Int)<(n:Int)
 ·have HB:=Lib.hid (show decide ((1048576:Int)<(n:Int))=true by simp [hbig])
  clear h;go_enter Tryzx.func3,Tryz.ntmps3;go_wp2_with fail
  refine (big_any _ _ _ _).mono ?_;rw [HB.out];rintro e w1 ⟨rfl,rfl⟩;go_wp2;go_ret;exact ⟨rfl,Below.refl _ _⟩
 ·have hn:n≤1048576:=by omega
  have HB:=Lib.hid (show decide ((1048576:Int)<(n:Int))=false by simp [hbig]);have HBY:=Lib.hid h;clear hbig h;go_enter Tryzx.func3,Tryz.ntmps3;go_wp2_with fail
  refine (big_any _ _ _ _).mono ?_;rw [HB.out];rintro e w1 ⟨rfl,rfl⟩;go_wp2_with fail
  refine (drawStanding_any A n c zs _ HBY.out hn).mono ?_;rintro e w2 ⟨b,m,d,Z,A',q,cp,Ld,rfl,hm8,hq,hb,hl,ho,hr,hx,hb2⟩;have ba:Below w2.heap.size w2 (w2.alloc (.cells #[.slice (some ⟨b,0,none⟩) m d] 26)):=(Below.refl _ _).alloc (Nat.le_refl _) _;have HC3:Hid (RgL w (w2.alloc (.cells #[.slice (some ⟨b,0,none⟩) m d] 26)) w2.heap.size b m d Z A' q Ld):=Lib.hid ⟨Box.new _ _ _,(rowRecs hr hl).after ba,hx.recs.after ba,below_then hb2 ba⟩;have cx3:=HC3.out.box.1;obtain ⟨X,hX⟩:∃ X,w2.heap.size=X:=⟨_,rfl⟩;rw [hX] at HC3 cx3;clear hr hl ho hb2 ba hx hb HBY HB;obtain ⟨p0,p1,p2,p3,b1,q0,q1,q2,q3,b2,x,y,bb,he1,he2,hsp,hf⟩:=rng_facts Z m Ld q;have HE1:=Lib.hid he1;have HE2:=Lib.hid he2;have HSP:=Lib.hid hsp;have HF:=Lib.hid hf;clear he1 he2 hsp hf;go_wp2_with fail
  refine (iLst_any _ _ _ Z _ _ _ Ld _ (by exact HC3.out.recs) (by omega) (by exact HC3.out.lds) (by omega)).mono ?_;rintro e w4 ⟨rfl,hb4⟩;rw [HE1.out];have bx:=(Below.refl w4.heap.size w4).alloc (Nat.le_refl _) (.cells #[.int .i64 p0,.int .i64 p1,.int .i64 p2,.int .i64 p3] 31);have HC4:=Lib.hid ((HC3.out.after hb4).after bx);have HX4:=Lib.hid (Box4.new w4 p0 p1 p2 p3 31);have cx4:=HC4.out.box.1;obtain ⟨Xp,hXp⟩:∃ Xp,w4.heap.size=Xp:=⟨_,rfl⟩;rw [hXp] at HX4;clear hb4 bx HC3 cx3;go_wp2_with fail
  refine (iGrt_any _ _ _ Z _ _ _ Ld _ (by exact HC4.out.recs) (by omega) (by exact HC4.out.lds) (by omega)).mono ?_;rintro e w5 ⟨rfl,hb5⟩;rw [HE2.out];have bx:=(Below.refl w5.heap.size w5).alloc (Nat.le_refl _) (.cells #[.int .i64 q0,.int .i64 q1,.int .i64 q2,.int .i64 q3] 31);have HC5:=Lib.hid ((HC4.out.after hb5).after bx);have HX5:Hid (RgE _ Xp w5.heap.size p0 p1 p2 p3 q0 q1 q2 q3):=Lib.hid ⟨(HX4.out.after hb5).after bx,Box4.new w5 q0 q1 q2 q3 31⟩;have cx5:=HC5.out.box.1;obtain ⟨Xq,hXq⟩:∃ Xq,w5.heap.size=Xq:=⟨_,rfl⟩;rw [hXq] at HX5;clear hb5 bx HC4 HX4 cx4;go_wp2_with fail
  refine (iThr_any _ _ _ Z _ _ _ Ld _ (by exact HC5.out.recs) (by omega) (by exact HC5.out.lds) (by omega)).mono ?_;rintro e w6 ⟨v6,rfl,ho6,hb6⟩;have HC6:=Lib.hid (HC5.out.after hb6);have HX6:=Lib.hid (HX5.out.after hb6);obtain ⟨A6,c6,rfl,_⟩:=ho6.slice;have HT6:=Lib.hid ho6.recs;have hT8:thrN Z m Ld q≤8000:=(corn_acc (rowsZ Z m Ld q) (rowsN Z m Ld q)).few;have cx6:=HC6.out.box.1;clear hb6 ho6 HC5 HX5 cx5;have HU:Hid (uniB Z m Ld q=(decide (thrN Z m Ld q=1) && !strB Z m)):=Lib.hid rfl;have HONE:=Lib.hid HF.out.one;have HTWO:=Lib.hid HF.out.two;have HTS:=Lib.hid (show (b1=true→thrB p0 p1 p2 p3=true)∧(b2=true→thrB q0 q1 q2 q3=true) from ⟨HF.out.t1,HF.out.t2⟩);have HSR:=Lib.hid HF.out.spr;obtain ⟨T,hT⟩:∃ T,thrN Z m Ld q=T:=⟨_,rfl⟩;obtain ⟨TL,hTL⟩:∃ TL,thrL Z m Ld q=TL:=⟨_,rfl⟩;rw [hT,hTL] at HT6;rw [hT] at hT8 HONE HU;rw [hT];have HTT:=Lib.hid hT;have HTTL:=Lib.hid hTL;go_wp2_with fail
  refine (iIsStraight_any _ _ _ Z _ (by exact HC6.out.recs) (by omega)).mono ?_;rintro e w7 ⟨rfl,hb7⟩;have HC7:=Lib.hid (HC6.out.after hb7);have HX7:=Lib.hid (HX6.out.after hb7);have HT7:=Lib.hid (HT6.out.after hb7);obtain ⟨S,hS⟩:∃ S,strB Z m=S:=⟨_,rfl⟩;rw [hS] at HU HTWO ⊢;clear hb7 HC6 HX6 HT6 cx6 hT hTL hS;go_upto_region 8 with fail
  go_cut [57] from 42 to 57 (fun v57 wx=>v57 = .bool false∧w7=wx)
  case first =>
   by_cases hT0:(T:Int) > 0
   ·have e1:b1=true:=HONE.out.symm.trans (decide_eq_true hT0)
    clear HONE;subst e1;cases S
    ·have e2:b2=true:=HTWO.out.symm
     clear HTWO;subst e2;go_wp2_with fail
     go_meet
     case rel=>exact ⟨rfl,rfl⟩
    ·have e2:b2=false:=HTWO.out.symm
     clear HTWO;subst e2;go_wp2_with fail
     go_meet
     case rel=>exact ⟨rfl,rfl⟩
   ·have e1:b1=false:=HONE.out.symm.trans (decide_eq_false hT0)
    have e0:T=0:=by omega
    clear HONE hT0;subst e1;subst e0;have e2:b2=false:=HTWO.out.symm;clear HTWO;subst e2;go_wp2_with fail
    go_meet
    case rel=>exact ⟨rfl,rfl⟩
  case rest =>
   obtain ⟨rfl,rfl⟩:=hcut;go_wp2;go_loopw [11] (fun v11 wr=>∃ k:Nat,v11 = .int .i64 k∧k≤T∧Hid (Below w7.heap.size w7 wr)) (fun v11 _=>T - (intOf v11).toNat)
   case atStart=>exact ⟨0,rfl,Nat.zero_le _,Lib.hid (Below.refl _ _)⟩
   case round =>
    obtain ⟨k,rfl,hk,HB⟩:=hrel;have HCr:=Lib.hid (HC7.out.after HB.out);have HXr:=Lib.hid (HX7.out.after HB.out);have HTr:=Lib.hid (HT7.out.after HB.out);clear HC7 HX7 HT7;by_cases hlt:k<T
    ·have i1:IntKind.i64.wrap ((k:Int)+1)=(k:Int)+1:=IntWalk.i64_in _ (by omega)
     have ik:(k:Int)<(T:Int):=by omega
     have k0:(0:Int)≤(k:Int):=by omega
     have t0:0<T:=by omega
     have HTO:=HTr.out;obtain ⟨tb,tf,rfl,htb,htc⟩:=HTO.2 (by omega);obtain ⟨H,V,M,D,H0,V0,M0,D0,m0,m1,m2,m3,mb,hj,hz,hm,hr⟩:=rd_names HF.out HTT.out HTTL.out htc hlt;have HJ:=Lib.hid hj;have HZ:=Lib.hid hz;have HMV:=Lib.hid hm;have HR:=Lib.hid hr;have HTB:=Lib.hid htb;clear HTO htc hj hz hm hr HTr;go_upto_region 13 with fail
     go_cut [82] from 58 to 116 (fun v82 wx=>v82 = .bool false∧Hid (Below wr.heap.size wr wx))
     case first =>
      obtain ⟨c1,hc1⟩:∃ c,cmpT p0 p1 p2 p3 H V M D=c:=⟨_,rfl⟩;obtain ⟨c2,hc2⟩:∃ c,cmpT q0 q1 q2 q3 H V M D=c:=⟨_,rfl⟩;have n1:¬ c1 > 0:=by rw [← hc1]; exact HR.out.lo
      have HC1:=Lib.hid hc1;have HC2:=Lib.hid hc2;clear hc1 hc2;have jc:=HJ.out;have pc:=HXr.out.p.1;have qc:=HXr.out.q.1;have n1b:decide (0<c1)=false:=by simp; omega
      cases b2
      ·skip
       refine wp_region_held_drew (S:=fun w'=>(w'.cell? ⟨tb,tf+k*4,none⟩=some (.int .i64 H)∧w'.cell? ⟨tb,tf+k*4+1,none⟩=some (.int .i64 V)∧w'.cell? ⟨tb,tf+k*4+2,none⟩=some (.int .i64 M)∧w'.cell? ⟨tb,tf+k*4+3,none⟩=some (.int .i64 D))∧(w'.cell? ⟨Xp,0,none⟩=some (.int .i64 p0)∧w'.cell? ⟨Xp,1,none⟩=some (.int .i64 p1)∧w'.cell? ⟨Xp,2,none⟩=some (.int .i64 p2)∧w'.cell? ⟨Xp,3,none⟩=some (.int .i64 p3))∧(w'.cell? ⟨Xq,0,none⟩=some (.int .i64 q0)∧w'.cell? ⟨Xq,1,none⟩=some (.int .i64 q1)∧w'.cell? ⟨Xq,2,none⟩=some (.int .i64 q2)∧w'.cell? ⟨Xq,3,none⟩=some (.int .i64 q3))) (by kernel_rfl) (by exact ⟨jc,pc,qc⟩) (fun hHeld => ?_);refine take_heldS (i:=0) (d:=64) rfl rfl ?_;try simp only [Act.put,ly3]
       refine take_heldS (i:=1) (d:=65) rfl rfl ?_;try simp only [Act.put,ly3]
       refine take_heldS (i:=2) (d:=66) rfl rfl ?_;try simp only [Act.put,ly3]
       refine take_heldS (i:=3) (d:=67) rfl rfl ?_;try simp only [Act.put,ly3]
       refine take_heldS (i:=4) (d:=68) rfl rfl ?_;try simp only [Act.put,ly3]
       refine wpAnyH_ready (rs := [5]) (by kernel_rfl) (by simp) ?_;refine AllReadyH.cons rfl (fun K hK => ?_) AllReadyH.nil;go_simp
       refine (iCmpT_any p0 p1 p2 p3 H V M D _).mono ?_;rw [HC1.out];rintro e w8 ⟨rfl,hbx⟩;have hb8:=below_undrew hbx;have HB8:=Lib.hid hb8;have HJ8:=Lib.hid (HJ.out.after HTB.out hb8);have HX8:=Lib.hid (HXr.out.after hb8);clear hb8 hbx;refine hK.out _ _ (by exact ⟨HJ8.out,HX8.out.p.1,HX8.out.q.1⟩) (fun hHeld => ?_);clear hK K;try simp only [Act.put,ly3]
       refine take_heldS (i:=6) (d:=70) (v:=(.bool false)) rfl rfl ?_;try simp only [Act.put,ly3]
       refine take_heldS (i:=7) (d:=71) (v:=(.bool false)) rfl rfl ?_;try simp only [Act.put,ly3]
       refine take_heldS (i:=8) (d:=72) (v:=(.bool false)) rfl rfl ?_;try simp only [Act.put,ly3]
       refine take_heldS (i:=9) (d:=73) (v:=(.bool false)) rfl rfl ?_;try simp only [Act.put,ly3]
       refine skip_heldS (i:=10) (d:=74) rfl rfl ?_;try simp only [Act.put,ly3]
       refine skip_heldS (i:=11) (d:=75) rfl rfl ?_;try simp only [Act.put,ly3]
       refine skip_heldS (i:=12) (d:=76) rfl rfl ?_;try simp only [Act.put,ly3]
       refine skip_heldS (i:=13) (d:=77) rfl rfl ?_;try simp only [Act.put,ly3]
       refine skip_heldS (i:=14) (d:=78) rfl rfl ?_;try simp only [Act.put,ly3]
       refine skip_heldS (i:=15) (d:=79) rfl rfl ?_;try simp only [Act.put,ly3]
       refine skip_heldS (i:=16) (d:=80) rfl rfl ?_;try simp only [Act.put,ly3]
       refine take_heldS (i:=17) (d:=81) (v:=(.bool false)) rfl rfl ?_;try simp only [Act.put,ly3]
       refine take_heldS (i:=18) (d:=82) (v:=(.bool false)) rfl rfl ?_;try simp only [Act.put,ly3]
       refine wpAnyH_done (by kernel_rfl) ?_ _;go_wp2_with fail
       go_meet
       case rel=>exact ⟨rfl,HB8⟩
      ·have n2:¬ c2<0:=by rw [← HC2.out]; exact HR.out.hi rfl
       have n2b:decide (c2<0)=false:=by simp; omega
       refine wp_region_held_drew (S:=fun w'=>(w'.cell? ⟨tb,tf+k*4,none⟩=some (.int .i64 H)∧w'.cell? ⟨tb,tf+k*4+1,none⟩=some (.int .i64 V)∧w'.cell? ⟨tb,tf+k*4+2,none⟩=some (.int .i64 M)∧w'.cell? ⟨tb,tf+k*4+3,none⟩=some (.int .i64 D))∧(w'.cell? ⟨Xp,0,none⟩=some (.int .i64 p0)∧w'.cell? ⟨Xp,1,none⟩=some (.int .i64 p1)∧w'.cell? ⟨Xp,2,none⟩=some (.int .i64 p2)∧w'.cell? ⟨Xp,3,none⟩=some (.int .i64 p3))∧(w'.cell? ⟨Xq,0,none⟩=some (.int .i64 q0)∧w'.cell? ⟨Xq,1,none⟩=some (.int .i64 q1)∧w'.cell? ⟨Xq,2,none⟩=some (.int .i64 q2)∧w'.cell? ⟨Xq,3,none⟩=some (.int .i64 q3))) (by kernel_rfl) (by exact ⟨jc,pc,qc⟩) (fun hHeld => ?_);refine take_heldS (i:=0) (d:=64) rfl rfl ?_;try simp only [Act.put,ly3]
       refine take_heldS (i:=1) (d:=65) rfl rfl ?_;try simp only [Act.put,ly3]
       refine take_heldS (i:=2) (d:=66) rfl rfl ?_;try simp only [Act.put,ly3]
       refine take_heldS (i:=3) (d:=67) rfl rfl ?_;try simp only [Act.put,ly3]
       refine take_heldS (i:=4) (d:=68) rfl rfl ?_;try simp only [Act.put,ly3]
       refine wpAnyH_ready (rs := [5]) (by kernel_rfl) (by simp) ?_;refine AllReadyH.cons rfl (fun K hK => ?_) AllReadyH.nil;go_simp
       refine (iCmpT_any p0 p1 p2 p3 H V M D _).mono ?_;rw [HC1.out];rintro e w8 ⟨rfl,hbx⟩;have hb8:=below_undrew hbx;have HB8:=Lib.hid hb8;have HJ8:=Lib.hid (HJ.out.after HTB.out hb8);have HX8:=Lib.hid (HXr.out.after hb8);clear hb8 hbx;refine hK.out _ _ (by exact ⟨HJ8.out,HX8.out.p.1,HX8.out.q.1⟩) (fun hHeld => ?_);clear hK K;try simp only [Act.put,ly3]
       refine take_heldS (i:=6) (d:=70) (v:=(.bool false)) rfl rfl ?_;try simp only [Act.put,ly3]
       refine take_heldS (i:=7) (d:=71) (v:=(.bool false)) rfl rfl ?_;try simp only [Act.put,ly3]
       refine take_heldS (i:=8) (d:=72) (v:=(.bool true)) rfl rfl ?_;try simp only [Act.put,ly3]
       refine take_heldS (i:=9) (d:=73) (v:=(.bool true)) rfl rfl ?_;try simp only [Act.put,ly3]
       refine take_heldS (i:=10) (d:=74) rfl rfl ?_;try simp only [Act.put,ly3]
       refine take_heldS (i:=11) (d:=75) rfl rfl ?_;try simp only [Act.put,ly3]
       refine take_heldS (i:=12) (d:=76) rfl rfl ?_;try simp only [Act.put,ly3]
       refine take_heldS (i:=13) (d:=77) rfl rfl ?_;try simp only [Act.put,ly3]
       refine take_heldS (i:=14) (d:=78) rfl rfl ?_;try simp only [Act.put,ly3]
       refine wpAnyH_ready (rs := [15]) (by kernel_rfl) (by simp) ?_;refine AllReadyH.cons rfl (fun K hK => ?_) AllReadyH.nil;go_simp
       refine (iCmpT_any q0 q1 q2 q3 H V M D _).mono ?_;rw [HC2.out];rintro e w9 ⟨rfl,hby⟩;have hb9:=below_then HB8.out hby;have HB9:=Lib.hid hb9;have HJ9:=Lib.hid (HJ.out.after HTB.out hb9);have HX9:=Lib.hid (HXr.out.after hb9);clear hb9 hby;refine hK.out _ _ (by exact ⟨HJ9.out,HX9.out.p.1,HX9.out.q.1⟩) (fun hHeld => ?_);clear hK K;try simp only [Act.put,ly3]
       refine take_heldS (i:=16) (d:=80) (v:=(.bool false)) rfl rfl ?_;try simp only [Act.put,ly3]
       refine take_heldS (i:=17) (d:=81) (v:=(.bool false)) rfl rfl ?_;try simp only [Act.put,ly3]
       refine take_heldS (i:=18) (d:=82) (v:=(.bool false)) rfl rfl ?_;try simp only [Act.put,ly3]
       refine wpAnyH_done (by kernel_rfl) ?_ _;go_wp2_with fail
       go_meet
       case rel=>exact ⟨rfl,HB9⟩
     case rest =>
      obtain ⟨rfl,HB8⟩:=hcut;obtain ⟨w8,hw8⟩:∃ v,v=wc:=⟨_,rfl⟩;subst hw8;have jc:=HJ.out.after HTB.out HB8.out;have zc:=HZ.out.after HTB.out HB8.out;have HJ8:=Lib.hid jc;have HZ8:=Lib.hid zc;have hl8:tb<w8.heap.size:=Nat.lt_of_lt_of_le HTB.out HB8.out.size;go_upto_region 15 with fail
      go_cut [12,13] from 58 to 116 (fun v12 v13 wx=>(∃ g,v12 = .pointer (some ⟨g,0,none⟩)∧Hid (Box4 wx g m0 m1 m2 m3))∧v13 = .bool mb∧Hid (Below wr.heap.size wr wx))
      case first =>
       refine wp_region_held_drew (S:=fun w'=>(w'.cell? ⟨tb,tf+k*4,none⟩=some (.int .i64 H)∧w'.cell? ⟨tb,tf+k*4+1,none⟩=some (.int .i64 V)∧w'.cell? ⟨tb,tf+k*4+2,none⟩=some (.int .i64 M)∧w'.cell? ⟨tb,tf+k*4+3,none⟩=some (.int .i64 D))∧(w'.cell? ⟨tb,tf,none⟩=some (.int .i64 H0)∧w'.cell? ⟨tb,tf+1,none⟩=some (.int .i64 V0)∧w'.cell? ⟨tb,tf+2,none⟩=some (.int .i64 M0)∧w'.cell? ⟨tb,tf+3,none⟩=some (.int .i64 D0))) (by kernel_rfl) (by exact ⟨jc,zc⟩) (fun hHeld => ?_);refine take_heldS (i:=0) (d:=84) rfl rfl ?_;try simp only [Act.put,ly3]
       refine take_heldS (i:=1) (d:=85) rfl rfl ?_;try simp only [Act.put,ly3]
       refine take_heldS (i:=2) (d:=86) rfl rfl ?_;try simp only [Act.put,ly3]
       refine take_heldS (i:=3) (d:=87) rfl rfl ?_;try simp only [Act.put,ly3]
       refine take_heldS (i:=4) (d:=88) rfl rfl ?_;try simp only [Act.put,ly3]
       refine take_heldS (i:=5) (d:=89) rfl rfl ?_;try simp only [Act.put,ly3]
       refine take_heldS (i:=6) (d:=90) rfl rfl ?_;try simp only [Act.put,ly3]
       clear jc zc;refine wpAnyH_ready (rs := [7,11]) (by kernel_rfl) (by simp) ?_;refine AllReadyH.cons rfl (fun K hK => ?_) (AllReadyH.cons rfl (fun K hK => ?_) AllReadyH.nil)
       ·go_simp
        refine (iMix_any H V M D H0 V0 M0 D0 _).mono ?_;rw [HMV.out];rintro e w9 ⟨rfl,hbx⟩;have hb9:=below_undrew hbx;have HB9:=Lib.hid hb9;have HJ9:=Lib.hid (HJ8.out.after hl8 hb9);have HZ9:=Lib.hid (HZ8.out.after hl8 hb9);have hl9:tb<w9.heap.size:=Nat.lt_of_lt_of_le hl8 hb9.size;refine hK.out _ _ (by exact ⟨HJ9.out,HZ9.out⟩) (fun hHeld => ?_);clear hK K hb9 hbx;try simp only [Act.put,ly3]
        refine take_heldS (i:=8) (d:=83) rfl rfl ?_;try simp only [Act.put,ly3]
        refine take_heldS (i:=9) (d:=92) rfl rfl ?_;try simp only [Act.put,ly3]
        refine take_heldS (i:=10) (d:=93) rfl rfl ?_;try simp only [Act.put,ly3]
        refine wpAnyH_ready (rs := [11]) (by kernel_rfl) (by simp) ?_;refine AllReadyH.cons rfl (fun K hK => ?_) AllReadyH.nil;go_simp
        have ba:=(Below.refl w9.heap.size w9).alloc (Nat.le_refl _) (.cells #[.int .i64 0,.int .i64 0,.int .i64 0,.int .i64 0] 31);have HAL:=Lib.hid (alloc_at w9 (.cells #[.int .i64 0,.int .i64 0,.int .i64 0,.int .i64 0] 31));have HJa:=Lib.hid (HJ9.out.after hl9 ba);have HZa:=Lib.hid (HZ9.out.after hl9 ba);have HBa:=Lib.hid (below_then HB9.out ba);clear ba;refine hK.out _ _ (by exact ⟨HJa.out,HZa.out⟩) (fun hHeld => ?_);clear hK K;try simp only [Act.put,ly3]
        refine wpAnyH_ready (rs := [12]) (by kernel_rfl) (by simp) ?_;refine AllReadyH.cons rfl (fun K hK => ?_) AllReadyH.nil;refine step_stRow rfl 31 (.tmp 12) (.tmp 92) rfl w9.heap.size #[.int .i64 m0,.int .i64 m1,.int .i64 m2,.int .i64 m3] rfl rfl 31 #[.int .i64 0,.int .i64 0,.int .i64 0,.int .i64 0] (by exact HAL.out) (by kernel_rfl) rfl (by simp [Value.oneCell']) ?_;intro wd O Y;have HY:=Lib.hid (box4_of Y);have HJd:=Lib.hid (HJa.out.only (by omega) O);have HZd:=Lib.hid (HZa.out.only (by omega) O);have HBd:=Lib.hid (HB8.out.trans ((HBa.out.trans (O.below (B:=w8.heap.size) HB9.out.size)).mono HB8.out.size));clear O Y;refine hK.out _ _ (by exact ⟨HJd.out,HZd.out⟩) (fun hHeld => ?_);clear hK K;try simp only [Act.put,ly3]
        refine take_heldS (i:=13) (d:=13) rfl rfl ?_;try simp only [Act.put,ly3]
        refine wpAnyH_done (by kernel_rfl) ?_ _;go_wp2_with fail
        go_meet
        case rel=>exact ⟨⟨_,rfl,HY⟩,rfl,HBd⟩
       ·go_simp
        have ba:=(Below.refl w8.heap.size w8).alloc (Nat.le_refl _) (.cells #[.int .i64 0,.int .i64 0,.int .i64 0,.int .i64 0] 31);have HAL:=Lib.hid (alloc_at w8 (.cells #[.int .i64 0,.int .i64 0,.int .i64 0,.int .i64 0] 31));have HJa:=Lib.hid (HJ8.out.after hl8 ba);have HZa:=Lib.hid (HZ8.out.after hl8 ba);have HBa:=Lib.hid ba;clear ba;refine hK.out _ _ (by exact ⟨HJa.out,HZa.out⟩) (fun hHeld => ?_);clear hK K;try simp only [Act.put,ly3]
        refine wpAnyH_ready (rs := [7]) (by kernel_rfl) (by simp) ?_;refine AllReadyH.cons rfl (fun K hK => ?_) AllReadyH.nil;go_simp
        refine (iMix_any H V M D H0 V0 M0 D0 _).mono ?_;rw [HMV.out];rintro e w9 ⟨rfl,hbx⟩;have hb9:=below_undrew hbx;have HB9:=Lib.hid hb9;have HJ9:=Lib.hid (HJa.out.after (by simp; omega) hb9)
        have HZ9:=Lib.hid (HZa.out.after (by simp; omega) hb9)
        have HAM:=Lib.hid ((hb9.block w8.heap.size (by simp)).trans HAL.out);have hz9:=hb9.size;clear hb9 hbx;refine hK.out _ _ (by exact ⟨HJ9.out,HZ9.out⟩) (fun hHeld => ?_);clear hK K;try simp only [Act.put,ly3]
        refine take_heldS (i:=8) (d:=83) rfl rfl ?_;try simp only [Act.put,ly3]
        refine take_heldS (i:=9) (d:=92) rfl rfl ?_;try simp only [Act.put,ly3]
        refine take_heldS (i:=10) (d:=93) rfl rfl ?_;try simp only [Act.put,ly3]
        refine wpAnyH_ready (rs := [12]) (by kernel_rfl) (by simp) ?_;refine AllReadyH.cons rfl (fun K hK => ?_) AllReadyH.nil;refine step_stRow rfl 31 (.tmp 12) (.tmp 92) rfl w8.heap.size #[.int .i64 m0,.int .i64 m1,.int .i64 m2,.int .i64 m3] rfl rfl 31 #[.int .i64 0,.int .i64 0,.int .i64 0,.int .i64 0] (by exact HAM.out) (by kernel_rfl) rfl (by simp [Value.oneCell']) ?_;intro wd O Y;have HY:=Lib.hid (box4_of Y);have HJd:=Lib.hid (HJ9.out.only (by omega) O);have HZd:=Lib.hid (HZ9.out.only (by omega) O);have HBd:=Lib.hid (HB8.out.trans (((below_then HBa.out HB9.out).trans (O.below (B:=w8.heap.size) (Nat.le_refl _))).mono HB8.out.size));clear O Y;refine hK.out _ _ (by exact ⟨HJd.out,HZd.out⟩) (fun hHeld => ?_);clear hK K;try simp only [Act.put,ly3]
        refine take_heldS (i:=13) (d:=13) rfl rfl ?_;try simp only [Act.put,ly3]
        refine wpAnyH_done (by kernel_rfl) ?_ _;go_wp2_with fail
        go_meet
        case rel=>exact ⟨⟨_,rfl,HY⟩,rfl,HBd⟩
      case rest =>
       clear jc zc HJ8 HZ8;obtain ⟨⟨g,rfl,HY⟩,rfl,HB9⟩:=hcut;obtain ⟨w9,hw9⟩:∃ v,v=wc:=⟨_,rfl⟩;subst hw9;have HC9:=Lib.hid (HCr.out.after HB9.out);have HX9:=Lib.hid (HXr.out.after HB9.out);go_upto_region 16 with fail
       go_cut [116] from 58 to 116 (fun v116 wx=>v116 = .bool false∧Hid (Below wr.heap.size wr wx))
       case first =>
        cases mb
        ·go_wp2_with fail
         go_meet
         case rel=>exact ⟨rfl,HB9⟩
        ·have hst:=HR.out.st rfl
         obtain ⟨c1,hc1⟩:∃ c,cmpT p0 p1 p2 p3 m0 m1 m2 m3=c:=⟨_,rfl⟩;obtain ⟨c2,hc2⟩:∃ c,cmpT q0 q1 q2 q3 m0 m1 m2 m3=c:=⟨_,rfl⟩;have n1:¬ c1 > 0:=by rw [← hc1]; exact HR.out.lo2 rfl
         have HC1:=Lib.hid hc1;have HC2:=Lib.hid hc2;have HST:=Lib.hid hst;clear hc1 hc2 hst;have cx:=HC9.out.box.1;obtain ⟨y0,y1,y2,y3⟩:=HY.out.1;go_wp2_with fail
         refine (iStandsWith_any _ _ _ Z _ _ _ Ld m0 m1 m2 m3 _ (by exact HC9.out.recs) (by omega) (by exact HC9.out.lds) (by omega)).mono ?_;rw [HST.out];rintro e wd ⟨rfl,hbd⟩;have HBd:=Lib.hid (below_then HB9.out hbd);have HXd:=Lib.hid (HX9.out.after hbd);have HYd:=Lib.hid (HY.out.after hbd);clear hbd cx y0 y1 y2 y3;obtain ⟨y0,y1,y2,y3⟩:=HYd.out.1;obtain ⟨z0,z1,z2,z3⟩:=HXd.out.p.1;go_wp2_with fail
         refine (iCmpT_any p0 p1 p2 p3 m0 m1 m2 m3 _).mono ?_;rw [HC1.out];rintro e we ⟨rfl,hbe⟩;have HBe:=Lib.hid (below_then HBd.out hbe);have HXe:=Lib.hid (HXd.out.after hbe);have HYe:=Lib.hid (HYd.out.after hbe);clear hbe y0 y1 y2 y3 z0 z1 z2 z3;cases b2
         ·go_wp2_with fail
          go_meet
          case rel=>exact ⟨by first | rfl | (congr 1; simp; omega),HBe⟩
         ·have n2:¬ c2<0:=by rw [← HC2.out]; exact HR.out.hi2 rfl rfl
          obtain ⟨y0,y1,y2,y3⟩:=HYe.out.1;obtain ⟨z0,z1,z2,z3⟩:=HXe.out.q.1;go_wp2_with fail
          refine (iCmpT_any q0 q1 q2 q3 m0 m1 m2 m3 _).mono ?_;rw [HC2.out];rintro e wf ⟨rfl,hbf⟩;have HBf:=Lib.hid (below_then HBe.out hbf);clear hbf y0 y1 y2 y3 z0 z1 z2 z3;go_wp2_with fail
          go_meet
          case rel=>exact ⟨by first | rfl | (congr 1; simp; omega),HBf⟩
       case rest =>
        obtain ⟨rfl,HBz⟩:=hcut;go_wp2;go_roundw
        case rel=>exact ⟨k+1,by go_num,by omega,Lib.hid (below_then HB.out HBz.out)⟩
        case measure=>simp [intOf]; omega
    ·obtain rfl:T=k:=by omega
     have nn:¬ (T:Int)<(T:Int):=by omega
     have cx:=HCr.out.box.1;go_wp2_with fail
     refine (iSpread_any _ _ _ Z _ _ _ Ld _ (by exact HCr.out.recs) (by omega) (by exact HCr.out.lds) (by omega) p0 p1 p2 p3 q0 q1 q2 q3 b1 b2 HE1.out HE2.out HTS.out.1 HTS.out.2).mono ?_;rw [HSP.out];rintro e wd ⟨rfl,hbd⟩;have HCd:=Lib.hid (HCr.out.after hbd);have HXd:=Lib.hid (HXr.out.after hbd);clear hbd cx HCr HXr HTr HB;have hfl:=flat_in wd 45 26;go_upto_region 20 with fail
     obtain ⟨wg,hwg⟩:∃ wg,flatW wd 45 26=wg:=⟨_,rfl⟩;rw [hwg] at hfl;unfold flatW at hwg;rw [hwg];have HFg:=Lib.hid hfl;have HCg:=Lib.hid (HCd.out.after hfl.below);have HXg:=Lib.hid (HXd.out.after hfl.below);clear hwg hfl HCd HXd;have HU3:Hid ((T=1∧S=false∧uniB Z m Ld q=true) ∨ (T=1∧S=true∧uniB Z m Ld q=false) ∨ (¬ T=1∧uniB Z m Ld q=false)):=Lib.hid (by
      rw [HU.out];by_cases h1:T=1
      ·cases S
       ·exact .inl ⟨h1,rfl,by simp [h1]⟩
       ·exact .inr (.inl ⟨h1,rfl,by simp⟩)
      ·exact .inr (.inr ⟨h1,by simp [h1]⟩))
     clear HU HE1 HE2 HSP HF HONE HTWO HTS HTT HTTL;obtain ⟨c1,hc1⟩:∃ c,cmpT p0 p1 p2 p3 q0 q1 q2 q3=c:=⟨_,rfl⟩;rw [hc1] at HSR;have HC1:=Lib.hid hc1;clear hc1;cases bb
     ·clear HSR HC1
      obtain ⟨wh,hwh⟩:∃ v,v=wg:=⟨_,rfl⟩;subst hwh;have HCh:=HCg;have HFh:=HFg;clear HCg HFg HXg;have cx:=HFh.out.box.1;go_wp2_with fail
      refine (iIsStraight_any _ _ _ [0,0,0,3,4,0,4,3,8,0,8,3] _ (by exact HFh.out.recs) (by omega)).mono ?_;rw [flat_str];rintro e wi ⟨rfl,hbi⟩;have HCi:=Lib.hid (HCh.out.after hbi);have cx':=HCi.out.box.1;clear hbi cx HCh HFh;rcases HU3.out with ⟨hT1,rfl,hu⟩ | ⟨hT1,rfl,hu⟩ | ⟨hT1,hu⟩;all_goals
       (try have t1:((T:Int) == 1)=true:=by simp [hT1])
       (try have t1:((T:Int) == 1)=false:=by simp; omega)
       have HUU:=Lib.hid hu;clear hu hT1 HU3;go_wp2_with fail
       refine (iUniq_any _ _ _ Z _ _ _ Ld _ (by exact HCi.out.recs) (by omega) (by exact HCi.out.lds) (by omega)).mono ?_;rw [HUU.out];rintro e wj ⟨rfl,hbj⟩;have HBj:=Lib.hid (below_then HCi.out.below hbj);clear hbj cx' HCi;go_wp2;go_ret;exact ⟨rfl,HBj.out⟩
     ·obtain ⟨e2,gx,gy,hxc⟩:=HSR.out rfl
      clear HSR;subst e2;have gx':x ≥ 0:=gx;have gy':y > 0:=gy;obtain ⟨xb,hxb,hcb⟩:∃ xb,(x == 0)=xb∧(c1 == 0)=xb:=by
       by_cases h0:x=0
       ·exact ⟨true,by simp [h0],by simp [hxc.1 h0]⟩
       ·exact ⟨false,by simp [h0],by simp; exact fun e=>h0 (hxc.2 e)⟩
      obtain ⟨y0,y1,y2,y3⟩:=HXg.out.p.1;obtain ⟨z0,z1,z2,z3⟩:=HXg.out.q.1;clear hxc gx gy;go_wp2_with fail
      refine (iCmpT_any p0 p1 p2 p3 q0 q1 q2 q3 _).mono ?_;rw [HC1.out];rintro e wh ⟨rfl,hbh⟩;have HCh:=Lib.hid (HCg.out.after hbh);have HFh:=Lib.hid (HFg.out.after hbh);clear hbh y0 y1 y2 y3 z0 z1 z2 z3 HCg HFg HXg;have cx:=HFh.out.box.1;go_wp2_with fail
      refine (iIsStraight_any _ _ _ [0,0,0,3,4,0,4,3,8,0,8,3] _ (by exact HFh.out.recs) (by omega)).mono ?_;rw [flat_str];rintro e wi ⟨rfl,hbi⟩;have HCi:=Lib.hid (HCh.out.after hbi);have cx':=HCi.out.box.1;clear hbi cx HCh HFh;rcases HU3.out with ⟨hT1,rfl,hu⟩ | ⟨hT1,rfl,hu⟩ | ⟨hT1,hu⟩;all_goals
       (try have t1:((T:Int) == 1)=true:=by simp [hT1])
       (try have t1:((T:Int) == 1)=false:=by simp; omega)
       have HUU:=Lib.hid hu;clear hu hT1 HU3;go_wp2_with fail
       refine (iUniq_any _ _ _ Z _ _ _ Ld _ (by exact HCi.out.recs) (by omega) (by exact HCi.out.lds) (by omega)).mono ?_;rw [HUU.out];rintro e wj ⟨rfl,hbj⟩;have HBj:=Lib.hid (below_then HCi.out.below hbj);clear hbj cx' HCi;go_wp2;go_ret;exact ⟨rfl,HBj.out⟩
end fnRanges
end X
end Go.Proofs.YtpblihmhpalkfaaGreat
