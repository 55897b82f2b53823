/-
  Texts that the law stands on, part 3.
-/
import Derived.Test.YtodneggnnipcnaaGreatSpanOfArchP1
import Derived.Test.YtodneggnnipcnaaGreatSpanOfArchP2
import Derived.Test.YtodneggnnipcnaaGreatH10
import Derived.Test.YtodneggnnipcnaaGreatH15
import Derived.Test.YtodneggnnipcnaaGreatH17
import Derived.Test.YtodneggnnipcnaaGreatH20
import Derived.Test.YtodneggnnipcnaaGreatH21
import Derived.Outline
set_option maxRecDepth 100000
set_option linter.unusedVariables false
set_option linter.unusedSimpArgs false
namespace Go.Proofs.YtodneggnnipcnaaGreat
namespace X
open Go.RowKit
def spnT (lo hi pr:Int) (b:Bool):Value := .tuple #[.agg #[.int .i64 lo,.int .i64 hi,.int .i64 pr],.bool b]
def spLo (p0 p3:Int):Int:=(p0+p3 - 1).tdiv p3
def spHi (q0 q3:Int) (b2:Bool):Int:=if b2=true then q0.tdiv q3 else 10000
def spnV (p0 p3 q0 q3:Int) (b1 b2:Bool) (pr:Int):Value:=if (b1 && spansB [spLo p0 p3,spHi q0 q3 b2,pr] 1)=true then spnT (spLo p0 p3) (spHi q0 q3 b2) pr true else spnT 0 0 0 false
theorem spnV_1 (p0 p3 q0 q3:Int) (b2:Bool) (pr:Int):spnV p0 p3 q0 q3 false b2 pr=spnT 0 0 0 false:=by simp [spnV]
theorem spnV_f {p0 p3 q0 q3:Int} {b2:Bool} {pr:Int} (h:spansB [spLo p0 p3,spHi q0 q3 b2,pr] 1=false):spnV p0 p3 q0 q3 true b2 pr=spnT 0 0 0 false:=by simp [spnV,h]
theorem spnV_t {p0 p3 q0 q3:Int} {b2:Bool} {pr:Int} (h:spansB [spLo p0 p3,spHi q0 q3 b2,pr] 1=true):spnV p0 p3 q0 q3 true b2 pr=spnT (spLo p0 p3) (spHi q0 q3 b2) pr true:=by simp [spnV,h]
theorem spnV_ex (p0 p3 q0 q3:Int) (b1 b2:Bool) (pr:Int):∃ x y z b,spnV p0 p3 q0 q3 b1 b2 pr = .tuple #[.agg #[.int .i64 x,.int .i64 y,.int .i64 z],.bool b]:=by
 unfold spnV;split
 ·exact ⟨_,_,_,_,rfl⟩
 ·exact ⟨_,_,_,_,rfl⟩
theorem row3 {w:World} {g:Nat} {T:TypeId} {a b c:Int} (h:RowF w g T 3 (ints [a,b,c])):(w.cell? ⟨g,0,none⟩=some (.int .i64 a)∧w.cell? ⟨g,1,none⟩=some (.int .i64 b)∧w.cell? ⟨g,2,none⟩=some (.int .i64 c))∧w.frozen? ⟨g,0,none⟩=false∧w.frozen? ⟨g,1,none⟩=false∧w.frozen? ⟨g,2,none⟩=false :=
 ⟨⟨h.cell (by omega),h.cell (by omega),h.cell (by omega)⟩,h.frozen 0,h.frozen 1,h.frozen 2⟩
theorem new3 (w:World) (a b c:Int) (T:TypeId):RowF (w.alloc (.cells #[.int .i64 a,.int .i64 b,.int .i64 c] T)) w.heap.size T 3 (ints [a,b,c]):=RowF.of_row (World.rowIs_alloc w #[.int .i64 a,.int .i64 b,.int .i64 c] T (ints [a,b,c]) (fun i hi=>by simp at hi; match i,hi with | 0,_=>rfl | 1,_=>rfl | 2,_=>rfl))
theorem recs3 (w:World) (a b c:Int) (T:TypeId):RecsAt (w.alloc (.cells #[.int .i64 a,.int .i64 b,.int .i64 c] T)) (w.alloc (.cells #[.int .i64 a,.int .i64 b,.int .i64 c] T)).heap.size 3 (some ⟨w.heap.size,0,none⟩) 1 [a,b,c] :=
 ⟨rfl,fun _=>⟨w.heap.size,0,rfl,by simp,fun i hi=>by rw [Nat.zero_add]; exact (new3 w a b c T).cell hi⟩⟩
theorem below_set3 {w wr:World} {B g:Nat} (h:Below B w wr) (hg:B≤g) (a b c:Value):Below B w (((wr.setCell ⟨g,0,none⟩ a).setCell ⟨g,1,none⟩ b).setCell ⟨g,2,none⟩ c):=((h.setCell (p:=⟨g,0,none⟩) hg _).setCell (p:=⟨g,1,none⟩) hg _).setCell (p:=⟨g,2,none⟩) hg _
theorem div_ok {a g:Int} (h0:0≤a) (h1:a≤2000000000000) (hg:1≤g):IntKind.i64.wrap (a.tdiv g)=a.tdiv g:=spdiv_bd (by unfold okG; omega) hg
theorem ceil_any (a b:Int) (w:World) (ha:0≤a∧a≤1000000000000) (hb:1≤b∧b≤1000000):Calls Tryzx.prog 48 #[.int .i64 a,.int .i64 b] w fun e w'=>e = .returned (.int .i64 (spLo a b))∧∃ n,w'=w.drewN n:=by
 have HS:Hid ((a+b - 1).tdiv b=spLo a b):=rfl;have i1:IntKind.i64.wrap (a+b)=a+b:=IntWalk.i64_in _ (by omega);have i2:IntKind.i64.wrap (a+b - 1)=a+b - 1:=IntWalk.i64_in _ (by omega);have i3:IntKind.i64.wrap ((a+b - 1).tdiv b)=(a+b - 1).tdiv b:=div_ok (by omega) (by omega) hb.1;have g0:¬ b=0:=by omega
 have g1:(b == -1)=false:=by simp; omega
 go_enter Tryzx.func48,Tryz.ntmps48;go_wp2;go_ret;exact ⟨by rw [← HS.out]; rfl,0,rfl⟩
section
variable (A : Option Addr) (n c : Nat) (zs : List Int) (B : Option Addr) (q d : Nat) (ls : List Int) (pr : Int) (w : World) (h : RecsAt w w.heap.size 4 A n zs) (hn : n ≤ 1048576) (hl : RecsAt w w.heap.size 3 B q ls) (hq : q ≤ 1048576)
variable (p0 p1 p2 p3 q0 q1 q2 q3 : Int) (b1 b2 : Bool) (hE1 : endV (lstB zs n ls q) (-1) (thrL zs n ls q) (thrN zs n ls q) = .tuple #[.agg #[.int .i64 p0, .int .i64 p1, .int .i64 p2, .int .i64 p3], .bool b1]) (hE2 : endV (grtB zs n ls q) 1 (thrL zs n ls q) (thrN zs n ls q) = .tuple #[.agg #[.int .i64 q0, .int .i64 q1, .int .i64 q2, .int .i64 q3], .bool b2]) (hT1 : b1 = true → thrB p0 p1 p2 p3 = true) (hT2 : b2 = true → thrB q0 q1 q2 q3 = true)
include h hn hl hq hE1 hE2 hT1 hT2
set_option maxRecDepth 100000 in
set_option maxHeartbeats 3200000 in
theorem sSpan_any:Calls Tryzx.prog 24 #[.agg #[.slice A n c],.slice B q d,.int .i64 pr] w fun e w'=>e = .returned (spnV p0 p3 q0 q3 b1 b2 pr)∧Below w.heap.size w w':=by
 have hz0:(w.alloc (.cells #[.slice A n c] 32)).heap.size=w.heap.size+1:=by simp
 have b0:Below w.heap.size w ((w.alloc (.cells #[.slice A n c] 32)).alloc (.cells #[.int .i64 0,.int .i64 0,.int .i64 0] 51)):=((Below.refl _ _).alloc (Nat.le_refl _) _).alloc (by simp) _;have bx0:Box ((w.alloc (.cells #[.slice A n c] 32)).alloc (.cells #[.int .i64 0,.int .i64 0,.int .i64 0] 51)) w.heap.size (.slice A n c):=(Box.new w (.slice A n c) 32).alloc _;have HA0:Hid (RowF ((w.alloc (.cells #[.slice A n c] 32)).alloc (.cells #[.int .i64 0,.int .i64 0,.int .i64 0] 51)) (w.heap.size+1) 51 3 (ints [0,0,0])):=Lib.hid (by have h:=new3 (w.alloc (.cells #[.slice A n c] 32)) 0 0 0 51; rw [hz0] at h; exact h);have cx0:=bx0.1;have hw1:=h.after b0;have hw2:=hl.after b0;have HE1:=Lib.hid hE1;have HE2:=Lib.hid hE2;have HT1:=Lib.hid hT1;have HT2:=Lib.hid hT2;have HX0:=Lib.hid bx0;have HB0:=Lib.hid b0;clear hE1 hE2 hT1 hT2 h hl hz0 b0 bx0;go_enter Tryzx.func24,Tryz.ntmps24;go_wp2_with fail
 refine (sLst_any _ _ _ zs _ _ _ ls _ (by exact hw1) hn (by exact hw2) hq).mono ?_;rintro e w1 ⟨rfl,hb1⟩;rw [HE1.out];have hba:Below w1.heap.size w1 (w1.alloc (.cells #[.int .i64 p0,.int .i64 p1,.int .i64 p2,.int .i64 p3] 40)):=(Below.refl _ _).alloc (Nat.le_refl _) _;have HB1:=Lib.hid (below_then (below_then HB0.out hb1) hba);have HA1:=Lib.hid ((HA0.out.after hb1).after hba);have HX1:=Lib.hid ((HX0.out.after hb1).after hba);have HY1:Hid (Box4 (w1.alloc (.cells #[.int .i64 p0,.int .i64 p1,.int .i64 p2,.int .i64 p3] 40)) w1.heap.size p0 p1 p2 p3):=Lib.hid (Box4.new _ _ _ _ _ _);have hr1:=(hw1.after hb1).after hba;have hr2:=(hw2.after hb1).after hba;clear hb1 hba cx0 hw1 hw2 HA0 HX0 HB0;cases b1
 ·have HS:=Lib.hid (spnV_1 p0 p3 q0 q3 b2 pr)
  clear hr1 hr2;obtain ⟨⟨d0,d1,d2⟩,f0,f1,f2⟩:=row3 HA1.out;go_wp2;refine bodyPost_ret (v:=spnT 0 0 0 false) (by simp [spnT,results,Tryz.results24,go_sem, *]) rfl ⟨by rw [HS.out],?_⟩;exact below_set3 HB1.out (Nat.le_succ _) _ _ _
 have hp:=thrB_out (HT1.out rfl);obtain ⟨LO,hLO⟩:∃ LO,spLo p0 p3=LO:=⟨_,rfl⟩;have HLO:Hid (spLo p0 p3=LO):=hLO;have i1:IntKind.i64.wrap (p0+p3)=p0+p3:=IntWalk.i64_in _ (by omega);have i2:IntKind.i64.wrap (p0+p3 - 1)=p0+p3 - 1:=IntWalk.i64_in _ (by omega);have i3:IntKind.i64.wrap ((p0+p3 - 1).tdiv p3)=LO:=by rw [div_ok (by omega) (by omega) (by omega)]; exact hLO
 have g0:¬ p3=0:=by omega
 have g1:(p3 == -1)=false:=by simp; omega
 have pa:0≤p0∧p0≤1000000000000:=by omega
 have pb:1≤p3∧p3≤1000000:=by omega
 have cx1:=HX1.out.1;obtain ⟨⟨y0,y1,y2,y3⟩,_⟩:=HY1.out;clear hp;clear hLO;have hbc:Below (w1.alloc (.cells #[.int .i64 p0,.int .i64 p1,.int .i64 p2,.int .i64 p3] 40)).heap.size (w1.alloc (.cells #[.int .i64 p0,.int .i64 p1,.int .i64 p2,.int .i64 p3] 40)) ((w1.alloc (.cells #[.int .i64 p0,.int .i64 p1,.int .i64 p2,.int .i64 p3] 40)).alloc (.cells #[.int .i64 LO,.int .i64 10000,.int .i64 pr] 51)):=(Below.refl _ _).alloc (by simp) _;have HB2:=Lib.hid (below_then HB1.out hbc);have HA2:=Lib.hid (HA1.out.after hbc);have HX2:=Lib.hid (HX1.out.after hbc);have HS2:Hid (RowF ((w1.alloc (.cells #[.int .i64 p0,.int .i64 p1,.int .i64 p2,.int .i64 p3] 40)).alloc (.cells #[.int .i64 LO,.int .i64 10000,.int .i64 pr] 51)) (w1.heap.size+1) 51 3 (ints [LO,10000,pr])):=Lib.hid (by have h:=new3 (w1.alloc (.cells #[.int .i64 p0,.int .i64 p1,.int .i64 p2,.int .i64 p3] 40)) LO 10000 pr 51; simpa using h)
 have hs1:=hr1.after hbc;have hs2:=hr2.after hbc;have cx2:=HX2.out.1;have hlt:w.heap.size+1<w1.heap.size+1:=by have:=HA1.out.lt; have:=HB1.out.size; simp at *; omega
 clear hbc HB1 HA1 HX1 hr1 hr2 cx1;go_wp2_with fail
 refine (sGrt_any _ _ _ zs _ _ _ ls _ (by exact hs1) hn (by exact hs2) hq).mono ?_;rintro e w2 ⟨rfl,hb2⟩;rw [HE2.out];have hbb:Below w2.heap.size w2 (w2.alloc (.cells #[.int .i64 q0,.int .i64 q1,.int .i64 q2,.int .i64 q3] 40)):=(Below.refl _ _).alloc (Nat.le_refl _) _;have HB3:=Lib.hid (below_then (below_then HB2.out hb2) hbb);have HA3:=Lib.hid ((HA2.out.after hb2).after hbb);have HS3:=Lib.hid ((HS2.out.after hb2).after hbb);have HZ3:Hid (Box4 (w2.alloc (.cells #[.int .i64 q0,.int .i64 q1,.int .i64 q2,.int .i64 q3] 40)) w2.heap.size q0 q1 q2 q3):=Lib.hid (Box4.new _ _ _ _ _ _);clear hb2 hbb cx2 hs1 hs2 HB2 HA2 HX2 HS2 g0 g1 pa pb;cases b2
 ·have hbn:Below (w2.alloc (.cells #[.int .i64 q0,.int .i64 q1,.int .i64 q2,.int .i64 q3] 40)).heap.size (w2.alloc (.cells #[.int .i64 q0,.int .i64 q1,.int .i64 q2,.int .i64 q3] 40)) ((w2.alloc (.cells #[.int .i64 q0,.int .i64 q1,.int .i64 q2,.int .i64 q3] 40)).alloc (.cells #[.int .i64 LO,.int .i64 10000,.int .i64 pr] 51)):=(Below.refl _ _).alloc (Nat.le_refl _) _
  have hrec:=recs3 (w2.alloc (.cells #[.int .i64 q0,.int .i64 q1,.int .i64 q2,.int .i64 q3] 40)) LO 10000 pr 51;have HA4:=Lib.hid (HA3.out.after hbn);have HB4:=Lib.hid (below_then HB3.out hbn);have HR4:=Lib.hid (HS3.out.after hbn);obtain ⟨⟨s0,s1,s2⟩,_⟩:=row3 HS3.out;simp only [World.size_alloc,World.size_setCell] at hrec;go_wp2_with fail
  refine (sSpansOk_any _ 1 _ [LO,10000,pr] _ (by first | exact hrec | simpa using hrec) (by omega)).mono ?_;cases hsp:spansB [LO,10000,pr] 1
  ·have HS:Hid (spnV p0 p3 q0 q3 true false pr=spnT 0 0 0 false):=Lib.hid (spnV_f (by rw [HLO.out]; exact hsp))
   rintro e w5 ⟨rfl,hb5⟩;have HA5:=Lib.hid (HA4.out.after hb5);have HB5:=Lib.hid (below_then HB4.out hb5);clear hb5 hbn hrec s0 s1 s2;obtain ⟨⟨d0,d1,d2⟩,f0,f1,f2⟩:=row3 HA5.out;go_wp2;refine bodyPost_ret (v:=spnT 0 0 0 false) (by simp [spnT,results,Tryz.results24,go_sem, *]) rfl ⟨by rw [HS.out],?_⟩;exact below_set3 HB5.out (Nat.le_succ _) _ _ _
  ·have HS:Hid (spnV p0 p3 q0 q3 true false pr=spnT LO 10000 pr true):=Lib.hid (by rw [spnV_t (by rw [HLO.out]; exact hsp),HLO.out]; rfl)
   rintro e w5 ⟨rfl,hb5⟩;have HA5:=Lib.hid (HA4.out.after hb5);have HB5:=Lib.hid (below_then HB4.out hb5);obtain ⟨⟨r0,r1,r2⟩,_⟩:=row3 (HR4.out.after hb5);clear hb5 hbn hrec s0 s1 s2;obtain ⟨⟨d0,d1,d2⟩,f0,f1,f2⟩:=row3 HA5.out;go_wp2;refine bodyPost_ret (v:=spnT LO 10000 pr true) (by simp [spnT,results,Tryz.results24,go_sem, *]) rfl ⟨by rw [HS.out],?_⟩;exact below_set3 HB5.out (Nat.le_succ _) _ _ _
 ·have hp:=thrB_out (HT2.out rfl)
  obtain ⟨HI,hHI⟩:∃ HI,q0.tdiv q3=HI:=⟨_,rfl⟩;have HHI:Hid (spHi q0 q3 true=HI):=Lib.hid (by unfold spHi; rw [if_pos rfl]; exact hHI);have i4:IntKind.i64.wrap (q0.tdiv q3)=HI:=by rw [div_ok (by omega) (by omega) (by omega)]; exact hHI
  have g0:¬ q3=0:=by omega
  have g1:(q3 == -1)=false:=by simp; omega
  obtain ⟨⟨z0,z1,z2,z3⟩,_⟩:=HZ3.out;obtain ⟨⟨t0,t1,t2⟩,e0,e1,e2⟩:=row3 HS3.out;have HB3':Hid (Below w.heap.size w ((w2.alloc (.cells #[.int .i64 q0,.int .i64 q1,.int .i64 q2,.int .i64 q3] 40)).setCell ⟨w1.heap.size+1,1,none⟩ (.int .i64 HI))):=Lib.hid (HB3.out.setCell (p:=⟨w1.heap.size+1,1,none⟩) (by simp; omega) _)
  have HA3':Hid (RowF ((w2.alloc (.cells #[.int .i64 q0,.int .i64 q1,.int .i64 q2,.int .i64 q3] 40)).setCell ⟨w1.heap.size+1,1,none⟩ (.int .i64 HI)) (w.heap.size+1) 51 3 (ints [0,0,0])):=Lib.hid (HA3.out.set_other (p:=⟨w1.heap.size+1,1,none⟩) (by simp; omega) _)
  have HS3':Hid (RowF ((w2.alloc (.cells #[.int .i64 q0,.int .i64 q1,.int .i64 q2,.int .i64 q3] 40)).setCell ⟨w1.heap.size+1,1,none⟩ (.int .i64 HI)) (w1.heap.size+1) 51 3 (ints [LO,HI,pr])):=Lib.hid ((HS3.out.set 1 (.int .i64 HI)).congr (f':=ints [LO,HI,pr]) (fun i hi=>by match i,hi with | 0,_=>rfl | 1,_=>rfl | 2,_=>rfl));clear hp hHI;have hbn:Below ((w2.alloc (.cells #[.int .i64 q0,.int .i64 q1,.int .i64 q2,.int .i64 q3] 40)).setCell ⟨w1.heap.size+1,1,none⟩ (.int .i64 HI)).heap.size ((w2.alloc (.cells #[.int .i64 q0,.int .i64 q1,.int .i64 q2,.int .i64 q3] 40)).setCell ⟨w1.heap.size+1,1,none⟩ (.int .i64 HI)) (((w2.alloc (.cells #[.int .i64 q0,.int .i64 q1,.int .i64 q2,.int .i64 q3] 40)).setCell ⟨w1.heap.size+1,1,none⟩ (.int .i64 HI)).alloc (.cells #[.int .i64 LO,.int .i64 HI,.int .i64 pr] 51)):=(Below.refl _ _).alloc (Nat.le_refl _) _;have hrec:=recs3 ((w2.alloc (.cells #[.int .i64 q0,.int .i64 q1,.int .i64 q2,.int .i64 q3] 40)).setCell ⟨w1.heap.size+1,1,none⟩ (.int .i64 HI)) LO HI pr 51;have HA4:=Lib.hid (HA3'.out.after hbn);have HB4:=Lib.hid (below_then HB3'.out hbn);have HR4:=Lib.hid (HS3'.out.after hbn);obtain ⟨⟨s0,s1,s2⟩,_⟩:=row3 HS3'.out;simp only [World.size_alloc,World.size_setCell] at hrec;go_wp2_with fail
  refine (sSpansOk_any _ 1 _ [LO,HI,pr] _ (by first | exact hrec | simpa using hrec) (by omega)).mono ?_;cases hsp:spansB [LO,HI,pr] 1
  ·have HS:Hid (spnV p0 p3 q0 q3 true true pr=spnT 0 0 0 false):=Lib.hid (spnV_f (by rw [HLO.out,HHI.out]; exact hsp))
   rintro e w5 ⟨rfl,hb5⟩;have HA5:=Lib.hid (HA4.out.after hb5);have HB5:=Lib.hid (below_then HB4.out hb5);clear hb5 hbn hrec s0 s1 s2;obtain ⟨⟨d0,d1,d2⟩,f0,f1,f2⟩:=row3 HA5.out;go_wp2;refine bodyPost_ret (v:=spnT 0 0 0 false) (by simp [spnT,results,Tryz.results24,go_sem, *]) rfl ⟨by rw [HS.out],?_⟩;exact below_set3 HB5.out (Nat.le_succ _) _ _ _
  ·have HS:Hid (spnV p0 p3 q0 q3 true true pr=spnT LO HI pr true):=Lib.hid (by rw [spnV_t (by rw [HLO.out,HHI.out]; exact hsp),HLO.out,HHI.out])
   rintro e w5 ⟨rfl,hb5⟩;have HA5:=Lib.hid (HA4.out.after hb5);have HB5:=Lib.hid (below_then HB4.out hb5);obtain ⟨⟨r0,r1,r2⟩,_⟩:=row3 (HR4.out.after hb5);clear hb5 hbn hrec s0 s1 s2;obtain ⟨⟨d0,d1,d2⟩,f0,f1,f2⟩:=row3 HA5.out;go_wp2;refine bodyPost_ret (v:=spnT LO HI pr true) (by simp [spnT,results,Tryz.results24,go_sem, *]) rfl ⟨by rw [HS.out],?_⟩;exact below_set3 HB5.out (Nat.le_succ _) _ _ _
set_option maxRecDepth 100000 in
set_option maxHeartbeats 3200000 in
theorem iSpan_any:Calls Tryzx.prog 25 #[.agg #[.slice A n c],.slice B q d,.int .i64 pr] w fun e w'=>e = .returned (spnV p0 p3 q0 q3 b1 b2 pr)∧Below w.heap.size w w':=by
 have hz0:(w.alloc (.cells #[.slice A n c] 32)).heap.size=w.heap.size+1:=by simp
 have b0:Below w.heap.size w ((w.alloc (.cells #[.slice A n c] 32)).alloc (.cells #[.int .i64 0,.int .i64 0,.int .i64 0] 51)):=((Below.refl _ _).alloc (Nat.le_refl _) _).alloc (by simp) _;have bx0:Box ((w.alloc (.cells #[.slice A n c] 32)).alloc (.cells #[.int .i64 0,.int .i64 0,.int .i64 0] 51)) w.heap.size (.slice A n c):=(Box.new w (.slice A n c) 32).alloc _;have HA0:Hid (RowF ((w.alloc (.cells #[.slice A n c] 32)).alloc (.cells #[.int .i64 0,.int .i64 0,.int .i64 0] 51)) (w.heap.size+1) 51 3 (ints [0,0,0])):=Lib.hid (by have h:=new3 (w.alloc (.cells #[.slice A n c] 32)) 0 0 0 51; rw [hz0] at h; exact h);have cx0:=bx0.1;have hw1:=h.after b0;have hw2:=hl.after b0;have HE1:=Lib.hid hE1;have HE2:=Lib.hid hE2;have HT1:=Lib.hid hT1;have HT2:=Lib.hid hT2;have HX0:=Lib.hid bx0;have HB0:=Lib.hid b0;clear hE1 hE2 hT1 hT2 h hl hz0 b0 bx0;go_enter Tryzx.func25,Tryz.ntmps25;go_wp2_with fail
 refine (iLst_any _ _ _ zs _ _ _ ls _ (by exact hw1) hn (by exact hw2) hq).mono ?_;rintro e w1 ⟨rfl,hb1⟩;rw [HE1.out];have hba:Below w1.heap.size w1 (w1.alloc (.cells #[.int .i64 p0,.int .i64 p1,.int .i64 p2,.int .i64 p3] 40)):=(Below.refl _ _).alloc (Nat.le_refl _) _;have HB1:=Lib.hid (below_then (below_then HB0.out hb1) hba);have HA1:=Lib.hid ((HA0.out.after hb1).after hba);have HX1:=Lib.hid ((HX0.out.after hb1).after hba);have HY1:Hid (Box4 (w1.alloc (.cells #[.int .i64 p0,.int .i64 p1,.int .i64 p2,.int .i64 p3] 40)) w1.heap.size p0 p1 p2 p3):=Lib.hid (Box4.new _ _ _ _ _ _);have hr1:=(hw1.after hb1).after hba;have hr2:=(hw2.after hb1).after hba;clear hb1 hba cx0 hw1 hw2 HA0 HX0 HB0;cases b1
 ·have HS:=Lib.hid (spnV_1 p0 p3 q0 q3 b2 pr)
  clear hr1 hr2;obtain ⟨⟨d0,d1,d2⟩,f0,f1,f2⟩:=row3 HA1.out;go_wp2;refine bodyPost_ret (v:=spnT 0 0 0 false) (by simp [spnT,results,Tryz.results25,go_sem, *]) rfl ⟨by rw [HS.out],?_⟩;exact below_set3 HB1.out (Nat.le_succ _) _ _ _
 have hp:=thrB_out (HT1.out rfl);obtain ⟨LO,hLO⟩:∃ LO,spLo p0 p3=LO:=⟨_,rfl⟩;have HLO:Hid (spLo p0 p3=LO):=hLO;have i1:IntKind.i64.wrap (p0+p3)=p0+p3:=IntWalk.i64_in _ (by omega);have i2:IntKind.i64.wrap (p0+p3 - 1)=p0+p3 - 1:=IntWalk.i64_in _ (by omega);have i3:IntKind.i64.wrap ((p0+p3 - 1).tdiv p3)=LO:=by rw [div_ok (by omega) (by omega) (by omega)]; exact hLO
 have g0:¬ p3=0:=by omega
 have g1:(p3 == -1)=false:=by simp; omega
 have pa:0≤p0∧p0≤1000000000000:=by omega
 have pb:1≤p3∧p3≤1000000:=by omega
 have cx1:=HX1.out.1;obtain ⟨⟨y0,y1,y2,y3⟩,_⟩:=HY1.out;clear hp;go_wp2_with fail
 refine (ceil_any p0 p3 _ pa pb).mono ?_;rw [hLO];rintro e wc ⟨rfl,nc,rfl⟩;clear hLO i1 i2 i3 y0 y1 y2 y3;have hbc:Below (w1.alloc (.cells #[.int .i64 p0,.int .i64 p1,.int .i64 p2,.int .i64 p3] 40)).heap.size (w1.alloc (.cells #[.int .i64 p0,.int .i64 p1,.int .i64 p2,.int .i64 p3] 40)) (((w1.alloc (.cells #[.int .i64 p0,.int .i64 p1,.int .i64 p2,.int .i64 p3] 40)).drewN nc).alloc (.cells #[.int .i64 LO,.int .i64 10000,.int .i64 pr] 51)):=(below_drewN (Below.refl _ _) nc).alloc (by simp) _;have HB2:=Lib.hid (below_then HB1.out hbc);have HA2:=Lib.hid (HA1.out.after hbc);have HX2:=Lib.hid (HX1.out.after hbc);have HS2:Hid (RowF (((w1.alloc (.cells #[.int .i64 p0,.int .i64 p1,.int .i64 p2,.int .i64 p3] 40)).drewN nc).alloc (.cells #[.int .i64 LO,.int .i64 10000,.int .i64 pr] 51)) (w1.heap.size+1) 51 3 (ints [LO,10000,pr])):=Lib.hid (by have h:=new3 ((w1.alloc (.cells #[.int .i64 p0,.int .i64 p1,.int .i64 p2,.int .i64 p3] 40)).drewN nc) LO 10000 pr 51; simpa using h)
 have hs1:=hr1.after hbc;have hs2:=hr2.after hbc;have cx2:=HX2.out.1;have hlt:w.heap.size+1<w1.heap.size+1:=by have:=HA1.out.lt; have:=HB1.out.size; simp at *; omega
 clear hbc HB1 HA1 HX1 hr1 hr2 cx1;go_wp2_with fail
 refine (iGrt_any _ _ _ zs _ _ _ ls _ (by exact hs1) hn (by exact hs2) hq).mono ?_;rintro e w2 ⟨rfl,hb2⟩;rw [HE2.out];have hbb:Below w2.heap.size w2 (w2.alloc (.cells #[.int .i64 q0,.int .i64 q1,.int .i64 q2,.int .i64 q3] 40)):=(Below.refl _ _).alloc (Nat.le_refl _) _;have HB3:=Lib.hid (below_then (below_then HB2.out hb2) hbb);have HA3:=Lib.hid ((HA2.out.after hb2).after hbb);have HS3:=Lib.hid ((HS2.out.after hb2).after hbb);have HZ3:Hid (Box4 (w2.alloc (.cells #[.int .i64 q0,.int .i64 q1,.int .i64 q2,.int .i64 q3] 40)) w2.heap.size q0 q1 q2 q3):=Lib.hid (Box4.new _ _ _ _ _ _);clear hb2 hbb cx2 hs1 hs2 HB2 HA2 HX2 HS2 g0 g1 pa pb;cases b2
 ·have hbn:Below (w2.alloc (.cells #[.int .i64 q0,.int .i64 q1,.int .i64 q2,.int .i64 q3] 40)).heap.size (w2.alloc (.cells #[.int .i64 q0,.int .i64 q1,.int .i64 q2,.int .i64 q3] 40)) ((w2.alloc (.cells #[.int .i64 q0,.int .i64 q1,.int .i64 q2,.int .i64 q3] 40)).alloc (.cells #[.int .i64 LO,.int .i64 10000,.int .i64 pr] 51)):=(Below.refl _ _).alloc (Nat.le_refl _) _
  have hrec:=recs3 (w2.alloc (.cells #[.int .i64 q0,.int .i64 q1,.int .i64 q2,.int .i64 q3] 40)) LO 10000 pr 51;have HA4:=Lib.hid (HA3.out.after hbn);have HB4:=Lib.hid (below_then HB3.out hbn);have HR4:=Lib.hid (HS3.out.after hbn);obtain ⟨⟨s0,s1,s2⟩,_⟩:=row3 HS3.out;simp only [World.size_alloc,World.size_setCell] at hrec;go_wp2_with fail
  refine (iSpansOk_any _ 1 _ [LO,10000,pr] _ (by first | exact hrec | simpa using hrec) (by omega)).mono ?_;cases hsp:spansB [LO,10000,pr] 1
  ·have HS:Hid (spnV p0 p3 q0 q3 true false pr=spnT 0 0 0 false):=Lib.hid (spnV_f (by rw [HLO.out]; exact hsp))
   rintro e w5 ⟨rfl,hb5⟩;have HA5:=Lib.hid (HA4.out.after hb5);have HB5:=Lib.hid (below_then HB4.out hb5);clear hb5 hbn hrec s0 s1 s2;obtain ⟨⟨d0,d1,d2⟩,f0,f1,f2⟩:=row3 HA5.out;go_wp2;refine bodyPost_ret (v:=spnT 0 0 0 false) (by simp [spnT,results,Tryz.results25,go_sem, *]) rfl ⟨by rw [HS.out],?_⟩;exact below_set3 HB5.out (Nat.le_succ _) _ _ _
  ·have HS:Hid (spnV p0 p3 q0 q3 true false pr=spnT LO 10000 pr true):=Lib.hid (by rw [spnV_t (by rw [HLO.out]; exact hsp),HLO.out]; rfl)
   rintro e w5 ⟨rfl,hb5⟩;have HA5:=Lib.hid (HA4.out.after hb5);have HB5:=Lib.hid (below_then HB4.out hb5);obtain ⟨⟨r0,r1,r2⟩,_⟩:=row3 (HR4.out.after hb5);clear hb5 hbn hrec s0 s1 s2;obtain ⟨⟨d0,d1,d2⟩,f0,f1,f2⟩:=row3 HA5.out;go_wp2;refine bodyPost_ret (v:=spnT LO 10000 pr true) (by simp [spnT,results,Tryz.results25,go_sem, *]) rfl ⟨by rw [HS.out],?_⟩;exact below_set3 HB5.out (Nat.le_succ _) _ _ _
 ·have hp:=thrB_out (HT2.out rfl)
  obtain ⟨HI,hHI⟩:∃ HI,q0.tdiv q3=HI:=⟨_,rfl⟩;have HHI:Hid (spHi q0 q3 true=HI):=Lib.hid (by unfold spHi; rw [if_pos rfl]; exact hHI);have i4:IntKind.i64.wrap (q0.tdiv q3)=HI:=by rw [div_ok (by omega) (by omega) (by omega)]; exact hHI
  have g0:¬ q3=0:=by omega
  have g1:(q3 == -1)=false:=by simp; omega
  obtain ⟨⟨z0,z1,z2,z3⟩,_⟩:=HZ3.out;obtain ⟨⟨t0,t1,t2⟩,e0,e1,e2⟩:=row3 HS3.out;have HB3':Hid (Below w.heap.size w ((w2.alloc (.cells #[.int .i64 q0,.int .i64 q1,.int .i64 q2,.int .i64 q3] 40)).setCell ⟨w1.heap.size+1,1,none⟩ (.int .i64 HI))):=Lib.hid (HB3.out.setCell (p:=⟨w1.heap.size+1,1,none⟩) (by simp; omega) _)
  have HA3':Hid (RowF ((w2.alloc (.cells #[.int .i64 q0,.int .i64 q1,.int .i64 q2,.int .i64 q3] 40)).setCell ⟨w1.heap.size+1,1,none⟩ (.int .i64 HI)) (w.heap.size+1) 51 3 (ints [0,0,0])):=Lib.hid (HA3.out.set_other (p:=⟨w1.heap.size+1,1,none⟩) (by simp; omega) _)
  have HS3':Hid (RowF ((w2.alloc (.cells #[.int .i64 q0,.int .i64 q1,.int .i64 q2,.int .i64 q3] 40)).setCell ⟨w1.heap.size+1,1,none⟩ (.int .i64 HI)) (w1.heap.size+1) 51 3 (ints [LO,HI,pr])):=Lib.hid ((HS3.out.set 1 (.int .i64 HI)).congr (f':=ints [LO,HI,pr]) (fun i hi=>by match i,hi with | 0,_=>rfl | 1,_=>rfl | 2,_=>rfl));clear hp hHI;have hbn:Below ((w2.alloc (.cells #[.int .i64 q0,.int .i64 q1,.int .i64 q2,.int .i64 q3] 40)).setCell ⟨w1.heap.size+1,1,none⟩ (.int .i64 HI)).heap.size ((w2.alloc (.cells #[.int .i64 q0,.int .i64 q1,.int .i64 q2,.int .i64 q3] 40)).setCell ⟨w1.heap.size+1,1,none⟩ (.int .i64 HI)) (((w2.alloc (.cells #[.int .i64 q0,.int .i64 q1,.int .i64 q2,.int .i64 q3] 40)).setCell ⟨w1.heap.size+1,1,none⟩ (.int .i64 HI)).alloc (.cells #[.int .i64 LO,.int .i64 HI,.int .i64 pr] 51)):=(Below.refl _ _).alloc (Nat.le_refl _) _;have hrec:=recs3 ((w2.alloc (.cells #[.int .i64 q0,.int .i64 q1,.int .i64 q2,.int .i64 q3] 40)).setCell ⟨w1.heap.size+1,1,none⟩ (.int .i64 HI)) LO HI pr 51;have HA4:=Lib.hid (HA3'.out.after hbn);have HB4:=Lib.hid (below_then HB3'.out hbn);have HR4:=Lib.hid (HS3'.out.after hbn);obtain ⟨⟨s0,s1,s2⟩,_⟩:=row3 HS3'.out;simp only [World.size_alloc,World.size_setCell] at hrec;go_wp2_with fail
  refine (iSpansOk_any _ 1 _ [LO,HI,pr] _ (by first | exact hrec | simpa using hrec) (by omega)).mono ?_;cases hsp:spansB [LO,HI,pr] 1
  ·have HS:Hid (spnV p0 p3 q0 q3 true true pr=spnT 0 0 0 false):=Lib.hid (spnV_f (by rw [HLO.out,HHI.out]; exact hsp))
   rintro e w5 ⟨rfl,hb5⟩;have HA5:=Lib.hid (HA4.out.after hb5);have HB5:=Lib.hid (below_then HB4.out hb5);clear hb5 hbn hrec s0 s1 s2;obtain ⟨⟨d0,d1,d2⟩,f0,f1,f2⟩:=row3 HA5.out;go_wp2;refine bodyPost_ret (v:=spnT 0 0 0 false) (by simp [spnT,results,Tryz.results25,go_sem, *]) rfl ⟨by rw [HS.out],?_⟩;exact below_set3 HB5.out (Nat.le_succ _) _ _ _
  ·have HS:Hid (spnV p0 p3 q0 q3 true true pr=spnT LO HI pr true):=Lib.hid (by rw [spnV_t (by rw [HLO.out,HHI.out]; exact hsp),HLO.out,HHI.out])
   rintro e w5 ⟨rfl,hb5⟩;have HA5:=Lib.hid (HA4.out.after hb5);have HB5:=Lib.hid (below_then HB4.out hb5);obtain ⟨⟨r0,r1,r2⟩,_⟩:=row3 (HR4.out.after hb5);clear hb5 hbn hrec s0 s1 s2;obtain ⟨⟨d0,d1,d2⟩,f0,f1,f2⟩:=row3 HA5.out;go_wp2;refine bodyPost_ret (v:=spnT LO HI pr true) (by simp [spnT,results,Tryz.results25,go_sem, *]) rfl ⟨by rw [HS.out],?_⟩;exact below_set3 HB5.out (Nat.le_succ _) _ _ _
end
end X
namespace X
open Go.RowKit
set_option maxHeartbeats 800000 in
theorem eqSpan_same (x0 x1 x2:Int) (w:World):Calls Tryzx.prog 26 #[.agg #[.int .i64 x0,.int .i64 x1,.int .i64 x2],.agg #[.int .i64 x0,.int .i64 x1,.int .i64 x2]] w fun e w'=>e = .returned (.bool true)∧Below w.heap.size w w':=by
 have t0:(x0 != x0)=false:=by simp
 have t1:(x1 != x1)=false:=by simp
 have t2:(x2 != x2)=false:=by simp
 go_enter Tryzx.func26,Tryz.ntmps26;go_wp2;go_ret;exact ⟨rfl,((Below.refl _ _).alloc (Nat.le_refl _) _).alloc (by simp) _⟩
end X
namespace X
open Go.RowKit
def Box3 (w:World) (b:Nat) (x y z:Int):Prop:=(w.cell? ⟨b,0,none⟩=some (.int .i64 x)∧w.cell? ⟨b,1,none⟩=some (.int .i64 y)∧w.cell? ⟨b,2,none⟩=some (.int .i64 z))∧b<w.heap.size
theorem Box3.after {w w1:World} {b:Nat} {x y z:Int} (h:Box3 w b x y z) (hb:Below w.heap.size w w1):Box3 w1 b x y z :=
 ⟨⟨(hb.cell (p:=⟨b,0,none⟩) h.2).trans h.1.1,(hb.cell (p:=⟨b,1,none⟩) h.2).trans h.1.2.1,(hb.cell (p:=⟨b,2,none⟩) h.2).trans h.1.2.2⟩,Nat.lt_of_lt_of_le h.2 hb.size⟩
theorem Box3.new (w:World) (x y z:Int) (t:TypeId):Box3 (w.alloc (.cells #[.int .i64 x,.int .i64 y,.int .i64 z] t)) w.heap.size x y z:=by
 have h:=World.rowIs_alloc w #[.int .i64 x,.int .i64 y,.int .i64 z] t (ints [x,y,z]) (fun j hj=>by simp at hj; match j,hj with | 0,_=>rfl | 1,_=>rfl | 2,_=>rfl)
 exact ⟨⟨h.cell (by simp),h.cell (by simp),h.cell (by simp)⟩,by simp⟩
end X
namespace X
open Go.RowKit
set_option maxRecDepth 100000 in
set_option maxHeartbeats 1600000 in
theorem fnExactSpanOfArch.walk (A0:Option Addr) (n0 c0:Nat) (z0:List Int) (hm0:n0≤maxLen) (A1:Option Addr) (n1 c1:Nat) (z1:List Int) (hm1:n1≤maxLen) (q2:Int) (hq2 : -9223372036854775808≤q2) (hq2':q2≤9223372036854775807) (w:World) (a0_:RecsAt w w.heap.size 4 A0 n0 z0) (a1_:RecsAt w w.heap.size 3 A1 n1 z1) :
  Calls Tryzx.prog 6 #[.agg #[.slice A0 n0 c0],.slice A1 n1 c1,.int .i64 q2] w fun e w'=>e = .returned (.bool true)∧Below w.heap.size w w':=by
 have hm0':n0≤9223372036854775807:=by unfold maxLen at hm0; omega
 have hm1':n1≤9223372036854775807:=by unfold maxLen at hm1; omega
 obtain ⟨u0,u1,u2,u3,b1,hE1,hT1⟩:=end_thr (lstB z0 n0 z1 n1) (-1) z0 n0 z1 n1 lst_pos;obtain ⟨v0,v1,v2,v3,b2,hE2,hT2⟩:=end_thr (grtB z0 n0 z1 n1) 1 z0 n0 z1 n1 grt_pos;obtain ⟨tq0,tq1,tq2,bb,hE⟩:=spnV_ex u0 u3 v0 v3 b1 b2 q2;have hbb:(bb != bb)=false:=by cases bb <;> rfl
 have b:Below w.heap.size w w:=Below.refl _ _;have a0:=a0_;have a1:=a1_;have hb_1:Below w.heap.size w (w.alloc (.cells #[.slice A0 n0 c0] 24)):=(Below.refl _ _).alloc (Nat.le_refl _) _;replace b:=below_then b hb_1
 replace a0:=a0.after hb_1
 replace a1:=a1.after hb_1
 clear hb_1;have bx0:Box (w.alloc (.cells #[.slice A0 n0 c0] 24)) w.heap.size (.slice A0 n0 c0):=Box.new _ _ _;go_enter Tryzx.func6,Tryz.ntmps6;go_wp2_with fail
 refine (sz1_any (n:=n0) (by omega) (fun h=>szArch_ok A0 n0 c0 _ _ (by omega) (by omega) hm0' h) (fun h=>szArch_no A0 n0 c0 _ _ (by omega) (by omega) hm0' h)).mono ?_;rintro e w2 ⟨r2,rfl,hb_2,hr2⟩;replace b:=below_then b hb_2
 replace a0:=a0.after hb_2
 replace a1:=a1.after hb_2
 replace bx0:=bx0.after hb_2
 have cbx0:=bx0.1;clear hb_2;rcases hr2 with rfl | hr2
 ·go_wp2
  go_ret;exact ⟨rfl,b⟩
 obtain ⟨hr2a,hr2b,hr2c⟩:=hr2;have hn0:n0≤1048576:=by omega
 have ht0:¬ r2<0:=by omega
 go_wp2_with fail
 refine (sz1_any (n:=n1) (by omega) (fun h=>calls_below (szLoadS_ok A1 n1 c1 _ _ (by omega) (by omega) hm1' h)) (fun h=>calls_below (szLoadS_no A1 n1 c1 _ _ (by omega) (by omega) hm1' h))).mono ?_;rintro e w3 ⟨r3,rfl,hb_3,hr3⟩;replace b:=below_then b hb_3
 replace a0:=a0.after hb_3
 replace a1:=a1.after hb_3
 replace bx0:=bx0.after hb_3
 replace cbx0:=bx0.1
 clear hb_3;rcases hr3 with rfl | hr3
 ·go_wp2
  go_ret;exact ⟨rfl,b⟩
 obtain ⟨hr3a,hr3b,hr3c⟩:=hr3;have hn1:n1≤1048576:=by omega
 have ht1:¬ r3<0:=by omega
 go_wp2_with fail
 refine (toArch_any A0 n0 c0 z0 _ a0 hn0).mono ?_;rintro e w4 ⟨g4,rfl,_,r_4,hb_4⟩;replace b:=below_then b hb_4
 replace a0:=a0.after hb_4
 replace a1:=a1.after hb_4
 replace bx0:=bx0.after hb_4
 replace cbx0:=bx0.1
 have s0:=recsAt_row r_4 a0_.1 (fun k _=>rfl);clear r_4 hb_4;go_wp2_with fail
 refine (toLoadS_ex A1 n1 c1 z1 _ a1 hn1).mono ?_;rintro e w5 ⟨g5,rfl,_,r_5,hb_5⟩;replace b:=below_then b hb_5
 replace a0:=a0.after hb_5
 replace a1:=a1.after hb_5
 replace bx0:=bx0.after hb_5
 replace s0:=s0.after hb_5
 replace cbx0:=bx0.1
 have s1:=recsAt_row r_5 a1_.1 (fun k _=>rfl);clear r_5 hb_5;go_wp2_with fail
 refine ((sSpan_any _ _ _ z0 _ _ _ z1 q2 _ (by exact s0) hn0 (by exact s1) hn1 u0 u1 u2 u3 v0 v1 v2 v3 b1 b2 hE1 hE2 hT1 hT2).mono fun e w h=>sprV_at hE h).mono ?_;rintro e w6 ⟨rfl,hb_6⟩;replace b:=below_then b hb_6
 replace a0:=a0.after hb_6
 replace a1:=a1.after hb_6
 replace bx0:=bx0.after hb_6
 replace s0:=s0.after hb_6
 replace s1:=s1.after hb_6
 replace cbx0:=bx0.1
 clear hb_6;have hb_7:Below w6.heap.size w6 (w6.alloc (.cells #[.int .i64 tq0,.int .i64 tq1,.int .i64 tq2] 51)):=(Below.refl _ _).alloc (Nat.le_refl _) _;replace b:=below_then b hb_7
 replace a0:=a0.after hb_7
 replace a1:=a1.after hb_7
 replace bx0:=bx0.after hb_7
 replace s0:=s0.after hb_7
 replace s1:=s1.after hb_7
 replace cbx0:=bx0.1
 clear hb_7;have bw:Box3 (w6.alloc (.cells #[.int .i64 tq0,.int .i64 tq1,.int .i64 tq2] 51)) w6.heap.size tq0 tq1 tq2:=Box3.new _ _ _ _ _;have c0bw:=bw.1.1;have c1bw:=bw.1.2.1;have c2bw:=bw.1.2.2;clear s0;clear s1;go_wp2_with fail
 refine (toArch_any A0 n0 c0 z0 _ a0 hn0).mono ?_;rintro e w8 ⟨g8,rfl,_,r_8,hb_8⟩;replace b:=below_then b hb_8
 replace a0:=a0.after hb_8
 replace a1:=a1.after hb_8
 replace bx0:=bx0.after hb_8
 replace bw:=bw.after hb_8
 replace cbx0:=bx0.1
 replace cbw:=bw.1
 have c0bw:=bw.1.1;have c1bw:=bw.1.2.1;have c2bw:=bw.1.2.2;clear c0bw;clear c1bw;clear c2bw;have s0:=recsAt_row r_8 a0_.1 (fun k _=>rfl);clear r_8 hb_8;have hb_9:Below w8.heap.size w8 (w8.alloc (.cells #[.slice (some ⟨g8,0,none⟩) n0 n0] 32)):=(Below.refl _ _).alloc (Nat.le_refl _) _;replace b:=below_then b hb_9
 replace a0:=a0.after hb_9
 replace a1:=a1.after hb_9
 replace bx0:=bx0.after hb_9
 replace bw:=bw.after hb_9
 replace s0:=s0.after hb_9
 replace cbx0:=bx0.1
 replace cbw:=bw.1
 have c0bw:=bw.1.1;have c1bw:=bw.1.2.1;have c2bw:=bw.1.2.2;clear c0bw;clear c1bw;clear c2bw;clear hb_9;have by0:Box (w8.alloc (.cells #[.slice (some ⟨g8,0,none⟩) n0 n0] 32)) w8.heap.size (.slice (some ⟨g8,0,none⟩) n0 n0):=Box.new _ _ _;have cby0:=by0.1;go_wp2_with fail
 refine (toLoadS_ex A1 n1 c1 z1 _ a1 hn1).mono ?_;rintro e w10 ⟨g10,rfl,_,r_10,hb_10⟩;replace b:=below_then b hb_10
 replace a0:=a0.after hb_10
 replace a1:=a1.after hb_10
 replace bx0:=bx0.after hb_10
 replace bw:=bw.after hb_10
 replace s0:=s0.after hb_10
 replace by0:=by0.after hb_10
 replace cbx0:=bx0.1
 replace cbw:=bw.1
 have c0bw:=bw.1.1;have c1bw:=bw.1.2.1;have c2bw:=bw.1.2.2;clear c0bw;clear c1bw;clear c2bw;replace cby0:=by0.1
 have s1:=recsAt_row r_10 a1_.1 (fun k _=>rfl);clear r_10 hb_10;go_wp2_with fail
 refine ((iSpan_any _ _ _ z0 _ _ _ z1 q2 _ (by exact s0) hn0 (by exact s1) hn1 u0 u1 u2 u3 v0 v1 v2 v3 b1 b2 hE1 hE2 hT1 hT2).mono fun e w h=>sprV_at hE h).mono ?_;rintro e w11 ⟨rfl,hb_11⟩;replace b:=below_then b hb_11
 replace a0:=a0.after hb_11
 replace a1:=a1.after hb_11
 replace bx0:=bx0.after hb_11
 replace bw:=bw.after hb_11
 replace s0:=s0.after hb_11
 replace by0:=by0.after hb_11
 replace s1:=s1.after hb_11
 replace cbx0:=bx0.1
 replace cbw:=bw.1
 have c0bw:=bw.1.1;have c1bw:=bw.1.2.1;have c2bw:=bw.1.2.2;clear c0bw;clear c1bw;clear c2bw;replace cby0:=by0.1
 clear hb_11;have hb_12:Below w11.heap.size w11 (w11.alloc (.cells #[.int .i64 tq0,.int .i64 tq1,.int .i64 tq2] 51)):=(Below.refl _ _).alloc (Nat.le_refl _) _;replace b:=below_then b hb_12
 replace a0:=a0.after hb_12
 replace a1:=a1.after hb_12
 replace bx0:=bx0.after hb_12
 replace bw:=bw.after hb_12
 replace s0:=s0.after hb_12
 replace by0:=by0.after hb_12
 replace s1:=s1.after hb_12
 replace cbx0:=bx0.1
 replace cbw:=bw.1
 have c0bw:=bw.1.1;have c1bw:=bw.1.2.1;have c2bw:=bw.1.2.2;clear c0bw;clear c1bw;clear c2bw;replace cby0:=by0.1
 clear hb_12;have bg:Box3 (w11.alloc (.cells #[.int .i64 tq0,.int .i64 tq1,.int .i64 tq2] 51)) w11.heap.size tq0 tq1 tq2:=Box3.new _ _ _ _ _;have c0bg:=bg.1.1;have c1bg:=bg.1.2.1;have c2bg:=bg.1.2.2;go_wp2_with fail
 refine (eqSpan_same tq0 tq1 tq2 _).mono ?_;rintro e w13 ⟨rfl,hb_13⟩;replace b:=below_then b hb_13
 replace a0:=a0.after hb_13
 replace a1:=a1.after hb_13
 replace bx0:=bx0.after hb_13
 replace bw:=bw.after hb_13
 replace s0:=s0.after hb_13
 replace by0:=by0.after hb_13
 replace s1:=s1.after hb_13
 replace bg:=bg.after hb_13
 replace cbx0:=bx0.1
 replace cbw:=bw.1
 have c0bw:=bw.1.1;have c1bw:=bw.1.2.1;have c2bw:=bw.1.2.2;clear c0bw;clear c1bw;clear c2bw;replace cby0:=by0.1
 replace cbg:=bg.1
 have c0bg:=bg.1.1;have c1bg:=bg.1.2.1;have c2bg:=bg.1.2.2;clear c0bg;clear c1bg;clear c2bg;clear hb_13;clear c0bw;clear c1bw;clear c2bw;clear bw;clear c0bg;clear c1bg;clear c2bg;clear bg;go_wp2_with fail
 go_region_held3 (fun w'=>w'.cell? ⟨w8.heap.size,0,none⟩=some (.slice (some ⟨g8,0,none⟩) n0 n0)∧w'.cell? ⟨w.heap.size,0,none⟩=some (.slice A0 n0 c0)) (first | exact ⟨cby0,cbx0⟩ | exact ⟨dy0_1,dx0_1⟩ | exact ⟨dy0_2,dx0_2⟩) ((first | (go_at_call 12; refine (toArch_any A0 n0 c0 z0 _ (by exact a0) hn0).mono ?_; rintro e w14 ⟨g14,rfl,_,r_14,hbx14⟩; have hb_14:=below_undrew hbx14; have e0_1:=s0.after hb_14; have v0_1:=recsAt_row r_14 a0_.1 (fun k _=>rfl); have dy0_1:=(by0.after hb_14).1; have dx0_1:=(bx0.after hb_14).1) | (go_at_call 15; refine (eqArch_same _ _ _ _ _ z0 _ (by exact e0_1) (by exact v0_1) hn0).mono ?_; rintro e w15 ⟨rfl,hb_15⟩; have dy0_2:=((by0.after hb_14).after hb_15).1; have dx0_2:=((bx0.after hb_14).after hb_15).1)));replace b:=below_then b hb_14
 replace a0:=a0.after hb_14
 replace a1:=a1.after hb_14
 replace bx0:=bx0.after hb_14
 replace s0:=s0.after hb_14
 replace by0:=by0.after hb_14
 replace s1:=s1.after hb_14
 replace cbx0:=bx0.1
 replace cby0:=by0.1
 replace b:=below_then b hb_15
 replace a0:=a0.after hb_15
 replace a1:=a1.after hb_15
 replace bx0:=bx0.after hb_15
 replace s0:=s0.after hb_15
 replace by0:=by0.after hb_15
 replace s1:=s1.after hb_15
 replace cbx0:=bx0.1
 replace cby0:=by0.1
 clear hb_14 hb_15;go_wp2_with fail
 refine (toLoadS_ex A1 n1 c1 z1 _ a1 hn1).mono ?_;rintro e w16 ⟨g16,rfl,_,r_16,hb_16⟩;replace b:=below_then b hb_16
 replace a0:=a0.after hb_16
 replace a1:=a1.after hb_16
 replace bx0:=bx0.after hb_16
 replace s0:=s0.after hb_16
 replace by0:=by0.after hb_16
 replace s1:=s1.after hb_16
 replace cbx0:=bx0.1
 replace cby0:=by0.1
 have t1:=recsAt_row r_16 a1_.1 (fun k _=>rfl);clear r_16 hb_16;go_wp2_with fail
 refine (eqLoadS_same _ _ _ _ _ z1 _ s1 t1 hn1).mono ?_;rintro e w17 ⟨rfl,hb_17⟩;replace b:=below_then b hb_17
 replace a0:=a0.after hb_17
 replace a1:=a1.after hb_17
 replace bx0:=bx0.after hb_17
 replace s0:=s0.after hb_17
 replace by0:=by0.after hb_17
 replace s1:=s1.after hb_17
 replace t1:=t1.after hb_17
 replace cbx0:=bx0.1
 replace cby0:=by0.1
 clear hb_17;go_wp2;go_ret;exact ⟨rfl,b⟩
end X
end Go.Proofs.YtodneggnnipcnaaGreat
