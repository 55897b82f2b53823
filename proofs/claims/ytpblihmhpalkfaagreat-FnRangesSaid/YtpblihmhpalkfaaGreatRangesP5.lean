/-
  Texts that the law stands on, part 5.
-/
import Derived.Test.YtpblihmhpalkfaaGreatRangesP2
import Derived.Test.YtpblihmhpalkfaaGreatRangesP4
import Derived.Test.YtpblihmhpalkfaaGreatJ17
set_option maxRecDepth 100000
set_option linter.unusedVariables false
set_option linter.unusedSimpArgs false
namespace Go.Proofs.YtpblihmhpalkfaaGreat
namespace X
open Go.RowKit
def sprG (p0 p3 q0 q3:Int):Int:=((Nat.gcd (q0*p3 - p0*q3).natAbs (q3*p3).natAbs:Nat):Int)
def sprOk (p3 q3:Int) (b1 b2:Bool):Bool:=b1 && (b2 && (decide (p3≤10000) && decide (q3≤10000)))
def sprV (p0 p3 q0 q3:Int) (b1 b2:Bool):Value:=if sprOk p3 q3 b1 b2=true then .tuple #[.int .i64 ((q0*p3 - p0*q3).tdiv (sprG p0 p3 q0 q3)),.int .i64 ((q3*p3).tdiv (sprG p0 p3 q0 q3)),.bool true] else .tuple #[.int .i64 0,.int .i64 0,.bool false]
theorem sprV_1 (p0 p3 q0 q3:Int) (b2:Bool):sprV p0 p3 q0 q3 false b2 = .tuple #[.int .i64 0,.int .i64 0,.bool false]:=by simp [sprV,sprOk]
theorem sprV_2 (p0 p3 q0 q3:Int) (b1:Bool):sprV p0 p3 q0 q3 b1 false = .tuple #[.int .i64 0,.int .i64 0,.bool false]:=by simp [sprV,sprOk]
theorem sprV_3 (p0:Int) {p3:Int} (q0 q3:Int) (b1 b2:Bool) (h:10000<p3):sprV p0 p3 q0 q3 b1 b2 = .tuple #[.int .i64 0,.int .i64 0,.bool false]:=by simp [sprV,sprOk,show ¬ p3≤10000 by omega]
theorem sprV_4 (p0 p3 q0:Int) {q3:Int} (b1 b2:Bool) (h:10000<q3):sprV p0 p3 q0 q3 b1 b2 = .tuple #[.int .i64 0,.int .i64 0,.bool false]:=by simp [sprV,sprOk,show ¬ q3≤10000 by omega]
theorem sprV_t {p3 q3:Int} (p0 q0:Int) (h1:¬ 10000<p3) (h2:¬ 10000<q3):sprV p0 p3 q0 q3 true true = .tuple #[.int .i64 ((q0*p3 - p0*q3).tdiv (sprG p0 p3 q0 q3)),.int .i64 ((q3*p3).tdiv (sprG p0 p3 q0 q3)),.bool true]:=by simp [sprV,sprOk,show p3≤10000 by omega,show q3≤10000 by omega]
structure SprB (p0 p3 q0 q3:Int):Prop where
 a:IntKind.i64.wrap (q0*p3)=q0*p3
 b:IntKind.i64.wrap (p0*q3)=p0*q3
 c:IntKind.i64.wrap (q3*p3)=q3*p3
 c':IntKind.i64.wrap (p3*q3)=q3*p3
 s:IntKind.i64.wrap (q0*p3 - p0*q3)=q0*p3 - p0*q3
 n:okG (q0*p3 - p0*q3)
 d:okG (q3*p3)
 g:1≤sprG p0 p3 q0 q3
 u:IntKind.i64.wrap ((q0*p3 - p0*q3).tdiv (sprG p0 p3 q0 q3))=(q0*p3 - p0*q3).tdiv (sprG p0 p3 q0 q3)
 v:IntKind.i64.wrap ((q3*p3).tdiv (sprG p0 p3 q0 q3))=(q3*p3).tdiv (sprG p0 p3 q0 q3)
theorem spr_b {p0 p1 p2 p3 q0 q1 q2 q3:Int} (hp:thrB p0 p1 p2 p3=true) (hq:thrB q0 q1 q2 q3=true) (h1:¬ 10000<p3) (h2:¬ 10000<q3):SprB p0 p3 q0 q3:=by
 have a:=thrB_out hp;have b:=thrB_out hq;have m1:=mul_bd (m:=1000000000000) (n:=10000) (a:=q0) (b:=p3) (by omega) (by omega);have m2:=mul_bd (m:=1000000000000) (n:=10000) (a:=p0) (b:=q3) (by omega) (by omega);have m3:=mul_bd (m:=10000) (n:=10000) (a:=q3) (b:=p3) (by omega) (by omega);have hpos:0<q3*p3:=Int.mul_pos (by omega) (by omega);have hn:okG (q0*p3 - p0*q3):=by unfold okG; omega
 have hd:okG (q3*p3):=by unfold okG; omega
 have hg:1≤sprG p0 p3 q0 q3:=by
  have:0<Nat.gcd (q0*p3 - p0*q3).natAbs (q3*p3).natAbs:=Nat.gcd_pos_of_pos_right _ (by omega);unfold sprG; omega
 exact ⟨IntWalk.i64_in _ (by omega),IntWalk.i64_in _ (by omega),IntWalk.i64_in _ (by omega),by rw [Int.mul_comm p3 q3]; exact IntWalk.i64_in _ (by omega),IntWalk.i64_in _ (by omega),hn,hd,hg,spdiv_bd hn hg,spdiv_bd hd hg⟩
theorem ints2 (w:World) (a b:Int) (T:TypeId) (g:Nat) (hg:w.heap.size=g):IntsAt (w.alloc (.cells #[.int .i64 a,.int .i64 b] T)) (w.alloc (.cells #[.int .i64 a,.int .i64 b] T)).heap.size (some ⟨g,0,none⟩) 2 [a,b]:=by
 subst hg;exact intsAt_row (World.rowIs_alloc w #[.int .i64 a,.int .i64 b] T (ints [a,b]) (fun j hj=>by simp at hj; match j,hj with | 0,_=>rfl | 1,_=>rfl)) (zs := [a,b]) rfl (fun k _=>rfl)
theorem okG_two {a b:Int} (ha:okG a) (hb:okG b):∀ k,okG (nth [a,b] k)
 | 0=>ha
 | 1=>hb
 | k+2=>by unfold okG; simp [nth]
section
variable (A : Option Addr) (n c : Nat) (zs : List Int) (B : Option Addr) (q d : Nat) (ls : List Int) (w : World) (h : RecsAt w w.heap.size 4 A n zs) (hn : n ≤ 1048576) (hl : RecsAt w w.heap.size 3 B q ls) (hq : q ≤ 1048576)
variable (p0 p1 p2 p3 q0 q1 q2 q3 : Int) (b1 b2 : Bool) (hE1 : endV (lstB zs n ls q) (-1) (thrL zs n ls q) (thrN zs n ls q) = .tuple #[.agg #[.int .i64 p0, .int .i64 p1, .int .i64 p2, .int .i64 p3], .bool b1]) (hE2 : endV (grtB zs n ls q) 1 (thrL zs n ls q) (thrN zs n ls q) = .tuple #[.agg #[.int .i64 q0, .int .i64 q1, .int .i64 q2, .int .i64 q3], .bool b2]) (hT1 : b1 = true → thrB p0 p1 p2 p3 = true) (hT2 : b2 = true → thrB q0 q1 q2 q3 = true)
include h hn hl hq hE1 hE2 hT1 hT2
set_option maxRecDepth 100000 in
set_option maxHeartbeats 3200000 in
theorem iSpread_any:Calls Tryzx.prog 16 #[.agg #[.slice A n c],.slice B q d] w fun e w'=>e = .returned (sprV p0 p3 q0 q3 b1 b2)∧Below w.heap.size w w':=by
 have b0:Below w.heap.size w (w.alloc (.cells #[.slice A n c] 26)):=(Below.refl _ _).alloc (Nat.le_refl _) _;have bx0:Box (w.alloc (.cells #[.slice A n c] 26)) w.heap.size (.slice A n c):=Box.new _ _ _;have cx0:=bx0.1;have hw1:=h.after b0;have hw2:=hl.after b0;have HE1:=Lib.hid hE1;have HE2:=Lib.hid hE2;have HT1:=Lib.hid hT1;have HT2:=Lib.hid hT2;clear hE1 hE2 hT1 hT2 h hl;go_enter Tryzx.func16,Tryz.ntmps16;go_wp2_with fail
 refine (iLst_any _ _ _ zs _ _ _ ls _ (by exact hw1) hn (by exact hw2) hq).mono ?_;rintro e w1 ⟨rfl,hb1⟩;rw [HE1.out];have hba:Below w1.heap.size w1 (w1.alloc (.cells #[.int .i64 p0,.int .i64 p1,.int .i64 p2,.int .i64 p3] 31)):=(Below.refl _ _).alloc (Nat.le_refl _) _;have HB1:=Lib.hid (below_then (below_then b0 hb1) hba);have HX1:=Lib.hid ((bx0.after hb1).after hba);have HY1:Hid (Box4 (w1.alloc (.cells #[.int .i64 p0,.int .i64 p1,.int .i64 p2,.int .i64 p3] 31)) w1.heap.size p0 p1 p2 p3):=Lib.hid (Box4.new _ _ _ _ _ _);have hr1:=(hw1.after hb1).after hba;have hr2:=(hw2.after hb1).after hba;have cx1:=HX1.out.1;clear hb1 hba cx0 hw1 hw2 b0 bx0;go_wp2_with fail
 refine (iGrt_any _ _ _ zs _ _ _ ls _ (by exact hr1) hn (by exact hr2) hq).mono ?_;rintro e w2 ⟨rfl,hb2⟩;rw [HE2.out];have hbb:Below w2.heap.size w2 (w2.alloc (.cells #[.int .i64 q0,.int .i64 q1,.int .i64 q2,.int .i64 q3] 31)):=(Below.refl _ _).alloc (Nat.le_refl _) _;have HB2:=Lib.hid (below_then (below_then HB1.out hb2) hbb);have HY2:=Lib.hid ((HY1.out.after hb2).after hbb);have HZ2:Hid (Box4 (w2.alloc (.cells #[.int .i64 q0,.int .i64 q1,.int .i64 q2,.int .i64 q3] 31)) w2.heap.size q0 q1 q2 q3):=Lib.hid (Box4.new _ _ _ _ _ _);obtain ⟨⟨y0,y1,y2,y3⟩,_⟩:=HY2.out;obtain ⟨⟨z0,z1,z2,z3⟩,_⟩:=HZ2.out;clear hb2 hbb cx1 hr1 hr2;cases b1
 ·have HS:=Lib.hid (sprV_1 p0 p3 q0 q3 b2)
  go_wp2;refine bodyPost_ret (v := .tuple #[.int .i64 0,.int .i64 0,.bool false]) (by simp [results,Tryz.results16,go_sem, *]) rfl ⟨by first | rfl | (rw [HS.out]; done) | (rw [HS.out]; rfl),HB2.out⟩
 cases b2
 ·have HS:=Lib.hid (sprV_2 p0 p3 q0 q3 true)
  go_wp2;refine bodyPost_ret (v := .tuple #[.int .i64 0,.int .i64 0,.bool false]) (by simp [results,Tryz.results16,go_sem, *]) rfl ⟨by first | rfl | (rw [HS.out]; done) | (rw [HS.out]; rfl),HB2.out⟩
 by_cases h1:10000<p3
 ·have HS:=Lib.hid (sprV_3 p0 q0 q3 true true h1)
  have g1:p3 > 10000:=h1;go_wp2;refine bodyPost_ret (v := .tuple #[.int .i64 0,.int .i64 0,.bool false]) (by simp [results,Tryz.results16,go_sem, *]) rfl ⟨by first | rfl | (rw [HS.out]; done) | (rw [HS.out]; rfl),HB2.out⟩
 have g1:¬ p3 > 10000:=h1;by_cases h2:10000<q3
 ·have HS:=Lib.hid (sprV_4 p0 p3 q0 true true h2)
  have g2:q3 > 10000:=h2;go_wp2;refine bodyPost_ret (v := .tuple #[.int .i64 0,.int .i64 0,.bool false]) (by simp [results,Tryz.results16,go_sem, *]) rfl ⟨by first | rfl | (rw [HS.out]; done) | (rw [HS.out]; rfl),HB2.out⟩
 have g2:¬ q3 > 10000:=h2;have HS:=Lib.hid (sprV_t p0 q0 h1 h2);have SB:=spr_b (HT1.out rfl) (HT2.out rfl) h1 h2;have a1:=SB.a;have a2:=SB.b;have a3:=SB.c;have a3':=SB.c';have a4:=SB.s;have HU:=Lib.hid SB.u;have HV:=Lib.hid SB.v;have HOK:Hid (∀ k,okG (nth [q0*p3 - p0*q3,q3*p3] k)):=Lib.hid (okG_two SB.n SB.d);have HGT:Hid (((gcdTo [q0*p3 - p0*q3,q3*p3] 2:Nat):Int)=sprG p0 p3 q0 q3):=Lib.hid (by rw [gcdTo_2]; rfl)
 have HGN:Hid (((Nat.gcd (q0*p3 - p0*q3).natAbs (q3*p3).natAbs:Nat):Int)=sprG p0 p3 q0 q3):=rfl;have HG1:=Lib.hid SB.g;have HN:=Lib.hid SB.n;have HD:=Lib.hid SB.d;clear SB;go_wp2_with fail
 go_quiet (fail)
 go_wp2_with fail
 refine (commonDivisor_any _ _ _ [q0*p3 - p0*q3,q3*p3] _ (by exact ints2 _ _ _ _ _ (by first | rfl | simp [World.drewN])) (by omega) HOK.out).mono ?_;rintro e w3 ⟨rfl,n1,hw3⟩;rw [HGT.out];have HB3:Hid (Below w.heap.size w w3):=Lib.hid (by rw [hw3]; exact below_drewN ((below_drewN HB2.out _).alloc HB2.out.size _) n1);clear hw3;have hg:=HG1.out;have hu:=HU.out;have hv:=HV.out;generalize sprG p0 p3 q0 q3=G at *
 have hg0:¬ G=0:=by omega
 have hg1:(G == -1)=false:=by simp; omega
 clear HOK HGT HGN HG1 HN HD y0 y1 y2 y3 z0 z1 z2 z3;go_wp2;go_quiet (fail)
 go_wp2;refine bodyPost_ret (v := .tuple #[.int .i64 ((q0*p3 - p0*q3).tdiv G),.int .i64 ((q3*p3).tdiv G),.bool true]) (by simp [results,Tryz.results16,go_sem, *]) rfl ⟨by first | rfl | (rw [HS.out]; done) | (rw [HS.out]; rfl),by first | exact HB3.out | exact below_drewN HB3.out _⟩
end
end X
namespace X
open Go.RowKit
noncomputable def uniB (zs:List Int) (n:Nat) (ls:List Int) (q:Nat):Bool:=decide (thrN zs n ls q=1) && !strB zs n
theorem uni_f {zs ls:List Int} {n q:Nat} (h:¬ thrN zs n ls q=1):uniB zs n ls q=false:=by simp [uniB,h]
theorem uni_t {zs ls:List Int} {n q:Nat} (h:thrN zs n ls q=1):uniB zs n ls q = !strB zs n:=by simp [uniB,h]
section
variable (A : Option Addr) (n c : Nat) (zs : List Int) (B : Option Addr) (q d : Nat) (ls : List Int) (w : World) (h : RecsAt w w.heap.size 4 A n zs) (hn : n ≤ 1048576) (hl : RecsAt w w.heap.size 3 B q ls) (hq : q ≤ 1048576)
include h hn hl hq
set_option maxRecDepth 100000 in
set_option maxHeartbeats 3200000 in
theorem iUniq_any:Calls Tryzx.prog 17 #[.agg #[.slice A n c],.slice B q d] w fun e w'=>e = .returned (.bool (uniB zs n ls q))∧Below w.heap.size w w':=by
 have b0:Below w.heap.size w (w.alloc (.cells #[.slice A n c] 26)):=(Below.refl _ _).alloc (Nat.le_refl _) _;have h1:=h.after b0;have l1:=hl.after b0;have bx0:Box (w.alloc (.cells #[.slice A n c] 26)) w.heap.size (.slice A n c):=Box.new _ _ _;have cx0:=bx0.1;go_enter Tryzx.func17,Tryz.ntmps17;go_wp2_with fail
 refine (iThr_any _ _ _ zs _ _ _ ls _ (by exact h1) hn (by exact l1) hq).mono ?_;rintro e w1 ⟨v1,rfl,ho1,hb1⟩;have HB1:=Lib.hid (below_then b0 hb1);have cx1:=(bx0.after hb1).1;have r1:=h1.after hb1;obtain ⟨A1,c1,rfl,_⟩:=ho1.slice;generalize hm:thrN zs n ls q=m at *
 by_cases hu:m=1
 ·subst hu
  have hb:uniB zs n ls q = !strB zs n:=uni_t hm;have HU:=Lib.hid hb;clear ho1 hb1 cx0 hb;go_wp2_with fail
  refine (iIsStraight_any _ _ _ zs _ (by exact r1) hn).mono ?_;rintro e w2 ⟨rfl,hb2⟩;have HB2:=Lib.hid (below_then HB1.out hb2);clear hb2 r1;go_wp2;go_ret;exact ⟨by rw [HU.out]; rfl,HB2.out⟩
 ·have hi:((m:Int) == 1)=false:=by simp; omega
  have hb:uniB zs n ls q=false:=uni_f (by omega);have HU:=Lib.hid hb;clear ho1 hb1 cx0 hb r1;go_wp2;go_ret;exact ⟨by rw [HU.out]; rfl,HB1.out⟩
end
end X
namespace X
open Go.RowKit
theorem mkBd_at {h v m d:Int} {k:Nat} (hk:k<4) (e:inB (nth [h,v,m,d] k) (-4000000000000000000) 4000000000000000000=false):mkBd h v m d=false:=by
 match k,hk with
 | 0,_=>simp only [nth] at e; simp at e; simp [mkBd,e]
 | 1,_=>simp only [nth] at e; simp at e; simp [mkBd,e]
 | 2,_=>simp only [nth] at e; simp at e; simp [mkBd,e]
 | 3,_=>simp only [nth] at e; simp at e; simp [mkBd,e]
theorem mkBd_all {h v m d:Int} (e:∀ k,k<4→inB (nth [h,v,m,d] k) (-4000000000000000000) 4000000000000000000=true):mkBd h v m d=true:=by
 have e0:=e 0 (by omega);have e1:=e 1 (by omega);have e2:=e 2 (by omega);have e3:=e 3 (by omega);simp only [nth] at e0 e1 e2 e3;simp at e0 e1 e2 e3;simp [mkBd,e0,e1,e2,e3]
set_option maxRecDepth 100000 in
set_option maxHeartbeats 3200000 in
theorem iMake_any (h v m d:Int) (w:World) :
  Calls Tryzx.prog 55 #[.int .i64 h,.int .i64 v,.int .i64 m,.int .i64 d] w fun e w'=>e = .returned (mkV h v m d)∧Below w.heap.size w w':=by
 have HA:=Lib.hid ((Below.refl w.heap.size w).alloc (Nat.le_refl _) (.cells #[.int .i64 0,.int .i64 0,.int .i64 0,.int .i64 0] 31));have HA2:=Lib.hid (HA.out.alloc (by simp) (.cells #[.int .i64 h,.int .i64 v,.int .i64 m,.int .i64 d] 3));have HI:Hid (RowF ((w.alloc (.cells #[.int .i64 0,.int .i64 0,.int .i64 0,.int .i64 0] 31)).alloc (.cells #[.int .i64 h,.int .i64 v,.int .i64 m,.int .i64 d] 3)) (w.heap.size+1) 3 4 (ints [h,v,m,d])):=Lib.hid (by
  have e:=RowF.of_row (World.rowIs_alloc (w.alloc (.cells #[.int .i64 0,.int .i64 0,.int .i64 0,.int .i64 0] 31)) #[.int .i64 h,.int .i64 v,.int .i64 m,.int .i64 d] 3 (ints [h,v,m,d]) (fun i hi=>by simp at hi; match i,hi with | 0,_=>rfl | 1,_=>rfl | 2,_=>rfl | 3,_=>rfl))
  simp only [World.size_alloc] at e;exact e)
 go_enter Tryzx.func55,Tryz.ntmps55;go_wp2;go_loopw [11,20] (fun v11 v20 wr=>∃ k:Nat,v20 = .int .i64 k∧k≤4∧wr=((w.alloc (.cells #[.int .i64 0,.int .i64 0,.int .i64 0,.int .i64 0] 31)).alloc (.cells #[.int .i64 h,.int .i64 v,.int .i64 m,.int .i64 d] 3))∧Hid (∀ i,i<k→inB (nth [h,v,m,d] i) (-4000000000000000000) 4000000000000000000=true)) (fun _ v20 _=>4 - (intOf v20).toNat)
 case atStart=>exact ⟨0,rfl,Nat.zero_le _,rfl,Lib.hid (fun i hi=>absurd hi (by omega))⟩
 case round =>
  obtain ⟨k,rfl,hk,rfl,HP⟩:=hrel;by_cases hlt:k<4
  ·have hx:((w.alloc (.cells #[.int .i64 0,.int .i64 0,.int .i64 0,.int .i64 0] 31)).alloc (.cells #[.int .i64 h,.int .i64 v,.int .i64 m,.int .i64 d] 3)).cell? ⟨w.heap.size+1,k,none⟩=some (.int .i64 (nth [h,v,m,d] k)):=HI.out.cell hlt
   have HK:=Lib.hid (fun e=>mkBd_at (h:=h) (v:=v) (m:=m) (d:=d) hlt e);have ki:(k:Int)<4:=by omega
   cases hb:inB (nth [h,v,m,d] k) (-4000000000000000000) 4000000000000000000
   ·have HF:=Lib.hid (mkV_f (mkB_1 (HK.out hb)))
    clear HK;generalize nth [h,v,m,d] k=x at *
    go_wp2_with (go_at_call 76; refine (within_any _ _ _ _).mono ?_; rw [hb]; rintro e w' ⟨rfl,rfl⟩);refine bodyPost_ret (v:=thrV 0 0 0 0 false) (by simp [thrV,results,Tryz.results55,go_sem, *]) rfl ?_;exact ⟨by rw [HF.out],HA2.out⟩
   ·have HP1:Hid (∀ i,i<k+1→inB (nth [h,v,m,d] i) (-4000000000000000000) 4000000000000000000=true):=Lib.hid (fun i hi=>by
     by_cases e:i=k
     ·subst e; exact hb
     ·exact HP.out i (by omega))
    clear HK;generalize nth [h,v,m,d] k=x at hx hb;go_wp2_with (go_at_call 76; refine (within_any _ _ _ _).mono ?_; rw [hb]; rintro e w' ⟨rfl,rfl⟩);go_roundw
    case rel=>exact ⟨k+1,by go_num,by omega,trivial,HP1⟩
    case measure=>simp [intOf]; omega
  ·obtain rfl:k=4:=by omega
   have hbd:=mkBd_all HP.out;by_cases h0:d=0
   ·have HF:=Lib.hid (mkV_f (mkB_0 h v m h0))
    subst h0;go_wp2;refine bodyPost_ret (v:=thrV 0 0 0 0 false) (by simp [thrV,results,Tryz.results55,go_sem, *]) rfl ?_;exact ⟨by rw [HF.out],HA2.out⟩
   have hd0:(d == 0)=false:=by simp [h0]
   obtain ⟨o1,o2,o3,o4⟩:=mkBd_out hbd;have o7:okG (gcd4 h v m d:Nat):=okG_gcd (okG_gcd o1 o2) (okG_gcd o3 o4);have HG4:=Lib.hid (show ((Nat.gcd (Nat.gcd h.natAbs v.natAbs) (Nat.gcd m.natAbs d.natAbs):Nat):Int)=(gcd4 h v m d:Nat) from rfl);have o8:=okG_neg o7;have HNE:=Lib.hid (mkG_ne h v m h0);have HT:Hid (mkT h v m d=thrB (Int.tdiv h (mkG h v m d)) (Int.tdiv v (mkG h v m d)) (Int.tdiv m (mkG h v m d)) (Int.tdiv d (mkG h v m d))):=rfl;have HGN:Hid (d<0→mkG h v m d = -(gcd4 h v m d:Int)):=Lib.hid fun e=>by simp [mkG,e]
   have HGP:Hid (¬ d<0→mkG h v m d=(gcd4 h v m d:Int)):=Lib.hid fun e=>by simp [mkG,e]
   have q1:=okG_wrap (tdiv_bd (g:=mkG h v m d) o1);have q2:=okG_wrap (tdiv_bd (g:=mkG h v m d) o2);have q3:=okG_wrap (tdiv_bd (g:=mkG h v m d) o3);have q4:=okG_wrap (tdiv_bd (g:=mkG h v m d) o4);have HMF:=Lib.hid (fun e=>mkV_f (mkB_2 (h:=h) (v:=v) (m:=m) (d:=d) e));have HMT:=Lib.hid (fun e=>mkV_t (mkB_t h0 hbd e));obtain ⟨G,hG⟩:∃ G,mkG h v m d=G:=⟨_,rfl⟩;rw [hG] at HNE HT HGN HGP q1 q2 q3 q4 HMT;have hg1:¬ G=0:=HNE.out;have HOK:Hid (∀ k,okG (nth [h,v,m,d] k)):=okG_nth4 o1 o2 o3 o4;have HGT:Hid (gcdTo [h,v,m,d] 4=gcd4 h v m d):=Lib.hid (gcdTo_4 _ _ _ _);clear HP;go_wp2_with fail
   have hx:IntsAt (((w.alloc (.cells #[.int .i64 0,.int .i64 0,.int .i64 0,.int .i64 0] 31)).alloc (.cells #[.int .i64 h,.int .i64 v,.int .i64 m,.int .i64 d] 3)).alloc (.cells #[.int .i64 h,.int .i64 v,.int .i64 m,.int .i64 d] 3)) (((w.alloc (.cells #[.int .i64 0,.int .i64 0,.int .i64 0,.int .i64 0] 31)).alloc (.cells #[.int .i64 h,.int .i64 v,.int .i64 m,.int .i64 d] 3)).alloc (.cells #[.int .i64 h,.int .i64 v,.int .i64 m,.int .i64 d] 3)).heap.size (some ⟨w.heap.size+1+1,0,none⟩) 4 [h,v,m,d]:=by
    have h:=intsAt_row (World.rowIs_alloc ((w.alloc (.cells #[.int .i64 0,.int .i64 0,.int .i64 0,.int .i64 0] 31)).alloc (.cells #[.int .i64 h,.int .i64 v,.int .i64 m,.int .i64 d] 3)) #[.int .i64 h,.int .i64 v,.int .i64 m,.int .i64 d] 3 (ints [h,v,m,d]) (fun j hj=>by simp at hj; match j,hj with | 0,_=>rfl | 1,_=>rfl | 2,_=>rfl | 3,_=>rfl)) (zs := [h,v,m,d]) (by simp) (fun k _=>rfl)
    simp only [World.size_alloc] at h ⊢;exact h
   refine (commonDivisor_any _ _ _ [h,v,m,d] _ (by exact hx) (by omega) HOK.out).mono ?_;rintro e w1 ⟨rfl,n1,rfl⟩;rw [HGT.out];clear hx HOK HGT HG4;have HV:Hid (RowF (w.alloc (.cells #[.int .i64 0,.int .i64 0,.int .i64 0,.int .i64 0] 31)) w.heap.size 31 4 (fun _ => .int .i64 0)) :=
    Lib.hid (RowF.of_row (World.rowIs_alloc w #[.int .i64 0,.int .i64 0,.int .i64 0,.int .i64 0] 31 (fun _ => .int .i64 0) (fun i hi=>by simp at hi; match i,hi with | 0,_=>rfl | 1,_=>rfl | 2,_=>rfl | 3,_=>rfl)))
   have HV5:=Lib.hid (((HV.out.alloc (.cells #[.int .i64 h,.int .i64 v,.int .i64 m,.int .i64 d] 3)).alloc (.cells #[.int .i64 h,.int .i64 v,.int .i64 m,.int .i64 d] 3)).drewN n1);have HB5:=Lib.hid (below_drewN ((HA.out.alloc (by simp) (.cells #[.int .i64 h,.int .i64 v,.int .i64 m,.int .i64 d] 3)).alloc (by simp; omega) (.cells #[.int .i64 h,.int .i64 v,.int .i64 m,.int .i64 d] 3)) n1)
   obtain ⟨w5,hw5⟩:∃ w5,(((w.alloc (.cells #[.int .i64 0,.int .i64 0,.int .i64 0,.int .i64 0] 31)).alloc (.cells #[.int .i64 h,.int .i64 v,.int .i64 m,.int .i64 d] 3)).alloc (.cells #[.int .i64 h,.int .i64 v,.int .i64 m,.int .i64 d] 3)).drewN n1=w5:=⟨_,rfl⟩;rw [hw5] at HV5 HB5 ⊢;clear hw5 HV HA;by_cases hneg:d<0
   ·have o9:IntKind.i64.wrap (-(gcd4 h v m d:Int))=G:=by rw [o8,HGN.out hneg]
    clear o8;go_wp2;go_region
    have HV6:=Lib.hid (HV5.out.after (below_dr ((Below.refl _ _).alloc (Nat.le_refl _) (.cells #[.int .i64 (h.tdiv G),.int .i64 (v.tdiv G),.int .i64 (m.tdiv G),.int .i64 (d.tdiv G)] 31))));have HB6:=Lib.hid (below_dr (HB5.out.alloc HB5.out.size (.cells #[.int .i64 (h.tdiv G),.int .i64 (v.tdiv G),.int .i64 (m.tdiv G),.int .i64 (d.tdiv G)] 31)));have HX6:Hid (RowF (w5.alloc (.cells #[.int .i64 (h.tdiv G),.int .i64 (v.tdiv G),.int .i64 (m.tdiv G),.int .i64 (d.tdiv G)] 31)).drew w5.heap.size 31 4 (ints [h.tdiv G,v.tdiv G,m.tdiv G,d.tdiv G])) :=
     Lib.hid (RowF.of_row (World.rowIs_alloc w5 #[.int .i64 (h.tdiv G),.int .i64 (v.tdiv G),.int .i64 (m.tdiv G),.int .i64 (d.tdiv G)] 31 (ints [h.tdiv G,v.tdiv G,m.tdiv G,d.tdiv G]) (fun i hi=>by simp at hi; match i,hi with | 0,_=>rfl | 1,_=>rfl | 2,_=>rfl | 3,_=>rfl)))
    obtain ⟨w6,hw6⟩:∃ w6,(w5.alloc (.cells #[.int .i64 (h.tdiv G),.int .i64 (v.tdiv G),.int .i64 (m.tdiv G),.int .i64 (d.tdiv G)] 31)).drew=w6:=⟨_,rfl⟩;rw [hw6] at HV6 HB6 HX6 ⊢;have x0:w6.cell? ⟨w5.heap.size,0,none⟩=some (.int .i64 (h.tdiv G)):=HX6.out.cell (i:=0) (by omega);have x1:w6.cell? ⟨w5.heap.size,1,none⟩=some (.int .i64 (v.tdiv G)):=HX6.out.cell (i:=1) (by omega);have x2:w6.cell? ⟨w5.heap.size,2,none⟩=some (.int .i64 (m.tdiv G)):=HX6.out.cell (i:=2) (by omega);have x3:w6.cell? ⟨w5.heap.size,3,none⟩=some (.int .i64 (d.tdiv G)):=HX6.out.cell (i:=3) (by omega);clear hw6 HV5 HB5;go_wp2_with fail
    refine (iThrustOk_any _ _ _ _ _).mono ?_;rw [← HT.out];rintro e w7 ⟨rfl,hb7⟩;have HV7:=Lib.hid (HV6.out.after hb7);have HX7:=Lib.hid (HX6.out.after hb7);have HB7:=Lib.hid (below_then HB6.out hb7);clear HV6 HB6 HX6 x0 x1 x2 x3 hb7;have x0:w7.cell? ⟨w5.heap.size,0,none⟩=some (.int .i64 (h.tdiv G)):=HX7.out.cell (i:=0) (by omega);have x1:w7.cell? ⟨w5.heap.size,1,none⟩=some (.int .i64 (v.tdiv G)):=HX7.out.cell (i:=1) (by omega);have x2:w7.cell? ⟨w5.heap.size,2,none⟩=some (.int .i64 (m.tdiv G)):=HX7.out.cell (i:=2) (by omega);have x3:w7.cell? ⟨w5.heap.size,3,none⟩=some (.int .i64 (d.tdiv G)):=HX7.out.cell (i:=3) (by omega);have y0:w7.cell? ⟨w.heap.size,0,none⟩=some (.int .i64 0):=HV7.out.cell (i:=0) (by omega);have y1:w7.cell? ⟨w.heap.size,1,none⟩=some (.int .i64 0):=HV7.out.cell (i:=1) (by omega);have y2:w7.cell? ⟨w.heap.size,2,none⟩=some (.int .i64 0):=HV7.out.cell (i:=2) (by omega);have y3:w7.cell? ⟨w.heap.size,3,none⟩=some (.int .i64 0):=HV7.out.cell (i:=3) (by omega);have f0:=HV7.out.frozen 0;have f1:=HV7.out.frozen 1;have f2:=HV7.out.frozen 2;have f3:=HV7.out.frozen 3;have hs:=RowF.lt HV7.out;cases ht:mkT h v m d
    ·have HF:=Lib.hid (HMF.out ht)
     go_wp2;refine bodyPost_ret (v:=thrV 0 0 0 0 false) (by simp [thrV,results,Tryz.results55,go_sem, *]) rfl ?_;exact ⟨by rw [HF.out],below_set4 HB7.out (Nat.le_refl _) _ _ _ _⟩
    ·have HF:=Lib.hid (HMT.out ht)
     go_wp2;refine bodyPost_ret (v:=thrV (h.tdiv G) (v.tdiv G) (m.tdiv G) (d.tdiv G) true) (by simp [thrV,results,Tryz.results55,go_sem, *]) rfl ?_;exact ⟨by rw [HF.out],below_set4 HB7.out (Nat.le_refl _) _ _ _ _⟩
   ·rw [← HGP.out (by omega)]
    go_wp2;go_region
    have HV6:=Lib.hid (HV5.out.after (below_dr ((Below.refl _ _).alloc (Nat.le_refl _) (.cells #[.int .i64 (h.tdiv G),.int .i64 (v.tdiv G),.int .i64 (m.tdiv G),.int .i64 (d.tdiv G)] 31))));have HB6:=Lib.hid (below_dr (HB5.out.alloc HB5.out.size (.cells #[.int .i64 (h.tdiv G),.int .i64 (v.tdiv G),.int .i64 (m.tdiv G),.int .i64 (d.tdiv G)] 31)));have HX6:Hid (RowF (w5.alloc (.cells #[.int .i64 (h.tdiv G),.int .i64 (v.tdiv G),.int .i64 (m.tdiv G),.int .i64 (d.tdiv G)] 31)).drew w5.heap.size 31 4 (ints [h.tdiv G,v.tdiv G,m.tdiv G,d.tdiv G])) :=
     Lib.hid (RowF.of_row (World.rowIs_alloc w5 #[.int .i64 (h.tdiv G),.int .i64 (v.tdiv G),.int .i64 (m.tdiv G),.int .i64 (d.tdiv G)] 31 (ints [h.tdiv G,v.tdiv G,m.tdiv G,d.tdiv G]) (fun i hi=>by simp at hi; match i,hi with | 0,_=>rfl | 1,_=>rfl | 2,_=>rfl | 3,_=>rfl)))
    obtain ⟨w6,hw6⟩:∃ w6,(w5.alloc (.cells #[.int .i64 (h.tdiv G),.int .i64 (v.tdiv G),.int .i64 (m.tdiv G),.int .i64 (d.tdiv G)] 31)).drew=w6:=⟨_,rfl⟩;rw [hw6] at HV6 HB6 HX6 ⊢;have x0:w6.cell? ⟨w5.heap.size,0,none⟩=some (.int .i64 (h.tdiv G)):=HX6.out.cell (i:=0) (by omega);have x1:w6.cell? ⟨w5.heap.size,1,none⟩=some (.int .i64 (v.tdiv G)):=HX6.out.cell (i:=1) (by omega);have x2:w6.cell? ⟨w5.heap.size,2,none⟩=some (.int .i64 (m.tdiv G)):=HX6.out.cell (i:=2) (by omega);have x3:w6.cell? ⟨w5.heap.size,3,none⟩=some (.int .i64 (d.tdiv G)):=HX6.out.cell (i:=3) (by omega);clear hw6 HV5 HB5;go_wp2_with fail
    refine (iThrustOk_any _ _ _ _ _).mono ?_;rw [← HT.out];rintro e w7 ⟨rfl,hb7⟩;have HV7:=Lib.hid (HV6.out.after hb7);have HX7:=Lib.hid (HX6.out.after hb7);have HB7:=Lib.hid (below_then HB6.out hb7);clear HV6 HB6 HX6 x0 x1 x2 x3 hb7;have x0:w7.cell? ⟨w5.heap.size,0,none⟩=some (.int .i64 (h.tdiv G)):=HX7.out.cell (i:=0) (by omega);have x1:w7.cell? ⟨w5.heap.size,1,none⟩=some (.int .i64 (v.tdiv G)):=HX7.out.cell (i:=1) (by omega);have x2:w7.cell? ⟨w5.heap.size,2,none⟩=some (.int .i64 (m.tdiv G)):=HX7.out.cell (i:=2) (by omega);have x3:w7.cell? ⟨w5.heap.size,3,none⟩=some (.int .i64 (d.tdiv G)):=HX7.out.cell (i:=3) (by omega);have y0:w7.cell? ⟨w.heap.size,0,none⟩=some (.int .i64 0):=HV7.out.cell (i:=0) (by omega);have y1:w7.cell? ⟨w.heap.size,1,none⟩=some (.int .i64 0):=HV7.out.cell (i:=1) (by omega);have y2:w7.cell? ⟨w.heap.size,2,none⟩=some (.int .i64 0):=HV7.out.cell (i:=2) (by omega);have y3:w7.cell? ⟨w.heap.size,3,none⟩=some (.int .i64 0):=HV7.out.cell (i:=3) (by omega);have f0:=HV7.out.frozen 0;have f1:=HV7.out.frozen 1;have f2:=HV7.out.frozen 2;have f3:=HV7.out.frozen 3;have hs:=RowF.lt HV7.out;cases ht:mkT h v m d
    ·have HF:=Lib.hid (HMF.out ht)
     go_wp2;refine bodyPost_ret (v:=thrV 0 0 0 0 false) (by simp [thrV,results,Tryz.results55,go_sem, *]) rfl ?_;exact ⟨by rw [HF.out],below_set4 HB7.out (Nat.le_refl _) _ _ _ _⟩
    ·have HF:=Lib.hid (HMT.out ht)
     go_wp2;refine bodyPost_ret (v:=thrV (h.tdiv G) (v.tdiv G) (m.tdiv G) (d.tdiv G) true) (by simp [thrV,results,Tryz.results55,go_sem, *]) rfl ?_;exact ⟨by rw [HF.out],below_set4 HB7.out (Nat.le_refl _) _ _ _ _⟩
end X
end Go.Proofs.YtpblihmhpalkfaaGreat
