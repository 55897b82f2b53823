/-
  Texts that the law stands on, part 2.
-/
import Derived.Test.YtjcgklifabcfkaaGreatVaultPushP1
import Derived.Test.YtjcgklifabcfkaaGreatM1
import Derived.Test.YtjcgklifabcfkaaGreatM10
import Derived.Test.YtjcgklifabcfkaaGreatM11
import Derived.Test.YtjcgklifabcfkaaGreatM17
import Derived.Test.YtjcgklifabcfkaaGreatM18
import Derived.Test.YtjcgklifabcfkaaGreatM19
import Derived.Deep.RegionLaw
import Derived.Deep.RegionHeld3
set_option maxRecDepth 100000
set_option linter.unusedVariables false
set_option linter.unusedSimpArgs false
namespace Go.Proofs.YtjcgklifabcfkaaGreat
namespace X
open Go.RowKit
def pairV (u v:Value) (j:Nat):Value:=if j=0 then u else v
theorem row_pair (w:World) (u v:Value) (t:TypeId):(w.alloc (.cells #[u,v] t)).rowIs w.heap.size t 2 (pairV u v):=World.rowIs_alloc w #[u,v] t (pairV u v) (fun i hi=>by simp at hi; match i,hi with | 0,_=>rfl | 1,_=>rfl)
set_option maxRecDepth 100000 in
set_option maxHeartbeats 800000 in
theorem toVault_any (A:Option Addr) (n c:Nat) (L:List (Nat × List Int)) (B:Option Addr) (q d:Nat) (M:List (Nat × List Int)) (w:World) (h:NestAt w w.heap.size 4 A n L) (hn:n≤1048576) (hr:∀ i,i<n→rowN L i≤1048576) (hl:NestAt w w.heap.size 3 B q M) (hq:q≤1048576) (hs:∀ i,i<q→rowN M i≤1048576) :
  Calls Tryzx.prog 9 #[.agg #[.slice A n c,.slice B q d]] w fun e w'=>∃ g g',e = .returned (.agg #[.slice (some ⟨g,0,none⟩) n n,.slice (some ⟨g',0,none⟩) q q])∧w.heap.size≤g∧w.heap.size≤g'∧NestRow w' g 45 110 4 n L∧NestRow w' g' 46 77 3 q M∧Below w.heap.size w w':=by
 have HR:=Lib.hid hr;have HS:=Lib.hid hs;obtain ⟨W3,hW⟩:∃ W3:World,W3=(((w.alloc (.cells #[.slice A n c,.slice B q d] 25)).alloc (.cells #[.slice none 0 0,.slice none 0 0] 31)).alloc (.cells #[.slice none 0 0,.slice none 0 0] 31)):=⟨_,rfl⟩;have hsz:W3.heap.size=w.heap.size+1+1+1:=by rw [hW]; simp
 have b3:Below w.heap.size w W3:=by rw [hW]; exact (((Below.refl _ w).alloc (Nat.le_refl _) _).alloc (by simp) _).alloc (by simp; omega) _
 have h3:=h.after b3;have l3:=hl.after b3;have ra:RowF W3 w.heap.size 25 2 (pairV (.slice A n c) (.slice B q d)):=by rw [hW]; exact ((RowF.of_row (row_pair w _ _ _)).alloc _).alloc _
 have rr:RowF W3 (w.heap.size+1) 31 2 (pairV (.slice none 0 0) (.slice none 0 0)):=by
  rw [hW];have h:=(RowF.of_row (row_pair (w.alloc (.cells #[.slice A n c,.slice B q d] 25)) (.slice none 0 0) (.slice none 0 0) 31)).alloc (.cells #[.slice none 0 0,.slice none 0 0] 31);simpa using h
 have ro:RowF W3 (w.heap.size+1+1) 31 2 (pairV (.slice none 0 0) (.slice none 0 0)):=by
  rw [hW];have h:=RowF.of_row (row_pair ((w.alloc (.cells #[.slice A n c,.slice B q d] 25)).alloc (.cells #[.slice none 0 0,.slice none 0 0] 31)) (.slice none 0 0) (.slice none 0 0) 31);simpa using h
 have HL:=Lib.hid hl;clear h hl hr hs;have HZ:=Lib.hid hsz;go_enter Tryzx.func9,Tryz.ntmps9;go_wp2_with fail
 rw [← hW];clear hW;refine (toArchS_any A n c L _ h3 hn HR.out).mono ?_;rintro e w1 ⟨g,rfl,hg,r1,hb1⟩;have hg3:w.heap.size+1+1+1≤g:=by omega
 have b1:=below_then b3 hb1;have l1:=l3.after hb1;have ra1:=ra.after hb1;have rr1:=rr.after hb1;have ro1:=ro.after hb1;have z1:=hb1.size;have o0:w1.cell? ⟨w.heap.size+1+1,0,none⟩=some (.slice none 0 0):=ro1.cell (by omega);have f0:=ro1.frozen 0;have a1:w1.cell? ⟨w.heap.size,1,none⟩=some (.slice B q d):=ra1.cell (by omega);have b1':=b1.setCell (p:=⟨w.heap.size+1+1,0,none⟩) (by simp; omega) (.slice (some ⟨g,0,none⟩) n n)
 have l1':=(HL.out.below b1').mono b1'.size;have r1':=r1.set_lt (p:=⟨w.heap.size+1+1,0,none⟩) (by simp; omega) (.slice (some ⟨g,0,none⟩) n n)
 have ro1':=ro1.set 0 (.slice (some ⟨g,0,none⟩) n n);have rr1':=rr1.set_other (p:=⟨w.heap.size+1+1,0,none⟩) (by simp) (.slice (some ⟨g,0,none⟩) n n);have HB1:=Lib.hid b1';clear b1 b1' l1 l3 h3 b3 ra rr ro ra1 rr1 hb1 r1 HZ;go_wp2_with fail
 refine (toLoadSS_any B q d M _ l1' hq HS.out).mono ?_;rintro e w2 ⟨g',rfl,hg',r2,hb2⟩;have z2:=hb2.size;have zs:(w1.setCell ⟨w.heap.size+1+1,0,none⟩ (.slice (some ⟨g,0,none⟩) n n)).heap.size=w1.heap.size:=by simp [World.setCell]
 have s2:=r1'.after hb2;have ro2:=ro1'.after hb2;have rr2:=rr1'.after hb2;have HB2:=Lib.hid (HB1.out.trans (hb2.mono HB1.out.size));rw [zs] at hg' z2;clear zs;have o0':w2.cell? ⟨w.heap.size+1+1,0,none⟩=some (.slice (some ⟨g,0,none⟩) n n):=ro2.cell (by omega);have o1':w2.cell? ⟨w.heap.size+1+1,1,none⟩=some (.slice none 0 0):=ro2.cell (by omega);have f1':=ro2.frozen 1;have r0':w2.cell? ⟨w.heap.size+1,0,none⟩=some (.slice none 0 0):=rr2.cell (by omega);have r1'':w2.cell? ⟨w.heap.size+1,1,none⟩=some (.slice none 0 0):=rr2.cell (by omega);have k0:=rr2.frozen 0;have k1:=rr2.frozen 1;have HS2:=Lib.hid s2;have HR2:=Lib.hid r2;clear s2 r2 ro2 rr2 hb2 ro1' rr1' r1' l1' o0 f0 ro1 HB1;go_wp2;refine bodyPost_ret (v := .agg #[.slice (some ⟨g,0,none⟩) n n,.slice (some ⟨g',0,none⟩) q q]) (by simp [results,Tryz.results9,go_sem, *]) rfl ⟨g,g',rfl,by omega,by omega,?_,?_,?_⟩
 ·exact ((HS2.out.set_lt (by simp; omega) _).set_lt (by simp; omega) _).set_lt (by simp; omega) _
 ·exact ((HR2.out.set_lt (by simp; omega) _).set_lt (by simp; omega) _).set_lt (by simp; omega) _
 ·exact ((HB2.out.setCell (p:=⟨w.heap.size+1+1,1,none⟩) (by simp; omega) _).setCell (p:=⟨w.heap.size+1,0,none⟩) (by simp) _).setCell (p:=⟨w.heap.size+1,1,none⟩) (by simp) _
def SzVPost (l:Int) (n:Nat) (L:List (Nat × List Int)) (q:Nat) (M:List (Nat × List Int)) (w:World) (e:Ending) (w':World):Prop :=
 ∃ r:Int,e = .returned (.int .i64 r)∧Below w.heap.size w w'∧(r = -1 ∨ (0≤r∧r≤l∧((n:Int)≤l∧(∀ i,i<n→(rowN L i:Int)≤l)∧(sumN L n:Int)≤l)∧((q:Int)≤l∧(∀ i,i<q→(rowN M i:Int)≤l)∧(sumN M q:Int)≤l)))
theorem szVPost_no {l:Int} {n:Nat} {L:List (Nat × List Int)} {q:Nat} {M:List (Nat × List Int)} {w w':World} (hb:Below w.heap.size w w'):SzVPost l n L q M w (.returned (.int .i64 (-1))) w':=⟨-1,rfl,hb,.inl rfl⟩
theorem szVault_any (A:Option Addr) (n c:Nat) (L:List (Nat × List Int)) (B:Option Addr) (q d:Nat) (M:List (Nat × List Int)) (l:Int) (w:World) (h:NestAt w w.heap.size 4 A n L) (hl:NestAt w w.heap.size 3 B q M) (hl0:0≤l) (hl1:l≤1048576) (hn:n≤9223372036854775807) (hq:q≤9223372036854775807) :
  Calls Tryzx.prog 7 #[.agg #[.slice A n c,.slice B q d],.int .i64 l] w (SzVPost l n L q M w):=by
 have b0:Below w.heap.size w (w.alloc (.cells #[.slice A n c,.slice B q d] 25)):=(Below.refl _ _).alloc (Nat.le_refl _) _;have h0:=h.after b0;have l0:=hl.after b0;have ra:RowF (w.alloc (.cells #[.slice A n c,.slice B q d] 25)) w.heap.size 25 2 (pairV (.slice A n c) (.slice B q d)):=RowF.of_row (row_pair w _ _ _);clear h hl;go_enter Tryzx.func7,Tryz.ntmps7;go_wp2_with fail
 refine (szArchS_any A n c L _ _ h0 hl0 hl1 hn).mono ?_;rintro e w1 ⟨r,rfl,hb1,hr⟩;have b1:=below_then b0 hb1;rcases hr with rfl | ⟨hr0,hr1,hr2,hr3,hr4⟩
 ·go_wp2
  go_ret;exact szVPost_no b1
 have ra1:=ra.after hb1;have a1:w1.cell? ⟨w.heap.size,1,none⟩=some (.slice B q d):=ra1.cell (by omega);have l1:=l0.after hb1;have ht:¬ r<0:=by omega
 have HR3:=Lib.hid hr3;clear hr3 b0 h0 l0 ra hb1 ra1;go_wp2_with fail
 refine (szLoadSS_any B q d M _ _ l1 hr0 (by omega) hq).mono ?_;rintro e w2 ⟨r',rfl,hb2,hr'⟩;have b2:=below_then b1 hb2;rcases hr' with rfl | ⟨hs0,hs1,hs2,hs3,hs4⟩
 ·go_wp2
  go_ret;exact szVPost_no b2
 have ht':¬ r'<0:=by omega
 have HS3:=Lib.hid hs3;clear hs3;go_wp2;go_ret;exact ⟨r',rfl,b2,.inr ⟨hs0,by omega,⟨hr2,HR3.out,hr4⟩,by omega,fun i hi=>by have:=HS3.out i hi; omega,by omega⟩⟩
theorem eqVault_same (A A':Option Addr) (n c c':Nat) (L:List (Nat × List Int)) (B B':Option Addr) (q d d':Nat) (M:List (Nat × List Int)) (w:World) (h:NestAt w w.heap.size 4 A n L) (h':NestAt w w.heap.size 4 A' n L) (hn:n≤1048576) (hr:∀ i,i<n→rowN L i≤1048576) (hl:NestAt w w.heap.size 3 B q M) (hl':NestAt w w.heap.size 3 B' q M) (hq:q≤1048576) (hs:∀ i,i<q→rowN M i≤1048576) :
  Calls Tryzx.prog 11 #[.agg #[.slice A n c,.slice B q d],.agg #[.slice A' n c',.slice B' q d']] w fun e w'=>e = .returned (.bool true)∧Below w.heap.size w w':=by
 obtain ⟨W2,hW⟩:∃ W2:World,W2=((w.alloc (.cells #[.slice A n c,.slice B q d] 31)).alloc (.cells #[.slice A' n c',.slice B' q d'] 31)):=⟨_,rfl⟩;have hsz:W2.heap.size=w.heap.size+1+1:=by rw [hW]; simp
 have b2:Below w.heap.size w W2:=by rw [hW]; exact ((Below.refl _ w).alloc (Nat.le_refl _) _).alloc (by simp) _
 have g1:=h.after b2;have g2:=h'.after b2;have g3:=hl.after b2;have g4:=hl'.after b2;have ra:RowF W2 w.heap.size 31 2 (pairV (.slice A n c) (.slice B q d)):=by rw [hW]; exact (RowF.of_row (row_pair w _ _ _)).alloc _
 have rb:RowF W2 (w.heap.size+1) 31 2 (pairV (.slice A' n c') (.slice B' q d')):=by
  rw [hW];have h:=RowF.of_row (row_pair (w.alloc (.cells #[.slice A n c,.slice B q d] 31)) (.slice A' n c') (.slice B' q d') 31);simpa using h
 have HR:=Lib.hid hr;have HS:=Lib.hid hs;clear h h' hl hl' hr hs hsz;go_enter Tryzx.func11,Tryz.ntmps11;go_wp2_with fail
 rw [← hW];clear hW;refine (eqArchS_same _ _ _ _ _ L _ g1 g2 hn HR.out).mono ?_;rintro e w1 ⟨rfl,hb1⟩;have b1:=below_then b2 hb1;have ra1:=ra.after hb1;have rb1:=rb.after hb1;have a1:w1.cell? ⟨w.heap.size,1,none⟩=some (.slice B q d):=ra1.cell (by omega);have a2:w1.cell? ⟨w.heap.size+1,1,none⟩=some (.slice B' q d'):=rb1.cell (by omega);have k3:=g3.after hb1;have k4:=g4.after hb1;clear b2 g1 g2 g3 g4 ra rb hb1 ra1 rb1;go_wp2_with fail
 refine (eqLoadSS_same _ _ _ _ _ M _ k3 k4 hq HS.out).mono ?_;rintro e w3 ⟨rfl,hb3⟩;have b3:=below_then b1 hb3;go_wp2;go_ret;exact ⟨rfl,b3⟩
end X
namespace X
open Go.RowKit
def cdv (a b:Int):Int:=(a+b - 1).tdiv b
theorem cdv_ok {a g:Int} (h0:0≤a) (h1:a≤2000000000000) (hg:1≤g):IntKind.i64.wrap (a.tdiv g)=a.tdiv g:=by
 have h2:(a.tdiv g).natAbs≤a.natAbs:=by rw [Int.natAbs_tdiv]; exact Nat.div_le_self _ _
 exact IntWalk.i64_in _ (by omega)
theorem ceilV_any (a b:Int) (w:World) (ha:0≤a∧a≤1000000000000) (hb:1≤b∧b≤1000000):Calls Tryzx.prog 39 #[.int .i64 a,.int .i64 b] w fun e w'=>e = .returned (.int .i64 (cdv a b))∧∃ n,w'=w.drewN n:=by
 have HS:Hid ((a+b - 1).tdiv b=cdv a b):=rfl;have i1:IntKind.i64.wrap (a+b)=a+b:=IntWalk.i64_in _ (by omega);have i2:IntKind.i64.wrap (a+b - 1)=a+b - 1:=IntWalk.i64_in _ (by omega);have i3:IntKind.i64.wrap ((a+b - 1).tdiv b)=(a+b - 1).tdiv b:=cdv_ok (by omega) (by omega) hb.1;have g0:¬ b=0:=by omega
 have g1:(b == -1)=false:=by simp; omega
 go_enter Tryzx.func39,Tryz.ntmps39;go_wp2;go_ret;exact ⟨by rw [← HS.out]; rfl,0,rfl⟩
end X
namespace X
open Go.RowKit
def cmpN (x y:Int):Int:=if x<y then -1 else if y<x then 1 else 0
def cmpT (H V M D h v m d:Int):Int:=if thrB H V M D=true∧thrB h v m d=true then cmpN (H*d) (h*D) else -2
theorem cmpN_l {x y:Int} (h:x<y):cmpN x y = -1:=by simp [cmpN,h]
theorem cmpN_g {x y:Int} (h:y<x):cmpN x y=1:=by simp [cmpN,h,show ¬ x<y by omega]
theorem cmpN_e {x y:Int} (h:¬ x<y) (h':¬ y<x):cmpN x y=0:=by simp [cmpN,h,h']
theorem cmpT_1 {H V M D:Int} (h v m d:Int) (e:thrB H V M D=false):cmpT H V M D h v m d = -2:=by simp [cmpT,e]
theorem cmpT_2 (H V M D:Int) {h v m d:Int} (e:thrB h v m d=false):cmpT H V M D h v m d = -2:=by simp [cmpT,e]
theorem cmpT_3 {H V M D h v m d:Int} (e:thrB H V M D=true) (e':thrB h v m d=true):cmpT H V M D h v m d=cmpN (H*d) (h*D):=by simp [cmpT,e,e']
theorem thr_mul {H V M D h v m d:Int} (e:thrB H V M D=true) (e':thrB h v m d=true):IntKind.i64.wrap (H*d)=H*d∧IntKind.i64.wrap (h*D)=h*D:=by
 have a:=thrB_out e;have b:=thrB_out e';have m1:=mul_bd (m:=1000000000000) (n:=1000000) (a:=H) (b:=d) (by omega) (by omega);have m2:=mul_bd (m:=1000000000000) (n:=1000000) (a:=h) (b:=D) (by omega) (by omega);exact ⟨IntWalk.i64_in _ (by omega),IntWalk.i64_in _ (by omega)⟩
theorem cmp_any (x y:Int) (w:World):Calls Tryzx.prog 90 #[.int .i64 x,.int .i64 y] w fun e w'=>e = .returned (.int .i64 (cmpN x y))∧w=w':=by
 by_cases h1:x<y
 ·have HN:=Lib.hid (cmpN_l h1)
  go_enter Tryzx.func90,Tryz.ntmps90;go_wp2;go_ret;exact ⟨by rw [HN.out]; rfl,rfl⟩
 ·by_cases h2:y<x
  ·have HN:=Lib.hid (cmpN_g h2)
   have h3:x > y:=h2;go_enter Tryzx.func90,Tryz.ntmps90;go_wp2;go_ret;exact ⟨by rw [HN.out]; rfl,rfl⟩
  ·have HN:=Lib.hid (cmpN_e h1 h2)
   have h3:¬ x > y:=h2;go_enter Tryzx.func90,Tryz.ntmps90;go_wp2;go_ret;exact ⟨by rw [HN.out]; rfl,rfl⟩
section
variable (H V M D h v m d : Int) (w : World)
set_option maxRecDepth 100000 in
set_option maxHeartbeats 1600000 in
theorem iCmpT_any:Calls Tryzx.prog 66 #[.agg #[.int .i64 H,.int .i64 V,.int .i64 M,.int .i64 D],.agg #[.int .i64 h,.int .i64 v,.int .i64 m,.int .i64 d]] w fun e w'=>e = .returned (.int .i64 (cmpT H V M D h v m d))∧Below w.heap.size w w':=by
 have b0:Below w.heap.size w ((w.alloc (.cells #[.int .i64 H,.int .i64 V,.int .i64 M,.int .i64 D] 66)).alloc (.cells #[.int .i64 h,.int .i64 v,.int .i64 m,.int .i64 d] 66)):=((Below.refl _ _).alloc (Nat.le_refl _) _).alloc (by simp) _;have x0:Box4 ((w.alloc (.cells #[.int .i64 H,.int .i64 V,.int .i64 M,.int .i64 D] 66)).alloc (.cells #[.int .i64 h,.int .i64 v,.int .i64 m,.int .i64 d] 66)) w.heap.size H V M D:=(Box4.new w H V M D _).after ((Below.refl _ _).alloc (Nat.le_refl _) _);have y0:Box4 ((w.alloc (.cells #[.int .i64 H,.int .i64 V,.int .i64 M,.int .i64 D] 66)).alloc (.cells #[.int .i64 h,.int .i64 v,.int .i64 m,.int .i64 d] 66)) (w.heap.size+1) h v m d:=by
  have q:=Box4.new (w.alloc (.cells #[.int .i64 H,.int .i64 V,.int .i64 M,.int .i64 D] 66)) h v m d 66;rw [World.size_alloc] at q;exact q
 have HX:=Lib.hid x0;have HY:=Lib.hid y0;obtain ⟨⟨p0,p1,p2,p3⟩,_⟩:=x0;obtain ⟨⟨q0,q1,q2,q3⟩,_⟩:=y0;cases ha:thrB H V M D
 ·have HN:=Lib.hid (cmpT_1 h v m d ha)
  go_enter Tryzx.func66,Tryz.ntmps66;go_wp2_with fail
  refine (iThrustOk_any H V M D _).mono ?_;rw [ha];rintro e w1 ⟨rfl,hb1⟩;have HB1:=Lib.hid (below_then b0 hb1);clear hb1 b0 p0 p1 p2 p3 q0 q1 q2 q3;go_wp2;go_ret;exact ⟨by rw [HN.out]; rfl,HB1.out⟩
 ·go_enter Tryzx.func66,Tryz.ntmps66
  go_wp2_with fail
  refine (iThrustOk_any H V M D _).mono ?_;rw [ha];rintro e w1 ⟨rfl,hb1⟩;have HB1:=Lib.hid (below_then b0 hb1);have HX1:=Lib.hid (HX.out.after hb1);have HY1:=Lib.hid (HY.out.after hb1);clear hb1 b0 p0 p1 p2 p3 q0 q1 q2 q3 HX HY;obtain ⟨⟨q0,q1,q2,q3⟩,_⟩:=HY1.out;go_wp2_with fail
  refine (iThrustOk_any h v m d _).mono ?_;cases hb:thrB h v m d
  ·have HN:=Lib.hid (cmpT_2 H V M D hb)
   rintro e w2 ⟨rfl,hb2⟩;have HB2:=Lib.hid (below_then HB1.out hb2);clear hb2 q0 q1 q2 q3;go_wp2;go_ret;exact ⟨by rw [HN.out]; rfl,HB2.out⟩
  ·have HN:=Lib.hid (cmpT_3 ha hb)
   have hw:=thr_mul ha hb;obtain ⟨e1,e2⟩:=hw;rintro e w2 ⟨rfl,hb2⟩;have HB2:=Lib.hid (below_then HB1.out hb2);have HX2:=Lib.hid (HX1.out.after hb2);have HY2:=Lib.hid (HY1.out.after hb2);clear hb2 q0 q1 q2 q3 ha hb;obtain ⟨⟨p0,p1,p2,p3⟩,_⟩:=HX2.out;obtain ⟨⟨q0,q1,q2,q3⟩,_⟩:=HY2.out;go_wp2_with (go_at_call 90; refine (cmp_any _ _ _).mono ?_; rintro e w' ⟨rfl,rfl⟩);go_ret;exact ⟨by rw [HN.out]; rfl,HB2.out⟩
set_option maxRecDepth 100000 in
set_option maxHeartbeats 1600000 in
theorem sCmpT_any:Calls Tryzx.prog 101 #[.agg #[.int .i64 H,.int .i64 V,.int .i64 M,.int .i64 D],.agg #[.int .i64 h,.int .i64 v,.int .i64 m,.int .i64 d]] w fun e w'=>e = .returned (.int .i64 (cmpT H V M D h v m d))∧Below w.heap.size w w':=by
 have b0:Below w.heap.size w ((w.alloc (.cells #[.int .i64 H,.int .i64 V,.int .i64 M,.int .i64 D] 66)).alloc (.cells #[.int .i64 h,.int .i64 v,.int .i64 m,.int .i64 d] 66)):=((Below.refl _ _).alloc (Nat.le_refl _) _).alloc (by simp) _;have x0:Box4 ((w.alloc (.cells #[.int .i64 H,.int .i64 V,.int .i64 M,.int .i64 D] 66)).alloc (.cells #[.int .i64 h,.int .i64 v,.int .i64 m,.int .i64 d] 66)) w.heap.size H V M D:=(Box4.new w H V M D _).after ((Below.refl _ _).alloc (Nat.le_refl _) _);have y0:Box4 ((w.alloc (.cells #[.int .i64 H,.int .i64 V,.int .i64 M,.int .i64 D] 66)).alloc (.cells #[.int .i64 h,.int .i64 v,.int .i64 m,.int .i64 d] 66)) (w.heap.size+1) h v m d:=by
  have q:=Box4.new (w.alloc (.cells #[.int .i64 H,.int .i64 V,.int .i64 M,.int .i64 D] 66)) h v m d 66;rw [World.size_alloc] at q;exact q
 have HX:=Lib.hid x0;have HY:=Lib.hid y0;obtain ⟨⟨p0,p1,p2,p3⟩,_⟩:=x0;obtain ⟨⟨q0,q1,q2,q3⟩,_⟩:=y0;cases ha:thrB H V M D
 ·have HN:=Lib.hid (cmpT_1 h v m d ha)
  go_enter Tryzx.func101,Tryz.ntmps101;go_wp2_with fail
  refine (sThrustOk_any H V M D _).mono ?_;rw [ha];rintro e w1 ⟨rfl,hb1⟩;have HB1:=Lib.hid (below_then b0 hb1);clear hb1 b0 p0 p1 p2 p3 q0 q1 q2 q3;go_wp2;go_ret;exact ⟨by rw [HN.out]; rfl,HB1.out⟩
 ·go_enter Tryzx.func101,Tryz.ntmps101
  go_wp2_with fail
  refine (sThrustOk_any H V M D _).mono ?_;rw [ha];rintro e w1 ⟨rfl,hb1⟩;have HB1:=Lib.hid (below_then b0 hb1);have HX1:=Lib.hid (HX.out.after hb1);have HY1:=Lib.hid (HY.out.after hb1);clear hb1 b0 p0 p1 p2 p3 q0 q1 q2 q3 HX HY;obtain ⟨⟨q0,q1,q2,q3⟩,_⟩:=HY1.out;go_wp2_with fail
  refine (sThrustOk_any h v m d _).mono ?_;cases hb:thrB h v m d
  ·have HN:=Lib.hid (cmpT_2 H V M D hb)
   rintro e w2 ⟨rfl,hb2⟩;have HB2:=Lib.hid (below_then HB1.out hb2);clear hb2 q0 q1 q2 q3;go_wp2;go_ret;exact ⟨by rw [HN.out]; rfl,HB2.out⟩
  ·have HN:=Lib.hid (cmpT_3 ha hb)
   have hw:=thr_mul ha hb;obtain ⟨e1,e2⟩:=hw;rintro e w2 ⟨rfl,hb2⟩;have HB2:=Lib.hid (below_then HB1.out hb2);have HX2:=Lib.hid (HX1.out.after hb2);have HY2:=Lib.hid (HY1.out.after hb2);clear hb2 q0 q1 q2 q3 ha hb;obtain ⟨⟨p0,p1,p2,p3⟩,_⟩:=HX2.out;obtain ⟨⟨q0,q1,q2,q3⟩,_⟩:=HY2.out;by_cases l1:H*d<h*D
   ·have HC:=Lib.hid (cmpN_l l1)
    go_wp2;go_ret;exact ⟨by rw [HN.out,HC.out]; rfl,HB2.out⟩
   ·by_cases l2:h*D<H*d
    ·have HC:=Lib.hid (cmpN_g l2)
     have l3:H*d > h*D:=l2;go_wp2;go_ret;exact ⟨by rw [HN.out,HC.out]; rfl,HB2.out⟩
    ·have HC:=Lib.hid (cmpN_e l1 l2)
     have l3:¬ H*d > h*D:=l2;go_wp2;go_ret;exact ⟨by rw [HN.out,HC.out]; rfl,HB2.out⟩
set_option maxRecDepth 100000 in
set_option maxHeartbeats 1600000 in
theorem cloLeastThrust_any:Calls Tryzx.prog 65 #[.agg #[.int .i64 H,.int .i64 V,.int .i64 M,.int .i64 D],.agg #[.int .i64 h,.int .i64 v,.int .i64 m,.int .i64 d]] w fun e w'=>e = .returned (.bool (cmpT H V M D h v m d == (-1)))∧Below w.heap.size w w':=by
 have HB:=Lib.hid (((Below.refl w.heap.size w).alloc (Nat.le_refl _) (.cells #[.int .i64 H,.int .i64 V,.int .i64 M,.int .i64 D] 66)).alloc (by simp) (.cells #[.int .i64 h,.int .i64 v,.int .i64 m,.int .i64 d] 66));have x0:Box4 ((w.alloc (.cells #[.int .i64 H,.int .i64 V,.int .i64 M,.int .i64 D] 66)).alloc (.cells #[.int .i64 h,.int .i64 v,.int .i64 m,.int .i64 d] 66)) w.heap.size H V M D:=(Box4.new w H V M D _).after ((Below.refl _ _).alloc (Nat.le_refl _) _);have y0:Box4 ((w.alloc (.cells #[.int .i64 H,.int .i64 V,.int .i64 M,.int .i64 D] 66)).alloc (.cells #[.int .i64 h,.int .i64 v,.int .i64 m,.int .i64 d] 66)) (w.heap.size+1) h v m d:=by
  have q:=Box4.new (w.alloc (.cells #[.int .i64 H,.int .i64 V,.int .i64 M,.int .i64 D] 66)) h v m d 66;rw [World.size_alloc] at q;exact q
 obtain ⟨⟨p0,p1,p2,p3⟩,_⟩:=x0;obtain ⟨⟨q0,q1,q2,q3⟩,_⟩:=y0;go_enter Tryzx.func65,Tryz.ntmps65;go_wp2_with fail
 refine (iCmpT_any H V M D h v m d _).mono ?_;rintro e w1 ⟨rfl,hb1⟩;have HB1:=Lib.hid (below_then HB.out hb1);clear hb1 p0 p1 p2 p3 q0 q1 q2 q3;go_wp2;go_ret;exact ⟨rfl,HB1.out⟩
end
theorem row4 {w:World} {g:Nat} {T:TypeId} {a b c d:Int} (h:RowF w g T 4 (ints [a,b,c,d])):(w.cell? ⟨g,0,none⟩=some (.int .i64 a)∧w.cell? ⟨g,1,none⟩=some (.int .i64 b)∧w.cell? ⟨g,2,none⟩=some (.int .i64 c)∧w.cell? ⟨g,3,none⟩=some (.int .i64 d))∧w.frozen? ⟨g,0,none⟩=false∧w.frozen? ⟨g,1,none⟩=false∧w.frozen? ⟨g,2,none⟩=false∧w.frozen? ⟨g,3,none⟩=false :=
 ⟨⟨h.cell (by omega),h.cell (by omega),h.cell (by omega),h.cell (by omega)⟩,h.frozen 0,h.frozen 1,h.frozen 2,h.frozen 3⟩
def bstK (r:Int) (xs:List Int):Nat→Nat
 | 0=>0
 | k+1=>if cmpT (nth xs ((k+1)*4)) (nth xs ((k+1)*4+1)) (nth xs ((k+1)*4+2)) (nth xs ((k+1)*4+3)) (nth xs (bstK r xs k*4)) (nth xs (bstK r xs k*4+1)) (nth xs (bstK r xs k*4+2)) (nth xs (bstK r xs k*4+3))=r then k+1 else bstK r xs k
def bstV (r:Int) (xs:List Int) (k j:Nat):Int:=nth xs (bstK r xs k*4+j)
def better (r:Int) (xs:List Int) (k:Nat):Int:=cmpT (nth xs ((k+1)*4)) (nth xs ((k+1)*4+1)) (nth xs ((k+1)*4+2)) (nth xs ((k+1)*4+3)) (bstV r xs k 0) (bstV r xs k 1) (bstV r xs k 2) (bstV r xs k 3)
theorem bstV_t {r:Int} {xs:List Int} {k:Nat} (h:better r xs k=r) (j:Nat):bstV r xs (k+1) j=nth xs ((k+1)*4+j):=by
 have e:bstK r xs (k+1)=k+1:=by unfold bstK; exact if_pos h
 unfold bstV; rw [e]
theorem bstV_f {r:Int} {xs:List Int} {k:Nat} (h:¬ better r xs k=r) (j:Nat):bstV r xs (k+1) j=bstV r xs k j:=by
 have e:bstK r xs (k+1)=bstK r xs k:=by rw [bstK]; exact if_neg h
 unfold bstV; rw [e]
theorem bstV_0 (r:Int) (xs:List Int) (j:Nat):bstV r xs 0 j=nth xs j:=by unfold bstV bstK; rw [Nat.zero_mul,Nat.zero_add]
def bst4 (r:Int) (xs:List Int) (k:Nat):List Int := [bstV r xs k 0,bstV r xs k 1,bstV r xs k 2,bstV r xs k 3]
set_option maxRecDepth 100000 in
set_option maxHeartbeats 3200000 in
theorem bestThr_any (FF:Nat) (r:Int) (hF:∀ (args:Array Value) (w:World),Sem.run Tryzx.prog (callFunc FF args) w = .ok (.enter FF args) w) (hcl:∀ (H V M D h v m d:Int) (w:World),Calls Tryzx.prog FF #[.agg #[.int .i64 H,.int .i64 V,.int .i64 M,.int .i64 D],.agg #[.int .i64 h,.int .i64 v,.int .i64 m,.int .i64 d]] w fun e w'=>e = .returned (.bool (cmpT H V M D h v m d == r))∧Below w.heap.size w w') (A:Option Addr) (n c:Nat) (xs:List Int) (w:World) (h:RecsAt w w.heap.size 4 A n xs) (hn:1≤n) (hn2:n≤1048576) (hc:n≤c) (hcm:c≤9223372036854775807) :
  Calls Tryzx.prog 64 #[.slice A n c,.func (.func FF) #[] #[]] w fun e w'=>e = .returned (.agg #[.int .i64 (bstV r xs (n - 1) 0),.int .i64 (bstV r xs (n - 1) 1),.int .i64 (bstV r xs (n - 1) 2),.int .i64 (bstV r xs (n - 1) 3)])∧Below w.heap.size w w':=by
 obtain ⟨j,rfl⟩:∃ j,n=j+1:=⟨n - 1,by omega⟩;obtain ⟨b,off,rfl,hbB,hcell⟩:=h.2 (by omega);have x0:w.cell? ⟨b,off,none⟩=some (.int .i64 (nth xs 0)):=hcell 0 (by omega);have x1:w.cell? ⟨b,off+1,none⟩=some (.int .i64 (nth xs 1)):=hcell 1 (by omega);have x2:w.cell? ⟨b,off+2,none⟩=some (.int .i64 (nth xs 2)):=hcell 2 (by omega);have x3:w.cell? ⟨b,off+3,none⟩=some (.int .i64 (nth xs 3)):=hcell 3 (by omega);have HC:=Lib.hid hcell;have HB0:=Lib.hid (((Below.refl w.heap.size w).alloc (Nat.le_refl _) (.cells #[.int .i64 0,.int .i64 0,.int .i64 0,.int .i64 0] 66)).alloc (by simp) (.cells #[.int .i64 (nth xs 0),.int .i64 (nth xs 1),.int .i64 (nth xs 2),.int .i64 (nth xs 3)] 66));have HR0:=Lib.hid ((RowF.of_row (World.rowIs_alloc w #[.int .i64 0,.int .i64 0,.int .i64 0,.int .i64 0] 66 (ints [0,0,0,0]) (fun i hi=>by simp at hi; match i,hi with | 0,_=>rfl | 1,_=>rfl | 2,_=>rfl | 3,_=>rfl))).alloc (.cells #[.int .i64 (nth xs 0),.int .i64 (nth xs 1),.int .i64 (nth xs 2),.int .i64 (nth xs 3)] 66))
 have HR1:Hid (RowF ((w.alloc (.cells #[.int .i64 0,.int .i64 0,.int .i64 0,.int .i64 0] 66)).alloc (.cells #[.int .i64 (nth xs 0),.int .i64 (nth xs 1),.int .i64 (nth xs 2),.int .i64 (nth xs 3)] 66)) (w.heap.size+1) 66 4 (ints (bst4 r xs 0))):=by
  have h:=RowF.of_row (World.rowIs_alloc (w.alloc (.cells #[.int .i64 0,.int .i64 0,.int .i64 0,.int .i64 0] 66)) #[.int .i64 (nth xs 0),.int .i64 (nth xs 1),.int .i64 (nth xs 2),.int .i64 (nth xs 3)] 66 (ints [(nth xs 0),(nth xs 1),(nth xs 2),(nth xs 3)]) (fun i hi=>by simp at hi; match i,hi with | 0,_=>rfl | 1,_=>rfl | 2,_=>rfl | 3,_=>rfl))
  rw [World.size_alloc] at h;unfold bst4;rw [bstV_0,bstV_0,bstV_0,bstV_0];exact h
 have hbl:b<w.heap.size+1:=by omega
 have e1:((j+1:Nat):Int) - 1=(j:Int):=by omega
 clear h hcell;by_cases hc1:c=1
 ·obtain rfl:j=0:=by omega
  subst hc1;go_enter Tryzx.func64,Tryz.ntmps64;go_wp2;go_loopw [14] (fun i wr=>∃ k:Nat,k≤0∧i = .int .i64 k∧Hid (RowF wr w.heap.size 66 4 (ints [0,0,0,0]))∧Hid (RowF wr (w.heap.size+1) 66 4 (ints (bst4 r xs k)))∧Hid (Below w.heap.size w wr)) (fun i _=>0 - (intOf i).toNat)
  case atStart=>exact ⟨0,Nat.zero_le _,rfl,HR0,HR1,HB0⟩
  case round =>
   clear HB0 HR0 HR1 x0 x1 x2 x3;obtain ⟨k,hk,rfl,HA,HQ,HBL⟩:=hrel;by_cases hlt:k<0
   ·omega
   ·obtain rfl:k=0:=by omega
    obtain ⟨⟨c0,c1,c2,c3⟩,_⟩:=row4 (a:=bstV r xs 0 0) (b:=bstV r xs 0 1) (c:=bstV r xs 0 2) (d:=bstV r xs 0 3) HQ.out;obtain ⟨⟨d0,d1,d2,d3⟩,f0,f1,f2,f3⟩:=row4 HA.out;go_wp2;refine bodyPost_ret (v := .agg #[.int .i64 (bstV r xs 0 0),.int .i64 (bstV r xs 0 1),.int .i64 (bstV r xs 0 2),.int .i64 (bstV r xs 0 3)]) (by simp [results,Tryz.results64,go_sem, *]) rfl ⟨by first | rfl | rw [Nat.add_sub_cancel],?_⟩;exact (((HBL.out.setCell (p:=⟨w.heap.size,0,none⟩) (Nat.le_refl _) _).setCell (p:=⟨w.heap.size,1,none⟩) (Nat.le_refl _) _).setCell (p:=⟨w.heap.size,2,none⟩) (Nat.le_refl _) _).setCell (p:=⟨w.heap.size,3,none⟩) (Nat.le_refl _) _
 ·have hc2:1<c:=by omega
  have hc3:(1:Int)<(c:Int):=by omega
  clear hc1;go_enter Tryzx.func64,Tryz.ntmps64;go_wp2;go_loopw [14] (fun i wr=>∃ k:Nat,k≤j∧i = .int .i64 k∧Hid (RowF wr w.heap.size 66 4 (ints [0,0,0,0]))∧Hid (RowF wr (w.heap.size+1) 66 4 (ints (bst4 r xs k)))∧Hid (Below w.heap.size w wr)) (fun i _=>j - (intOf i).toNat)
  case atStart=>exact ⟨0,Nat.zero_le _,rfl,HR0,HR1,HB0⟩
  case round =>
   clear HB0 HR0 HR1 x0 x1 x2 x3;obtain ⟨k,hk,rfl,HA,HQ,HBL⟩:=hrel;by_cases hlt:k<j
   ·have y0:wr.cell? ⟨b,off+4+k*4,none⟩=some (.int .i64 (nth xs ((k+1)*4))):=by
     have:=(HBL.out.cell (p:=⟨b,off+(k+1)*4,none⟩) hbB).trans (HC.out ((k+1)*4) (by omega));rwa [show off+(k+1)*4=off+4+k*4 by omega] at this
    have y1:wr.cell? ⟨b,off+4+k*4+1,none⟩=some (.int .i64 (nth xs ((k+1)*4+1))):=by
     have:=(HBL.out.cell (p:=⟨b,off+((k+1)*4+1),none⟩) hbB).trans (HC.out ((k+1)*4+1) (by omega));rwa [show off+((k+1)*4+1)=off+4+k*4+1 by omega] at this
    have y2:wr.cell? ⟨b,off+4+k*4+2,none⟩=some (.int .i64 (nth xs ((k+1)*4+2))):=by
     have:=(HBL.out.cell (p:=⟨b,off+((k+1)*4+2),none⟩) hbB).trans (HC.out ((k+1)*4+2) (by omega));rwa [show off+((k+1)*4+2)=off+4+k*4+2 by omega] at this
    have y3:wr.cell? ⟨b,off+4+k*4+3,none⟩=some (.int .i64 (nth xs ((k+1)*4+3))):=by
     have:=(HBL.out.cell (p:=⟨b,off+((k+1)*4+3),none⟩) hbB).trans (HC.out ((k+1)*4+3) (by omega));rwa [show off+((k+1)*4+3)=off+4+k*4+3 by omega] at this
    have hz:=HBL.out.size;have hgl:=HQ.out.lt;obtain ⟨⟨c0,c1,c2,c3⟩,_⟩:=row4 (a:=bstV r xs k 0) (b:=bstV r xs k 1) (c:=bstV r xs k 2) (d:=bstV r xs k 3) HQ.out;have TT:Hid (better r xs k=r→bst4 r xs (k+1) = [nth xs ((k+1)*4),nth xs ((k+1)*4+1),nth xs ((k+1)*4+2),nth xs ((k+1)*4+3)]):=Lib.hid (fun h=>by unfold bst4; rw [bstV_t h,bstV_t h,bstV_t h,bstV_t h]; rfl)
    have TF:Hid (¬ better r xs k=r→bst4 r xs (k+1)=bst4 r xs k):=Lib.hid (fun h=>by unfold bst4; rw [bstV_f h,bstV_f h,bstV_f h,bstV_f h]);have HQ4:Hid (bst4 r xs k = [bstV r xs k 0,bstV r xs k 1,bstV r xs k 2,bstV r xs k 3]):=rfl;unfold better at TT TF;have HBA:=Lib.hid (HBL.out.alloc hz (.cells #[.int .i64 (nth xs ((k+1)*4)),.int .i64 (nth xs ((k+1)*4+1)),.int .i64 (nth xs ((k+1)*4+2)),.int .i64 (nth xs ((k+1)*4+3))] 66));have HAA:=Lib.hid (HA.out.alloc (.cells #[.int .i64 (nth xs ((k+1)*4)),.int .i64 (nth xs ((k+1)*4+1)),.int .i64 (nth xs ((k+1)*4+2)),.int .i64 (nth xs ((k+1)*4+3))] 66));have HBX:=Lib.hid (HQ.out.alloc (.cells #[.int .i64 (nth xs ((k+1)*4)),.int .i64 (nth xs ((k+1)*4+1)),.int .i64 (nth xs ((k+1)*4+2)),.int .i64 (nth xs ((k+1)*4+3))] 66));have HNX:=Lib.hid (RowF.of_row (World.rowIs_alloc wr #[.int .i64 (nth xs ((k+1)*4)),.int .i64 (nth xs ((k+1)*4+1)),.int .i64 (nth xs ((k+1)*4+2)),.int .i64 (nth xs ((k+1)*4+3))] 66 (ints [(nth xs ((k+1)*4)),(nth xs ((k+1)*4+1)),(nth xs ((k+1)*4+2)),(nth xs ((k+1)*4+3))]) (fun i hi=>by simp at hi; match i,hi with | 0,_=>rfl | 1,_=>rfl | 2,_=>rfl | 3,_=>rfl)))
    clear HA HQ HBL;generalize nth xs ((k+1)*4)=p0 at *
    generalize nth xs ((k+1)*4+1)=p1 at *
    generalize nth xs ((k+1)*4+2)=p2 at *
    generalize nth xs ((k+1)*4+3)=p3 at *
    generalize bstV r xs k 0=q0 at *
    generalize bstV r xs k 1=q1 at *
    generalize bstV r xs k 2=q2 at *
    generalize bstV r xs k 3=q3 at *
    go_wp2_with fail
    refine (hcl p0 p1 p2 p3 q0 q1 q2 q3 _).mono ?_;rintro e w2 ⟨rfl,hb2⟩;have HB2:=Lib.hid (HBA.out.trans (hb2.mono (by simp; omega)))
    have HA2:=Lib.hid (HAA.out.after hb2);have HX2:=Lib.hid (HBX.out.after hb2);have rN:=HNX.out.after hb2;clear hb2 HBA HAA HBX HNX;by_cases hbt:cmpT p0 p1 p2 p3 q0 q1 q2 q3=r
    ·have HF:=Lib.hid (TT.out hbt)
     have hbe:(cmpT p0 p1 p2 p3 q0 q1 q2 q3 == r)=true:=by rw [hbt]; simp
     rw [hbe];rw [HQ4.out] at HX2;clear hbt hbe;obtain ⟨⟨n0,n1,n2,n3⟩,_⟩:=row4 rN;obtain ⟨⟨b0,b1,b2,b3⟩,g0,g1,g2,g3⟩:=row4 HX2.out;have HX3:=Lib.hid (((((HX2.out.set 0 (.int .i64 p0)).set 1 (.int .i64 p1)).set 2 (.int .i64 p2)).set 3 (.int .i64 p3)).congr (f':=ints [p0,p1,p2,p3]) (fun i hi=>by match i,hi with | 0,_=>rfl | 1,_=>rfl | 2,_=>rfl | 3,_=>rfl));have HA3:=Lib.hid ((((HA2.out.set_other (p:=⟨w.heap.size+1,0,none⟩) (by simp) (.int .i64 p0)).set_other (p:=⟨w.heap.size+1,1,none⟩) (by simp) (.int .i64 p1)).set_other (p:=⟨w.heap.size+1,2,none⟩) (by simp) (.int .i64 p2)).set_other (p:=⟨w.heap.size+1,3,none⟩) (by simp) (.int .i64 p3));have HB3:=Lib.hid ((((HB2.out.setCell (p:=⟨w.heap.size+1,0,none⟩) (by simp) (.int .i64 p0)).setCell (p:=⟨w.heap.size+1,1,none⟩) (by simp) (.int .i64 p1)).setCell (p:=⟨w.heap.size+1,2,none⟩) (by simp) (.int .i64 p2)).setCell (p:=⟨w.heap.size+1,3,none⟩) (by simp) (.int .i64 p3));clear rN;go_wp2;go_roundw
     case rel=>exact ⟨k+1,by omega,by go_num,HA3,by rw [HF.out]; exact HX3,HB3⟩
     case measure=>simp [intOf]; omega
    ·have HF:=Lib.hid (TF.out hbt)
     have hbe:(cmpT p0 p1 p2 p3 q0 q1 q2 q3 == r)=false:=by simp [hbt]
     rw [hbe];clear hbt hbe;go_wp2;go_roundw
     case rel=>exact ⟨k+1,by omega,by go_num,HA2,by rw [HF.out]; exact HX2,HB2⟩
     case measure=>simp [intOf]; omega
   ·obtain rfl:k=j:=by omega
    obtain ⟨⟨c0,c1,c2,c3⟩,_⟩:=row4 (a:=bstV r xs k 0) (b:=bstV r xs k 1) (c:=bstV r xs k 2) (d:=bstV r xs k 3) HQ.out;obtain ⟨⟨d0,d1,d2,d3⟩,f0,f1,f2,f3⟩:=row4 HA.out;go_wp2;refine bodyPost_ret (v := .agg #[.int .i64 (bstV r xs k 0),.int .i64 (bstV r xs k 1),.int .i64 (bstV r xs k 2),.int .i64 (bstV r xs k 3)]) (by simp [results,Tryz.results64,go_sem, *]) rfl ⟨by first | rfl | rw [Nat.add_sub_cancel],?_⟩;exact (((HBL.out.setCell (p:=⟨w.heap.size,0,none⟩) (Nat.le_refl _) _).setCell (p:=⟨w.heap.size,1,none⟩) (Nat.le_refl _) _).setCell (p:=⟨w.heap.size,2,none⟩) (Nat.le_refl _) _).setCell (p:=⟨w.heap.size,3,none⟩) (Nat.le_refl _) _
theorem bestLeastThrust_any (A:Option Addr) (n c:Nat) (xs:List Int) (w:World) (h:RecsAt w w.heap.size 4 A n xs) (hn:1≤n) (hn2:n≤1048576) (hc:n≤c) (hcm:c≤9223372036854775807) :
  Calls Tryzx.prog 64 #[.slice A n c,.func (.func 65) #[] #[]] w fun e w'=>e = .returned (.agg #[.int .i64 (bstV (-1) xs (n - 1) 0),.int .i64 (bstV (-1) xs (n - 1) 1),.int .i64 (bstV (-1) xs (n - 1) 2),.int .i64 (bstV (-1) xs (n - 1) 3)])∧Below w.heap.size w w' :=
 bestThr_any 65 (-1) (fun args w=>by simp) cloLeastThrust_any A n c xs w h hn hn2 hc hcm
end X
namespace X
open Go.RowKit
def ThrAll (acc:List Int):Prop:=∃ q,acc.length=q*4∧∀ j,j<q→thrB (nth acc (j*4)) (nth acc (j*4+1)) (nth acc (j*4+2)) (nth acc (j*4+3))=true
theorem nth_left {xs ys:List Int} {j:Nat} (h:j<xs.length):nth (xs ++ ys) j=nth xs j:=by
 rw [nth_get _ _ (by rw [List.length_append]; omega),nth_get _ _ h,List.getElem_append_left h]
theorem nth_right {xs ys:List Int} {j:Nat} (h:j<ys.length):nth (xs ++ ys) (xs.length+j)=nth ys j:=by
 rw [nth_get _ _ (by rw [List.length_append]; omega),nth_get _ _ h,List.getElem_append_right (by omega)]
 congr 1
 omega
theorem crStep_thr {rs:List Int} {n i k m:Nat} {acc:List Int} (h:ThrAll acc):ThrAll (crStep rs n i k m acc):=by
 unfold crStep;split
 ·rename_i hc
  simp only [Bool.and_eq_true] at hc;have ht:=cr_thr rs hc.1;obtain ⟨q,hl,ha⟩:=h;refine ⟨q+1,by rw [List.length_append,hl]; simp; omega,fun j hj => ?_⟩
  by_cases e:j<q
  ·rw [nth_left (by omega),nth_left (by omega),nth_left (by omega),nth_left (by omega)]
   exact ha j e
  ·obtain rfl:j=q:=by omega
   have e0:j*4=acc.length+0:=by omega
   rw [e0,Nat.add_assoc,Nat.add_assoc,Nat.add_assoc,nth_right (by simp),nth_right (by simp),nth_right (by simp),nth_right (by simp)];exact ht
 ·exact h
theorem foldN_thr {f:Nat→List Int→List Int} (hf:∀ j a,ThrAll a→ThrAll (f j a)) {a:List Int} (h:ThrAll a):∀ t,ThrAll (foldN f t a)
 | 0=>h
 | t+1=>hf t _ (foldN_thr hf h t)
theorem cornL_thr (rs:List Int) (n:Nat):ThrAll (cornL rs n):=by
 have h0:ThrAll []:=⟨0,rfl,fun j hj=>absurd hj (by omega)⟩;cases e:cornB rs n
 ·rw [cornL_f e]; exact h0
 ·rw [cornL_t e]
  exact foldN_thr (fun i a ha=>foldN_thr (fun j a ha=>foldN_thr (fun j a ha=>crStep_thr ha) ha _) ha _) h0 _
theorem bstK_le (r:Int) (xs:List Int):∀ k,bstK r xs k≤k
 | 0=>Nat.le_refl _
 | k+1=>by
  have:=bstK_le r xs k;unfold bstK;split <;> omega
theorem bst_thr {rs:List Int} {n:Nat} (r:Int) (h:0<cornN rs n):thrB (bstV r (cornL rs n) (cornN rs n - 1) 0) (bstV r (cornL rs n) (cornN rs n - 1) 1) (bstV r (cornL rs n) (cornN rs n - 1) 2) (bstV r (cornL rs n) (cornN rs n - 1) 3)=true:=by
 obtain ⟨q,hl,ha⟩:=cornL_thr rs n;have hk:=bstK_le r (cornL rs n) (cornN rs n - 1);have hq:cornN rs n=q:=by unfold cornN; omega
 exact ha _ (by omega)
end X
section
open Go.RowKit
theorem Only.drewN {g:Nat} {w w':World} (h:Only g w w') (k:Nat):Only g w (w'.drewN k):=⟨h.os,h.tape,h.output,h.size,h.block⟩
end
namespace X
open Go.RowKit
theorem step_stRow {P:Program} {ops:Array Oper} {o:Oper} {a:Act} {w:World} {K:Act→World→Prop} {Q:Exit→Act→World→Prop} {F:Prop} (hgd:o.guard=none) (ty:TypeId) (x y:Operand) (ho:o.op = .store ty x y)
  (g:Nat) (cells:Array Value) (hx:a.eval x = .pointer (some ⟨g,0,none⟩)) (hy:a.eval y = .agg cells)
  (t:TypeId) (old:Array Value) (hg:w.heap[g]?=some (.cells old t (0,0))) (hi:(P.info? ty).map (·.size)=some cells.size)
  (hold:old.size=cells.size) (h1:cells.all (·.oneCell')=true)
  (h:∀ w',Only g w w'→w'.heap[g]?=some (.cells cells t (0,0))→K (a.put o.dst undef) w'):if Region.wanted o (yielded ops a.tmps)=true then o.wp P a w K Q else F:=by
 have hw:Region.wanted o (yielded ops a.tmps)=true:=by simp [Region.wanted,hgd]
 rw [if_pos hw];exact wp_store_row ty x y ho g cells hx hy t old hg hi hold h1 (h _ ⟨rfl,rfl,rfl,by simp,fun k hk=>setRow_other w g k cells hk⟩ (setRow_heap w g old cells t (0,0) hg))
theorem box4_of {w:World} {g:Nat} {T:TypeId} {a b c d:Int} (h:w.heap[g]?=some (.cells #[.int .i64 a,.int .i64 b,.int .i64 c,.int .i64 d] T (0,0))):Box4 w g a b c d:=by
 have hlt:g<w.heap.size:=by
  rcases Nat.lt_or_ge g w.heap.size with h' | h'
  ·exact h'
  ·rw [Array.getElem?_eq_none h'] at h; cases h
 exact ⟨⟨by simp [World.cell?,h],by simp [World.cell?,h],by simp [World.cell?,h],by simp [World.cell?,h]⟩,hlt⟩
theorem alloc_at (w:World) (o:Obj):(w.alloc o).heap[w.heap.size]?=some o:=heap_alloc_new w o
end X
namespace X
open Go.RowKit
def ribB (L M:List (Nat × List Int)) (i:Nat):Bool:=loadsB (rowZ L i) (rowN L i) (rowZ M i) (rowN M i)
def vaultB (L:List (Nat × List Int)) (n:Nat) (M:List (Nat × List Int)) (q:Nat):Bool:=inB (n:Int) 1 5 && (decide (q=n) && allB (ribB L M) n)
theorem vaultB_1 (L M:List (Nat × List Int)) {n:Nat} (q:Nat) (h:inB (n:Int) 1 5=false):vaultB L n M q=false:=by simp [vaultB,h]
theorem vaultB_2 (L M:List (Nat × List Int)) {n q:Nat} (h:¬ q=n):vaultB L n M q=false:=by simp [vaultB,h]
theorem vaultB_3 {L M:List (Nat × List Int)} {n:Nat} (q:Nat) {k:Nat} (hk:k<n) (h:ribB L M k=false):vaultB L n M q=false:=by simp [vaultB,allB_f hk h]
theorem vaultB_t {L M:List (Nat × List Int)} {n q:Nat} (h1:inB (n:Int) 1 5=true) (h2:q=n) (h:allTo (ribB L M) n):vaultB L n M q=true:=by simp [vaultB,allB_t h,h1,h2]
theorem vaultB_out {L M:List (Nat × List Int)} {n q:Nat} (h:vaultB L n M q=true):(1≤n∧n≤5)∧q=n∧allTo (ribB L M) n:=by
 simp only [vaultB,Bool.and_eq_true,decide_eq_true_eq,inB_iff] at h;exact ⟨by omega,h.2.1,allB_out h.2.2⟩
theorem cell_newA (w:World) (u v:Value) (t:TypeId):(w.alloc (.cells #[u,v] t)).cell? ⟨w.heap.size,0,none⟩=some u:=World.rowIs.cell (World.rowIs_alloc w #[u,v] t (fun i=>if i=0 then u else v) (fun i hi=>by simp at hi; match i,hi with | 0,_=>rfl | 1,_=>rfl)) (by simp)
theorem cell_newB (w:World) (u v:Value) (t:TypeId):(w.alloc (.cells #[u,v] t)).cell? ⟨w.heap.size,1,none⟩=some v:=World.rowIs.cell (World.rowIs_alloc w #[u,v] t (fun i=>if i=0 then u else v) (fun i hi=>by simp at hi; match i,hi with | 0,_=>rfl | 1,_=>rfl)) (by simp)
set_option maxRecDepth 100000 in
set_option maxHeartbeats 1600000 in
theorem sVaultOk_any (A:Option Addr) (n c:Nat) (L:List (Nat × List Int)) (B:Option Addr) (q d:Nat) (M:List (Nat × List Int)) (w:World) (h:NestAt w w.heap.size 4 A n L) (hn:n≤1048576) (hr:∀ i,i<n→rowN L i≤1048576) (hl:NestAt w w.heap.size 3 B q M) (hq:q≤1048576) (hs:∀ i,i<q→rowN M i≤1048576) :
  Calls Tryzx.prog 30 #[.agg #[.slice A n c,.slice B q d]] w fun e w'=>e = .returned (.bool (vaultB L n M q))∧Below w.heap.size w w':=by
 have HA:=Lib.hid ((Below.refl w.heap.size w).alloc (Nat.le_refl _) (.cells #[.slice A n c,.slice B q d] 31));have H:=Lib.hid h;have HL:=Lib.hid hl;have HR:=Lib.hid hr;have HS:=Lib.hid hs;clear h hl hr hs;cases hB:inB (n:Int) 1 5
 ·have HF:=Lib.hid (vaultB_1 L M q hB)
  go_enter Tryzx.func30,Tryz.ntmps30;go_wp2_with (go_at_call 52; refine (l01In_any _ _ _ _).mono ?_; rw [hB]; rintro e w' ⟨rfl,rfl⟩);go_ret;exact ⟨ret_bool HF.out.symm,HA.out⟩
 by_cases hqn:q=n
 ·subst hqn
  have hd:((q:Int) != (q:Int))=false:=by simp
  have HT:=Lib.hid (fun h3=>vaultB_t (L:=L) (M:=M) hB (rfl:q=q) h3);go_enter Tryzx.func30,Tryz.ntmps30;go_wp2_with (go_at_call 52; refine (l01In_any _ _ _ _).mono ?_; rw [hB]; rintro e w' ⟨rfl,rfl⟩);go_loopw [3] (fun i wr=>∃ k:Nat,k≤q∧i = .int .i64 k∧allTo (ribB L M) k∧wr.cell? ⟨w.heap.size,0,none⟩=some (.slice A q c)∧wr.cell? ⟨w.heap.size,1,none⟩=some (.slice B q d)∧Below w.heap.size w wr) (fun i _=>q - (intOf i).toNat)
  case atStart=>exact ⟨0,Nat.zero_le _,rfl,allTo_0 _,cell_newA _ _ _ _,cell_newB _ _ _ _,HA.out⟩
  case round =>
   clear HA hB;obtain ⟨k,hk,rfl,hag,hbox,hbox',hb⟩:=hrel;have HB:=Lib.hid hb;have hgl:=World.block_lt_of_cell? wr _ hbox;simp only at hgl;by_cases hlt:k<q
   ·obtain ⟨b,off,rfl,hbB,hc⟩:=H.out.2 (by omega)
    obtain ⟨b',off',rfl,hbB',hc'⟩:=HL.out.2 (by omega);obtain ⟨Ak,ck,hx,hrec,_,_⟩:=hc k hlt;obtain ⟨Bk,dk,hy,hrec',_,_⟩:=hc' k hlt;have x0:wr.cell? ⟨b,off+k,none⟩=some (.slice Ak (rowN L k) ck):=(hb.cell (by exact hbB)).trans hx;have y0:wr.cell? ⟨b',off'+k,none⟩=some (.slice Bk (rowN M k) dk):=(hb.cell (by exact hbB')).trans hy;have r1:=(hrec.below hb).mono hb.size;have r2:=(hrec'.below hb).mono hb.size;have hrk:=HR.out k hlt;have hsk:=HS.out k hlt;have hz:=hb.size;have ki:(k:Int)<(q:Int):=by omega
    have k0:(0:Int)≤(k:Int):=by omega
    clear hc hc' hb hx hy hrec hrec';cases hp:ribB L M k;all_goals
     have hp':=hp;unfold ribB at hp';go_wp2;go_region_held3 (fun w'=>w'.cell? ⟨w.heap.size,0,none⟩=some (.slice (some ⟨b,off,none⟩) q c)∧w'.cell? ⟨w.heap.size,1,none⟩=some (.slice (some ⟨b',off',none⟩) q d)∧w'.cell? ⟨b,off+k,none⟩=some (.slice Ak (rowN L k) ck)∧w'.cell? ⟨b',off'+k,none⟩=some (.slice Bk (rowN M k) dk)) (first | exact ⟨hbox,hbox',x0,y0⟩ | (refine ⟨?_,?_,?_,?_⟩ <;> (rw [hcc _ _ (by simp <;> omega)]; assumption))) ((go_at_call 53; refine (sLoadsOk_any _ _ _ (rowZ L k) _ _ _ (rowZ M k) _ (by exact r1) hrk (by exact r2) hsk).mono ?_; rw [hp']; rintro e w1 ⟨rfl,hb1⟩; obtain ⟨hcc,hff⟩:=bcell hb1));have HB1:=Lib.hid (HB.out.drew.trans (hb1.mono (by simp; omega)))
     have hbx1:=(hb1.cell (p:=⟨w.heap.size,0,none⟩) (by simp; omega)).trans hbox
     have hbx2:=(hb1.cell (p:=⟨w.heap.size,1,none⟩) (by simp; omega)).trans hbox'
     clear hcc hff hb1 hp'
    ·have HF:=Lib.hid (vaultB_3 q hlt hp)
     go_wp2;go_ret;exact ⟨ret_bool HF.out.symm,HB1.out⟩
    ·have HST:=Lib.hid (allTo_step hag hp)
     clear hag;go_wp2;go_roundw
     case rel=>exact ⟨k+1,by omega,by go_num,HST.out,hbx1,hbx2,HB1.out⟩
     case measure=>first | (simp [intOf]; done) | (simp [intOf]; omega)
   ·obtain rfl:k=q:=by omega
    have HF:=Lib.hid (HT.out hag);clear hb hag;go_wp2;go_ret;exact ⟨ret_bool HF.out.symm,HB.out⟩
 ·have HF:=Lib.hid (vaultB_2 L M hqn)
  have hd:((q:Int) != (n:Int))=true:=by simp; omega
  clear hqn;go_enter Tryzx.func30,Tryz.ntmps30;go_wp2_with (go_at_call 52; refine (l01In_any _ _ _ _).mono ?_; rw [hB]; rintro e w' ⟨rfl,rfl⟩);go_ret;exact ⟨ret_bool HF.out.symm,HA.out⟩
set_option maxRecDepth 100000 in
set_option maxHeartbeats 1600000 in
theorem iVaultOk_any (A:Option Addr) (n c:Nat) (L:List (Nat × List Int)) (B:Option Addr) (q d:Nat) (M:List (Nat × List Int)) (w:World) (h:NestAt w w.heap.size 4 A n L) (hn:n≤1048576) (hr:∀ i,i<n→rowN L i≤1048576) (hl:NestAt w w.heap.size 3 B q M) (hq:q≤1048576) (hs:∀ i,i<q→rowN M i≤1048576) :
  Calls Tryzx.prog 20 #[.agg #[.slice A n c,.slice B q d]] w fun e w'=>e = .returned (.bool (vaultB L n M q))∧Below w.heap.size w w':=by
 have HA:=Lib.hid ((Below.refl w.heap.size w).alloc (Nat.le_refl _) (.cells #[.slice A n c,.slice B q d] 31));have H:=Lib.hid h;have HL:=Lib.hid hl;have HR:=Lib.hid hr;have HS:=Lib.hid hs;clear h hl hr hs;cases hB:inB (n:Int) 1 5
 ·have HF:=Lib.hid (vaultB_1 L M q hB)
  go_enter Tryzx.func20,Tryz.ntmps20;go_wp2_with (go_at_call 43; refine (within_any _ _ _ _).mono ?_; rw [hB]; rintro e w' ⟨rfl,rfl⟩);go_ret;exact ⟨ret_bool HF.out.symm,HA.out⟩
 by_cases hqn:q=n
 ·subst hqn
  have hd:((q:Int) != (q:Int))=false:=by simp
  have HT:=Lib.hid (fun h3=>vaultB_t (L:=L) (M:=M) hB (rfl:q=q) h3);go_enter Tryzx.func20,Tryz.ntmps20;go_wp2_with (go_at_call 43; refine (within_any _ _ _ _).mono ?_; rw [hB]; rintro e w' ⟨rfl,rfl⟩);go_loopw [22] (fun i wr=>∃ k:Nat,k≤q∧i = .int .i64 k∧allTo (ribB L M) k∧wr.cell? ⟨w.heap.size,0,none⟩=some (.slice A q c)∧wr.cell? ⟨w.heap.size,1,none⟩=some (.slice B q d)∧Below w.heap.size w wr) (fun i _=>q - (intOf i).toNat)
  case atStart=>exact ⟨0,Nat.zero_le _,rfl,allTo_0 _,cell_newA _ _ _ _,cell_newB _ _ _ _,HA.out⟩
  case round =>
   clear HA hB;obtain ⟨k,hk,rfl,hag,hbox,hbox',hb⟩:=hrel;have HB:=Lib.hid hb;have hgl:=World.block_lt_of_cell? wr _ hbox;simp only at hgl;by_cases hlt:k<q
   ·obtain ⟨b,off,rfl,hbB,hc⟩:=H.out.2 (by omega)
    obtain ⟨b',off',rfl,hbB',hc'⟩:=HL.out.2 (by omega);obtain ⟨Ak,ck,hx,hrec,_,_⟩:=hc k hlt;obtain ⟨Bk,dk,hy,hrec',_,_⟩:=hc' k hlt;have x0:wr.cell? ⟨b,off+k,none⟩=some (.slice Ak (rowN L k) ck):=(hb.cell (by exact hbB)).trans hx;have hz:=hb.size;have y0:(wr.alloc (.cells #[.slice Ak (rowN L k) ck] 45)).cell? ⟨b',off'+k,none⟩=some (.slice Bk (rowN M k) dk):=(World.cell?_alloc_lt _ _ _ (by simp; omega)).trans ((hb.cell (by exact hbB')).trans hy)
    have v0:(wr.alloc (.cells #[.slice Ak (rowN L k) ck] 45)).cell? ⟨w.heap.size,0,none⟩=some (.slice (some ⟨b,off,none⟩) q c):=(World.cell?_alloc_lt _ _ _ (by simp; omega)).trans hbox
    have v1:(wr.alloc (.cells #[.slice Ak (rowN L k) ck] 45)).cell? ⟨w.heap.size,1,none⟩=some (.slice (some ⟨b',off',none⟩) q d):=(World.cell?_alloc_lt _ _ _ (by simp; omega)).trans hbox'
    have v2:(wr.alloc (.cells #[.slice Ak (rowN L k) ck] 45)).cell? ⟨wr.heap.size,0,none⟩=some (.slice Ak (rowN L k) ck):=cell_new0 _ _ _;have r1:=(((hrec.below hb).mono hb.size).alloc (Nat.le_refl _) (.cells #[.slice Ak (rowN L k) ck] 45)).mono (B':=(wr.alloc (.cells #[.slice Ak (rowN L k) ck] 45)).heap.size) (by simp);have r2:=(((hrec'.below hb).mono hb.size).alloc (Nat.le_refl _) (.cells #[.slice Ak (rowN L k) ck] 45)).mono (B':=(wr.alloc (.cells #[.slice Ak (rowN L k) ck] 45)).heap.size) (by simp);have HB0:=Lib.hid (hb.alloc hz (.cells #[.slice Ak (rowN L k) ck] 45));have hrk:=HR.out k hlt;have hsk:=HS.out k hlt;have ki:(k:Int)<(q:Int):=by omega
    have k0:(0:Int)≤(k:Int):=by omega
    clear hc hc' hb hx hy hrec hrec';cases hp:ribB L M k;all_goals
     have hp':=hp;unfold ribB at hp';go_wp2;go_region_held3 (fun w'=>w'.cell? ⟨wr.heap.size,0,none⟩=some (.slice Ak (rowN L k) ck)∧w'.cell? ⟨w.heap.size,1,none⟩=some (.slice (some ⟨b',off',none⟩) q d)∧w'.cell? ⟨b',off'+k,none⟩=some (.slice Bk (rowN M k) dk)) (first | exact ⟨v2,v1,y0⟩ | (refine ⟨?_,?_,?_⟩ <;> (rw [hcc _ _ (by simp <;> omega)]; assumption))) ((go_at_call 45; refine (iLoadsOk_any _ _ _ (rowZ L k) _ _ _ (rowZ M k) _ (by exact r1) hrk (by exact r2) hsk).mono ?_; rw [hp']; rintro e w1 ⟨rfl,hb1⟩; obtain ⟨hcc,hff⟩:=bcell hb1));have HB1:=Lib.hid (HB0.out.drew.trans (hb1.mono (by simp; omega)))
     have hbx1:=(hb1.cell (p:=⟨w.heap.size,0,none⟩) (by simp; omega)).trans v0
     have hbx2:=(hb1.cell (p:=⟨w.heap.size,1,none⟩) (by simp; omega)).trans v1
     clear hcc hff hb1 hp'
    ·have HF:=Lib.hid (vaultB_3 q hlt hp)
     go_wp2;go_ret;exact ⟨ret_bool HF.out.symm,HB1.out⟩
    ·have HST:=Lib.hid (allTo_step hag hp)
     clear hag;go_wp2;go_roundw
     case rel=>exact ⟨k+1,by omega,by go_num,HST.out,hbx1,hbx2,HB1.out⟩
     case measure=>first | (simp [intOf]; done) | (simp [intOf]; omega)
   ·obtain rfl:k=q:=by omega
    have HF:=Lib.hid (HT.out hag);clear hb hag;go_wp2;go_ret;exact ⟨ret_bool HF.out.symm,HB.out⟩
 ·have HF:=Lib.hid (vaultB_2 L M hqn)
  have hd:((q:Int) != (n:Int))=true:=by simp; omega
  clear hqn;go_enter Tryzx.func20,Tryz.ntmps20;go_wp2_with (go_at_call 43; refine (within_any _ _ _ _).mono ?_; rw [hB]; rintro e w' ⟨rfl,rfl⟩);go_ret;exact ⟨ret_bool HF.out.symm,HA.out⟩
end X
section
open Go.RowKit
theorem OwnR.weaken {w:World} {base base':Nat} {E:TypeId} {K n:Nat} {v:Value} {xs:List Int} (h:OwnR w base E K v n xs) (hb:base'≤base):OwnR w base' E K v n xs:=by
 refine ⟨⟨h.1.1,?_⟩,h.2⟩;rcases h.1.2 with h2 | ⟨g,cap,cur,h1,h2,h3⟩
 ·exact .inl h2
 ·exact .inr ⟨g,cap,cur,h1,Nat.le_trans hb h2,h3⟩
theorem OwnR.set2 {w:World} {base:Nat} {E:TypeId} {K n:Nat} {v:Value} {xs:List Int} (h:OwnR w base E K v n xs) (p q:Addr) (x y:Value) (hp:p.block<base) (hq:q.block<base):OwnR ((w.setCell p x).setCell q y) base E K v n xs:=by
 refine ⟨⟨h.1.1,?_⟩,h.2⟩;rcases h.1.2 with h2 | ⟨g,cap,cur,h1,h2,h3,hr⟩
 ·exact .inl h2
 ·refine .inr ⟨g,cap,cur,h1,h2,?_,hr⟩
  rw [Below.heap_setCell _ q y g (by omega),Below.heap_setCell _ p x g (by omega)];exact h3
theorem OwnR.ints {w:World} {base:Nat} {E:TypeId} {A:Option Addr} {n c:Nat} {xs:List Int} (h:OwnR w base E 1 (.slice A n c) n xs):IntsAt w w.heap.size A n xs:=by
 have hr:=h.recs;refine ⟨by rw [hr.1,Nat.mul_one],fun hn => ?_⟩;obtain ⟨b,off,e,hb,hc⟩:=hr.2 hn;exact ⟨b,off,e,hb,fun k hk=>hc k (by omega)⟩
theorem OwnR.rowInts {w:World} {base:Nat} {E:TypeId} {A:Option Addr} {n c:Nat} {xs:List Int} (h:OwnR w base E 1 (.slice A n c) n xs) (hn:0<n):∃ g,A=some ⟨g,0,none⟩∧base≤g∧RowF w g E n (Go.Proofs.YtjcgklifabcfkaaGreat.ints xs):=by
 rcases h.form with ⟨_,h2,_⟩ | ⟨g,cap,e,h2,_,hr⟩
 ·omega
 ·simp at e
  rw [Nat.mul_one] at hr;exact ⟨g,e.1,h2,hr⟩
end
end Go.Proofs.YtjcgklifabcfkaaGreat
