/-
  Texts that the law stands on, part 3.
-/
import Derived.Test.YtodneggnnipcnaaGreatMovesApartP1
import Derived.Test.YtodneggnnipcnaaGreatH10
import Derived.Test.YtodneggnnipcnaaGreatH18
import Derived.Test.YtodneggnnipcnaaGreatH23
import Derived.Test.YtodneggnnipcnaaGreatH24
set_option maxRecDepth 100000
set_option linter.unusedVariables false
set_option linter.unusedSimpArgs false
namespace Go.Proofs.YtodneggnnipcnaaGreat
namespace X
open Go.RowKit
def cmpN (x y:Int):Int:=if x<y then -1 else if y<x then 1 else 0
def cmpT (H V M D h v m d:Int):Int:=if thrB H V M D=true∧thrB h v m d=true then cmpN (H*d) (h*D) else -2
theorem cmpN_l {x y:Int} (h:x<y):cmpN x y = -1:=by simp [cmpN,h]
theorem cmpN_g {x y:Int} (h:y<x):cmpN x y=1:=by simp [cmpN,h,show ¬ x<y by omega]
theorem cmpN_e {x y:Int} (h:¬ x<y) (h':¬ y<x):cmpN x y=0:=by simp [cmpN,h,h']
theorem cmpT_1 {H V M D:Int} (h v m d:Int) (e:thrB H V M D=false):cmpT H V M D h v m d = -2:=by simp [cmpT,e]
theorem cmpT_2 (H V M D:Int) {h v m d:Int} (e:thrB h v m d=false):cmpT H V M D h v m d = -2:=by simp [cmpT,e]
theorem cmpT_3 {H V M D h v m d:Int} (e:thrB H V M D=true) (e':thrB h v m d=true):cmpT H V M D h v m d=cmpN (H*d) (h*D):=by simp [cmpT,e,e']
theorem thr_mul {H V M D h v m d:Int} (e:thrB H V M D=true) (e':thrB h v m d=true):IntKind.i64.wrap (H*d)=H*d∧IntKind.i64.wrap (h*D)=h*D:=by
 have a:=thrB_out e;have b:=thrB_out e';have m1:=mul_bd (m:=1000000000000) (n:=1000000) (a:=H) (b:=d) (by omega) (by omega);have m2:=mul_bd (m:=1000000000000) (n:=1000000) (a:=h) (b:=D) (by omega) (by omega);exact ⟨IntWalk.i64_in _ (by omega),IntWalk.i64_in _ (by omega)⟩
theorem cmp_any (x y:Int) (w:World):Calls Tryzx.prog 95 #[.int .i64 x,.int .i64 y] w fun e w'=>e = .returned (.int .i64 (cmpN x y))∧w=w':=by
 by_cases h1:x<y
 ·have HN:=Lib.hid (cmpN_l h1)
  go_enter Tryzx.func95,Tryz.ntmps95;go_wp2;go_ret;exact ⟨by rw [HN.out]; rfl,rfl⟩
 ·by_cases h2:y<x
  ·have HN:=Lib.hid (cmpN_g h2)
   have h3:x > y:=h2;go_enter Tryzx.func95,Tryz.ntmps95;go_wp2;go_ret;exact ⟨by rw [HN.out]; rfl,rfl⟩
  ·have HN:=Lib.hid (cmpN_e h1 h2)
   have h3:¬ x > y:=h2;go_enter Tryzx.func95,Tryz.ntmps95;go_wp2;go_ret;exact ⟨by rw [HN.out]; rfl,rfl⟩
section
variable (H V M D h v m d : Int) (w : World)
set_option maxRecDepth 100000 in
set_option maxHeartbeats 1600000 in
theorem iCmpT_any:Calls Tryzx.prog 68 #[.agg #[.int .i64 H,.int .i64 V,.int .i64 M,.int .i64 D],.agg #[.int .i64 h,.int .i64 v,.int .i64 m,.int .i64 d]] w fun e w'=>e = .returned (.int .i64 (cmpT H V M D h v m d))∧Below w.heap.size w w':=by
 have b0:Below w.heap.size w ((w.alloc (.cells #[.int .i64 H,.int .i64 V,.int .i64 M,.int .i64 D] 40)).alloc (.cells #[.int .i64 h,.int .i64 v,.int .i64 m,.int .i64 d] 40)):=((Below.refl _ _).alloc (Nat.le_refl _) _).alloc (by simp) _;have x0:Box4 ((w.alloc (.cells #[.int .i64 H,.int .i64 V,.int .i64 M,.int .i64 D] 40)).alloc (.cells #[.int .i64 h,.int .i64 v,.int .i64 m,.int .i64 d] 40)) w.heap.size H V M D:=(Box4.new w H V M D _).after ((Below.refl _ _).alloc (Nat.le_refl _) _);have y0:Box4 ((w.alloc (.cells #[.int .i64 H,.int .i64 V,.int .i64 M,.int .i64 D] 40)).alloc (.cells #[.int .i64 h,.int .i64 v,.int .i64 m,.int .i64 d] 40)) (w.heap.size+1) h v m d:=by
  have q:=Box4.new (w.alloc (.cells #[.int .i64 H,.int .i64 V,.int .i64 M,.int .i64 D] 40)) h v m d 40;rw [World.size_alloc] at q;exact q
 have HX:=Lib.hid x0;have HY:=Lib.hid y0;obtain ⟨⟨p0,p1,p2,p3⟩,_⟩:=x0;obtain ⟨⟨q0,q1,q2,q3⟩,_⟩:=y0;cases ha:thrB H V M D
 ·have HN:=Lib.hid (cmpT_1 h v m d ha)
  go_enter Tryzx.func68,Tryz.ntmps68;go_wp2_with fail
  refine (iThrustOk_any H V M D _).mono ?_;rw [ha];rintro e w1 ⟨rfl,hb1⟩;have HB1:=Lib.hid (below_then b0 hb1);clear hb1 b0 p0 p1 p2 p3 q0 q1 q2 q3;go_wp2;go_ret;exact ⟨by rw [HN.out]; rfl,HB1.out⟩
 ·go_enter Tryzx.func68,Tryz.ntmps68
  go_wp2_with fail
  refine (iThrustOk_any H V M D _).mono ?_;rw [ha];rintro e w1 ⟨rfl,hb1⟩;have HB1:=Lib.hid (below_then b0 hb1);have HX1:=Lib.hid (HX.out.after hb1);have HY1:=Lib.hid (HY.out.after hb1);clear hb1 b0 p0 p1 p2 p3 q0 q1 q2 q3 HX HY;obtain ⟨⟨q0,q1,q2,q3⟩,_⟩:=HY1.out;go_wp2_with fail
  refine (iThrustOk_any h v m d _).mono ?_;cases hb:thrB h v m d
  ·have HN:=Lib.hid (cmpT_2 H V M D hb)
   rintro e w2 ⟨rfl,hb2⟩;have HB2:=Lib.hid (below_then HB1.out hb2);clear hb2 q0 q1 q2 q3;go_wp2;go_ret;exact ⟨by rw [HN.out]; rfl,HB2.out⟩
  ·have HN:=Lib.hid (cmpT_3 ha hb)
   have hw:=thr_mul ha hb;obtain ⟨e1,e2⟩:=hw;rintro e w2 ⟨rfl,hb2⟩;have HB2:=Lib.hid (below_then HB1.out hb2);have HX2:=Lib.hid (HX1.out.after hb2);have HY2:=Lib.hid (HY1.out.after hb2);clear hb2 q0 q1 q2 q3 ha hb;obtain ⟨⟨p0,p1,p2,p3⟩,_⟩:=HX2.out;obtain ⟨⟨q0,q1,q2,q3⟩,_⟩:=HY2.out;go_wp2_with (go_at_call 95; refine (cmp_any _ _ _).mono ?_; rintro e w' ⟨rfl,rfl⟩);go_ret;exact ⟨by rw [HN.out]; rfl,HB2.out⟩
set_option maxRecDepth 100000 in
set_option maxHeartbeats 1600000 in
theorem sCmpT_any:Calls Tryzx.prog 88 #[.agg #[.int .i64 H,.int .i64 V,.int .i64 M,.int .i64 D],.agg #[.int .i64 h,.int .i64 v,.int .i64 m,.int .i64 d]] w fun e w'=>e = .returned (.int .i64 (cmpT H V M D h v m d))∧Below w.heap.size w w':=by
 have b0:Below w.heap.size w ((w.alloc (.cells #[.int .i64 H,.int .i64 V,.int .i64 M,.int .i64 D] 40)).alloc (.cells #[.int .i64 h,.int .i64 v,.int .i64 m,.int .i64 d] 40)):=((Below.refl _ _).alloc (Nat.le_refl _) _).alloc (by simp) _;have x0:Box4 ((w.alloc (.cells #[.int .i64 H,.int .i64 V,.int .i64 M,.int .i64 D] 40)).alloc (.cells #[.int .i64 h,.int .i64 v,.int .i64 m,.int .i64 d] 40)) w.heap.size H V M D:=(Box4.new w H V M D _).after ((Below.refl _ _).alloc (Nat.le_refl _) _);have y0:Box4 ((w.alloc (.cells #[.int .i64 H,.int .i64 V,.int .i64 M,.int .i64 D] 40)).alloc (.cells #[.int .i64 h,.int .i64 v,.int .i64 m,.int .i64 d] 40)) (w.heap.size+1) h v m d:=by
  have q:=Box4.new (w.alloc (.cells #[.int .i64 H,.int .i64 V,.int .i64 M,.int .i64 D] 40)) h v m d 40;rw [World.size_alloc] at q;exact q
 have HX:=Lib.hid x0;have HY:=Lib.hid y0;obtain ⟨⟨p0,p1,p2,p3⟩,_⟩:=x0;obtain ⟨⟨q0,q1,q2,q3⟩,_⟩:=y0;cases ha:thrB H V M D
 ·have HN:=Lib.hid (cmpT_1 h v m d ha)
  go_enter Tryzx.func88,Tryz.ntmps88;go_wp2_with fail
  refine (sThrustOk_any H V M D _).mono ?_;rw [ha];rintro e w1 ⟨rfl,hb1⟩;have HB1:=Lib.hid (below_then b0 hb1);clear hb1 b0 p0 p1 p2 p3 q0 q1 q2 q3;go_wp2;go_ret;exact ⟨by rw [HN.out]; rfl,HB1.out⟩
 ·go_enter Tryzx.func88,Tryz.ntmps88
  go_wp2_with fail
  refine (sThrustOk_any H V M D _).mono ?_;rw [ha];rintro e w1 ⟨rfl,hb1⟩;have HB1:=Lib.hid (below_then b0 hb1);have HX1:=Lib.hid (HX.out.after hb1);have HY1:=Lib.hid (HY.out.after hb1);clear hb1 b0 p0 p1 p2 p3 q0 q1 q2 q3 HX HY;obtain ⟨⟨q0,q1,q2,q3⟩,_⟩:=HY1.out;go_wp2_with fail
  refine (sThrustOk_any h v m d _).mono ?_;cases hb:thrB h v m d
  ·have HN:=Lib.hid (cmpT_2 H V M D hb)
   rintro e w2 ⟨rfl,hb2⟩;have HB2:=Lib.hid (below_then HB1.out hb2);clear hb2 q0 q1 q2 q3;go_wp2;go_ret;exact ⟨by rw [HN.out]; rfl,HB2.out⟩
  ·have HN:=Lib.hid (cmpT_3 ha hb)
   have hw:=thr_mul ha hb;obtain ⟨e1,e2⟩:=hw;rintro e w2 ⟨rfl,hb2⟩;have HB2:=Lib.hid (below_then HB1.out hb2);have HX2:=Lib.hid (HX1.out.after hb2);have HY2:=Lib.hid (HY1.out.after hb2);clear hb2 q0 q1 q2 q3 ha hb;obtain ⟨⟨p0,p1,p2,p3⟩,_⟩:=HX2.out;obtain ⟨⟨q0,q1,q2,q3⟩,_⟩:=HY2.out;by_cases l1:H*d<h*D
   ·have HC:=Lib.hid (cmpN_l l1)
    go_wp2;go_ret;exact ⟨by rw [HN.out,HC.out]; rfl,HB2.out⟩
   ·by_cases l2:h*D<H*d
    ·have HC:=Lib.hid (cmpN_g l2)
     have l3:H*d > h*D:=l2;go_wp2;go_ret;exact ⟨by rw [HN.out,HC.out]; rfl,HB2.out⟩
    ·have HC:=Lib.hid (cmpN_e l1 l2)
     have l3:¬ H*d > h*D:=l2;go_wp2;go_ret;exact ⟨by rw [HN.out,HC.out]; rfl,HB2.out⟩
set_option maxRecDepth 100000 in
set_option maxHeartbeats 1600000 in
theorem cloGreatestThrust_any:Calls Tryzx.prog 70 #[.agg #[.int .i64 H,.int .i64 V,.int .i64 M,.int .i64 D],.agg #[.int .i64 h,.int .i64 v,.int .i64 m,.int .i64 d]] w fun e w'=>e = .returned (.bool (cmpT H V M D h v m d == 1))∧Below w.heap.size w w':=by
 have HB:=Lib.hid (((Below.refl w.heap.size w).alloc (Nat.le_refl _) (.cells #[.int .i64 H,.int .i64 V,.int .i64 M,.int .i64 D] 40)).alloc (by simp) (.cells #[.int .i64 h,.int .i64 v,.int .i64 m,.int .i64 d] 40));have x0:Box4 ((w.alloc (.cells #[.int .i64 H,.int .i64 V,.int .i64 M,.int .i64 D] 40)).alloc (.cells #[.int .i64 h,.int .i64 v,.int .i64 m,.int .i64 d] 40)) w.heap.size H V M D:=(Box4.new w H V M D _).after ((Below.refl _ _).alloc (Nat.le_refl _) _);have y0:Box4 ((w.alloc (.cells #[.int .i64 H,.int .i64 V,.int .i64 M,.int .i64 D] 40)).alloc (.cells #[.int .i64 h,.int .i64 v,.int .i64 m,.int .i64 d] 40)) (w.heap.size+1) h v m d:=by
  have q:=Box4.new (w.alloc (.cells #[.int .i64 H,.int .i64 V,.int .i64 M,.int .i64 D] 40)) h v m d 40;rw [World.size_alloc] at q;exact q
 obtain ⟨⟨p0,p1,p2,p3⟩,_⟩:=x0;obtain ⟨⟨q0,q1,q2,q3⟩,_⟩:=y0;go_enter Tryzx.func70,Tryz.ntmps70;go_wp2_with fail
 refine (iCmpT_any H V M D h v m d _).mono ?_;rintro e w1 ⟨rfl,hb1⟩;have HB1:=Lib.hid (below_then HB.out hb1);clear hb1 p0 p1 p2 p3 q0 q1 q2 q3;go_wp2;go_ret;exact ⟨rfl,HB1.out⟩
set_option maxRecDepth 100000 in
set_option maxHeartbeats 1600000 in
theorem cloLeastThrust_any:Calls Tryzx.prog 67 #[.agg #[.int .i64 H,.int .i64 V,.int .i64 M,.int .i64 D],.agg #[.int .i64 h,.int .i64 v,.int .i64 m,.int .i64 d]] w fun e w'=>e = .returned (.bool (cmpT H V M D h v m d == (-1)))∧Below w.heap.size w w':=by
 have HB:=Lib.hid (((Below.refl w.heap.size w).alloc (Nat.le_refl _) (.cells #[.int .i64 H,.int .i64 V,.int .i64 M,.int .i64 D] 40)).alloc (by simp) (.cells #[.int .i64 h,.int .i64 v,.int .i64 m,.int .i64 d] 40));have x0:Box4 ((w.alloc (.cells #[.int .i64 H,.int .i64 V,.int .i64 M,.int .i64 D] 40)).alloc (.cells #[.int .i64 h,.int .i64 v,.int .i64 m,.int .i64 d] 40)) w.heap.size H V M D:=(Box4.new w H V M D _).after ((Below.refl _ _).alloc (Nat.le_refl _) _);have y0:Box4 ((w.alloc (.cells #[.int .i64 H,.int .i64 V,.int .i64 M,.int .i64 D] 40)).alloc (.cells #[.int .i64 h,.int .i64 v,.int .i64 m,.int .i64 d] 40)) (w.heap.size+1) h v m d:=by
  have q:=Box4.new (w.alloc (.cells #[.int .i64 H,.int .i64 V,.int .i64 M,.int .i64 D] 40)) h v m d 40;rw [World.size_alloc] at q;exact q
 obtain ⟨⟨p0,p1,p2,p3⟩,_⟩:=x0;obtain ⟨⟨q0,q1,q2,q3⟩,_⟩:=y0;go_enter Tryzx.func67,Tryz.ntmps67;go_wp2_with fail
 refine (iCmpT_any H V M D h v m d _).mono ?_;rintro e w1 ⟨rfl,hb1⟩;have HB1:=Lib.hid (below_then HB.out hb1);clear hb1 p0 p1 p2 p3 q0 q1 q2 q3;go_wp2;go_ret;exact ⟨rfl,HB1.out⟩
end
theorem row4 {w:World} {g:Nat} {T:TypeId} {a b c d:Int} (h:RowF w g T 4 (ints [a,b,c,d])):(w.cell? ⟨g,0,none⟩=some (.int .i64 a)∧w.cell? ⟨g,1,none⟩=some (.int .i64 b)∧w.cell? ⟨g,2,none⟩=some (.int .i64 c)∧w.cell? ⟨g,3,none⟩=some (.int .i64 d))∧w.frozen? ⟨g,0,none⟩=false∧w.frozen? ⟨g,1,none⟩=false∧w.frozen? ⟨g,2,none⟩=false∧w.frozen? ⟨g,3,none⟩=false :=
 ⟨⟨h.cell (by omega),h.cell (by omega),h.cell (by omega),h.cell (by omega)⟩,h.frozen 0,h.frozen 1,h.frozen 2,h.frozen 3⟩
def bstK (r:Int) (xs:List Int):Nat→Nat
 | 0=>0
 | k+1=>if cmpT (nth xs ((k+1)*4)) (nth xs ((k+1)*4+1)) (nth xs ((k+1)*4+2)) (nth xs ((k+1)*4+3)) (nth xs (bstK r xs k*4)) (nth xs (bstK r xs k*4+1)) (nth xs (bstK r xs k*4+2)) (nth xs (bstK r xs k*4+3))=r then k+1 else bstK r xs k
def bstV (r:Int) (xs:List Int) (k j:Nat):Int:=nth xs (bstK r xs k*4+j)
def better (r:Int) (xs:List Int) (k:Nat):Int:=cmpT (nth xs ((k+1)*4)) (nth xs ((k+1)*4+1)) (nth xs ((k+1)*4+2)) (nth xs ((k+1)*4+3)) (bstV r xs k 0) (bstV r xs k 1) (bstV r xs k 2) (bstV r xs k 3)
theorem bstV_t {r:Int} {xs:List Int} {k:Nat} (h:better r xs k=r) (j:Nat):bstV r xs (k+1) j=nth xs ((k+1)*4+j):=by
 have e:bstK r xs (k+1)=k+1:=by unfold bstK; exact if_pos h
 unfold bstV; rw [e]
theorem bstV_f {r:Int} {xs:List Int} {k:Nat} (h:¬ better r xs k=r) (j:Nat):bstV r xs (k+1) j=bstV r xs k j:=by
 have e:bstK r xs (k+1)=bstK r xs k:=by rw [bstK]; exact if_neg h
 unfold bstV; rw [e]
theorem bstV_0 (r:Int) (xs:List Int) (j:Nat):bstV r xs 0 j=nth xs j:=by unfold bstV bstK; rw [Nat.zero_mul,Nat.zero_add]
def bst4 (r:Int) (xs:List Int) (k:Nat):List Int := [bstV r xs k 0,bstV r xs k 1,bstV r xs k 2,bstV r xs k 3]
set_option maxRecDepth 100000 in
set_option maxHeartbeats 3200000 in
theorem bestThr_any (FF:Nat) (r:Int) (hF:∀ (args:Array Value) (w:World),Sem.run Tryzx.prog (callFunc FF args) w = .ok (.enter FF args) w) (hcl:∀ (H V M D h v m d:Int) (w:World),Calls Tryzx.prog FF #[.agg #[.int .i64 H,.int .i64 V,.int .i64 M,.int .i64 D],.agg #[.int .i64 h,.int .i64 v,.int .i64 m,.int .i64 d]] w fun e w'=>e = .returned (.bool (cmpT H V M D h v m d == r))∧Below w.heap.size w w') (A:Option Addr) (n c:Nat) (xs:List Int) (w:World) (h:RecsAt w w.heap.size 4 A n xs) (hn:1≤n) (hn2:n≤1048576) (hc:n≤c) (hcm:c≤9223372036854775807) :
  Calls Tryzx.prog 66 #[.slice A n c,.func (.func FF) #[] #[]] w fun e w'=>e = .returned (.agg #[.int .i64 (bstV r xs (n - 1) 0),.int .i64 (bstV r xs (n - 1) 1),.int .i64 (bstV r xs (n - 1) 2),.int .i64 (bstV r xs (n - 1) 3)])∧Below w.heap.size w w':=by
 obtain ⟨j,rfl⟩:∃ j,n=j+1:=⟨n - 1,by omega⟩;obtain ⟨b,off,rfl,hbB,hcell⟩:=h.2 (by omega);have x0:w.cell? ⟨b,off,none⟩=some (.int .i64 (nth xs 0)):=hcell 0 (by omega);have x1:w.cell? ⟨b,off+1,none⟩=some (.int .i64 (nth xs 1)):=hcell 1 (by omega);have x2:w.cell? ⟨b,off+2,none⟩=some (.int .i64 (nth xs 2)):=hcell 2 (by omega);have x3:w.cell? ⟨b,off+3,none⟩=some (.int .i64 (nth xs 3)):=hcell 3 (by omega);have HC:=Lib.hid hcell;have HB0:=Lib.hid (((Below.refl w.heap.size w).alloc (Nat.le_refl _) (.cells #[.int .i64 0,.int .i64 0,.int .i64 0,.int .i64 0] 40)).alloc (by simp) (.cells #[.int .i64 (nth xs 0),.int .i64 (nth xs 1),.int .i64 (nth xs 2),.int .i64 (nth xs 3)] 40));have HR0:=Lib.hid ((RowF.of_row (World.rowIs_alloc w #[.int .i64 0,.int .i64 0,.int .i64 0,.int .i64 0] 40 (ints [0,0,0,0]) (fun i hi=>by simp at hi; match i,hi with | 0,_=>rfl | 1,_=>rfl | 2,_=>rfl | 3,_=>rfl))).alloc (.cells #[.int .i64 (nth xs 0),.int .i64 (nth xs 1),.int .i64 (nth xs 2),.int .i64 (nth xs 3)] 40))
 have HR1:Hid (RowF ((w.alloc (.cells #[.int .i64 0,.int .i64 0,.int .i64 0,.int .i64 0] 40)).alloc (.cells #[.int .i64 (nth xs 0),.int .i64 (nth xs 1),.int .i64 (nth xs 2),.int .i64 (nth xs 3)] 40)) (w.heap.size+1) 40 4 (ints (bst4 r xs 0))):=by
  have h:=RowF.of_row (World.rowIs_alloc (w.alloc (.cells #[.int .i64 0,.int .i64 0,.int .i64 0,.int .i64 0] 40)) #[.int .i64 (nth xs 0),.int .i64 (nth xs 1),.int .i64 (nth xs 2),.int .i64 (nth xs 3)] 40 (ints [(nth xs 0),(nth xs 1),(nth xs 2),(nth xs 3)]) (fun i hi=>by simp at hi; match i,hi with | 0,_=>rfl | 1,_=>rfl | 2,_=>rfl | 3,_=>rfl))
  rw [World.size_alloc] at h;unfold bst4;rw [bstV_0,bstV_0,bstV_0,bstV_0];exact h
 have hbl:b<w.heap.size+1:=by omega
 have e1:((j+1:Nat):Int) - 1=(j:Int):=by omega
 clear h hcell;by_cases hc1:c=1
 ·obtain rfl:j=0:=by omega
  subst hc1;go_enter Tryzx.func66,Tryz.ntmps66;go_wp2;go_loopw [14] (fun i wr=>∃ k:Nat,k≤0∧i = .int .i64 k∧Hid (RowF wr w.heap.size 40 4 (ints [0,0,0,0]))∧Hid (RowF wr (w.heap.size+1) 40 4 (ints (bst4 r xs k)))∧Hid (Below w.heap.size w wr)) (fun i _=>0 - (intOf i).toNat)
  case atStart=>exact ⟨0,Nat.zero_le _,rfl,HR0,HR1,HB0⟩
  case round =>
   clear HB0 HR0 HR1 x0 x1 x2 x3;obtain ⟨k,hk,rfl,HA,HQ,HBL⟩:=hrel;by_cases hlt:k<0
   ·omega
   ·obtain rfl:k=0:=by omega
    obtain ⟨⟨c0,c1,c2,c3⟩,_⟩:=row4 (a:=bstV r xs 0 0) (b:=bstV r xs 0 1) (c:=bstV r xs 0 2) (d:=bstV r xs 0 3) HQ.out;obtain ⟨⟨d0,d1,d2,d3⟩,f0,f1,f2,f3⟩:=row4 HA.out;go_wp2;refine bodyPost_ret (v := .agg #[.int .i64 (bstV r xs 0 0),.int .i64 (bstV r xs 0 1),.int .i64 (bstV r xs 0 2),.int .i64 (bstV r xs 0 3)]) (by simp [results,Tryz.results66,go_sem, *]) rfl ⟨by first | rfl | rw [Nat.add_sub_cancel],?_⟩;exact (((HBL.out.setCell (p:=⟨w.heap.size,0,none⟩) (Nat.le_refl _) _).setCell (p:=⟨w.heap.size,1,none⟩) (Nat.le_refl _) _).setCell (p:=⟨w.heap.size,2,none⟩) (Nat.le_refl _) _).setCell (p:=⟨w.heap.size,3,none⟩) (Nat.le_refl _) _
 ·have hc2:1<c:=by omega
  have hc3:(1:Int)<(c:Int):=by omega
  clear hc1;go_enter Tryzx.func66,Tryz.ntmps66;go_wp2;go_loopw [14] (fun i wr=>∃ k:Nat,k≤j∧i = .int .i64 k∧Hid (RowF wr w.heap.size 40 4 (ints [0,0,0,0]))∧Hid (RowF wr (w.heap.size+1) 40 4 (ints (bst4 r xs k)))∧Hid (Below w.heap.size w wr)) (fun i _=>j - (intOf i).toNat)
  case atStart=>exact ⟨0,Nat.zero_le _,rfl,HR0,HR1,HB0⟩
  case round =>
   clear HB0 HR0 HR1 x0 x1 x2 x3;obtain ⟨k,hk,rfl,HA,HQ,HBL⟩:=hrel;by_cases hlt:k<j
   ·have y0:wr.cell? ⟨b,off+4+k*4,none⟩=some (.int .i64 (nth xs ((k+1)*4))):=by
     have:=(HBL.out.cell (p:=⟨b,off+(k+1)*4,none⟩) hbB).trans (HC.out ((k+1)*4) (by omega));rwa [show off+(k+1)*4=off+4+k*4 by omega] at this
    have y1:wr.cell? ⟨b,off+4+k*4+1,none⟩=some (.int .i64 (nth xs ((k+1)*4+1))):=by
     have:=(HBL.out.cell (p:=⟨b,off+((k+1)*4+1),none⟩) hbB).trans (HC.out ((k+1)*4+1) (by omega));rwa [show off+((k+1)*4+1)=off+4+k*4+1 by omega] at this
    have y2:wr.cell? ⟨b,off+4+k*4+2,none⟩=some (.int .i64 (nth xs ((k+1)*4+2))):=by
     have:=(HBL.out.cell (p:=⟨b,off+((k+1)*4+2),none⟩) hbB).trans (HC.out ((k+1)*4+2) (by omega));rwa [show off+((k+1)*4+2)=off+4+k*4+2 by omega] at this
    have y3:wr.cell? ⟨b,off+4+k*4+3,none⟩=some (.int .i64 (nth xs ((k+1)*4+3))):=by
     have:=(HBL.out.cell (p:=⟨b,off+((k+1)*4+3),none⟩) hbB).trans (HC.out ((k+1)*4+3) (by omega));rwa [show off+((k+1)*4+3)=off+4+k*4+3 by omega] at this
    have hz:=HBL.out.size;have hgl:=HQ.out.lt;obtain ⟨⟨c0,c1,c2,c3⟩,_⟩:=row4 (a:=bstV r xs k 0) (b:=bstV r xs k 1) (c:=bstV r xs k 2) (d:=bstV r xs k 3) HQ.out;have TT:Hid (better r xs k=r→bst4 r xs (k+1) = [nth xs ((k+1)*4),nth xs ((k+1)*4+1),nth xs ((k+1)*4+2),nth xs ((k+1)*4+3)]):=Lib.hid (fun h=>by unfold bst4; rw [bstV_t h,bstV_t h,bstV_t h,bstV_t h]; rfl)
    have TF:Hid (¬ better r xs k=r→bst4 r xs (k+1)=bst4 r xs k):=Lib.hid (fun h=>by unfold bst4; rw [bstV_f h,bstV_f h,bstV_f h,bstV_f h]);have HQ4:Hid (bst4 r xs k = [bstV r xs k 0,bstV r xs k 1,bstV r xs k 2,bstV r xs k 3]):=rfl;unfold better at TT TF;have HBA:=Lib.hid (HBL.out.alloc hz (.cells #[.int .i64 (nth xs ((k+1)*4)),.int .i64 (nth xs ((k+1)*4+1)),.int .i64 (nth xs ((k+1)*4+2)),.int .i64 (nth xs ((k+1)*4+3))] 40));have HAA:=Lib.hid (HA.out.alloc (.cells #[.int .i64 (nth xs ((k+1)*4)),.int .i64 (nth xs ((k+1)*4+1)),.int .i64 (nth xs ((k+1)*4+2)),.int .i64 (nth xs ((k+1)*4+3))] 40));have HBX:=Lib.hid (HQ.out.alloc (.cells #[.int .i64 (nth xs ((k+1)*4)),.int .i64 (nth xs ((k+1)*4+1)),.int .i64 (nth xs ((k+1)*4+2)),.int .i64 (nth xs ((k+1)*4+3))] 40));have HNX:=Lib.hid (RowF.of_row (World.rowIs_alloc wr #[.int .i64 (nth xs ((k+1)*4)),.int .i64 (nth xs ((k+1)*4+1)),.int .i64 (nth xs ((k+1)*4+2)),.int .i64 (nth xs ((k+1)*4+3))] 40 (ints [(nth xs ((k+1)*4)),(nth xs ((k+1)*4+1)),(nth xs ((k+1)*4+2)),(nth xs ((k+1)*4+3))]) (fun i hi=>by simp at hi; match i,hi with | 0,_=>rfl | 1,_=>rfl | 2,_=>rfl | 3,_=>rfl)))
    clear HA HQ HBL;generalize nth xs ((k+1)*4)=p0 at *
    generalize nth xs ((k+1)*4+1)=p1 at *
    generalize nth xs ((k+1)*4+2)=p2 at *
    generalize nth xs ((k+1)*4+3)=p3 at *
    generalize bstV r xs k 0=q0 at *
    generalize bstV r xs k 1=q1 at *
    generalize bstV r xs k 2=q2 at *
    generalize bstV r xs k 3=q3 at *
    go_wp2_with fail
    refine (hcl p0 p1 p2 p3 q0 q1 q2 q3 _).mono ?_;rintro e w2 ⟨rfl,hb2⟩;have HB2:=Lib.hid (HBA.out.trans (hb2.mono (by simp; omega)))
    have HA2:=Lib.hid (HAA.out.after hb2);have HX2:=Lib.hid (HBX.out.after hb2);have rN:=HNX.out.after hb2;clear hb2 HBA HAA HBX HNX;by_cases hbt:cmpT p0 p1 p2 p3 q0 q1 q2 q3=r
    ·have HF:=Lib.hid (TT.out hbt)
     have hbe:(cmpT p0 p1 p2 p3 q0 q1 q2 q3 == r)=true:=by rw [hbt]; simp
     rw [hbe];rw [HQ4.out] at HX2;clear hbt hbe;obtain ⟨⟨n0,n1,n2,n3⟩,_⟩:=row4 rN;obtain ⟨⟨b0,b1,b2,b3⟩,g0,g1,g2,g3⟩:=row4 HX2.out;have HX3:=Lib.hid (((((HX2.out.set 0 (.int .i64 p0)).set 1 (.int .i64 p1)).set 2 (.int .i64 p2)).set 3 (.int .i64 p3)).congr (f':=ints [p0,p1,p2,p3]) (fun i hi=>by match i,hi with | 0,_=>rfl | 1,_=>rfl | 2,_=>rfl | 3,_=>rfl));have HA3:=Lib.hid ((((HA2.out.set_other (p:=⟨w.heap.size+1,0,none⟩) (by simp) (.int .i64 p0)).set_other (p:=⟨w.heap.size+1,1,none⟩) (by simp) (.int .i64 p1)).set_other (p:=⟨w.heap.size+1,2,none⟩) (by simp) (.int .i64 p2)).set_other (p:=⟨w.heap.size+1,3,none⟩) (by simp) (.int .i64 p3));have HB3:=Lib.hid ((((HB2.out.setCell (p:=⟨w.heap.size+1,0,none⟩) (by simp) (.int .i64 p0)).setCell (p:=⟨w.heap.size+1,1,none⟩) (by simp) (.int .i64 p1)).setCell (p:=⟨w.heap.size+1,2,none⟩) (by simp) (.int .i64 p2)).setCell (p:=⟨w.heap.size+1,3,none⟩) (by simp) (.int .i64 p3));clear rN;go_wp2;go_roundw
     case rel=>exact ⟨k+1,by omega,by go_num,HA3,by rw [HF.out]; exact HX3,HB3⟩
     case measure=>simp [intOf]; omega
    ·have HF:=Lib.hid (TF.out hbt)
     have hbe:(cmpT p0 p1 p2 p3 q0 q1 q2 q3 == r)=false:=by simp [hbt]
     rw [hbe];clear hbt hbe;go_wp2;go_roundw
     case rel=>exact ⟨k+1,by omega,by go_num,HA2,by rw [HF.out]; exact HX2,HB2⟩
     case measure=>simp [intOf]; omega
   ·obtain rfl:k=j:=by omega
    obtain ⟨⟨c0,c1,c2,c3⟩,_⟩:=row4 (a:=bstV r xs k 0) (b:=bstV r xs k 1) (c:=bstV r xs k 2) (d:=bstV r xs k 3) HQ.out;obtain ⟨⟨d0,d1,d2,d3⟩,f0,f1,f2,f3⟩:=row4 HA.out;go_wp2;refine bodyPost_ret (v := .agg #[.int .i64 (bstV r xs k 0),.int .i64 (bstV r xs k 1),.int .i64 (bstV r xs k 2),.int .i64 (bstV r xs k 3)]) (by simp [results,Tryz.results66,go_sem, *]) rfl ⟨by first | rfl | rw [Nat.add_sub_cancel],?_⟩;exact (((HBL.out.setCell (p:=⟨w.heap.size,0,none⟩) (Nat.le_refl _) _).setCell (p:=⟨w.heap.size,1,none⟩) (Nat.le_refl _) _).setCell (p:=⟨w.heap.size,2,none⟩) (Nat.le_refl _) _).setCell (p:=⟨w.heap.size,3,none⟩) (Nat.le_refl _) _
theorem bestGreatestThrust_any (A:Option Addr) (n c:Nat) (xs:List Int) (w:World) (h:RecsAt w w.heap.size 4 A n xs) (hn:1≤n) (hn2:n≤1048576) (hc:n≤c) (hcm:c≤9223372036854775807) :
  Calls Tryzx.prog 66 #[.slice A n c,.func (.func 70) #[] #[]] w fun e w'=>e = .returned (.agg #[.int .i64 (bstV 1 xs (n - 1) 0),.int .i64 (bstV 1 xs (n - 1) 1),.int .i64 (bstV 1 xs (n - 1) 2),.int .i64 (bstV 1 xs (n - 1) 3)])∧Below w.heap.size w w' :=
 bestThr_any 70 1 (fun args w=>by simp) cloGreatestThrust_any A n c xs w h hn hn2 hc hcm
theorem bestLeastThrust_any (A:Option Addr) (n c:Nat) (xs:List Int) (w:World) (h:RecsAt w w.heap.size 4 A n xs) (hn:1≤n) (hn2:n≤1048576) (hc:n≤c) (hcm:c≤9223372036854775807) :
  Calls Tryzx.prog 66 #[.slice A n c,.func (.func 67) #[] #[]] w fun e w'=>e = .returned (.agg #[.int .i64 (bstV (-1) xs (n - 1) 0),.int .i64 (bstV (-1) xs (n - 1) 1),.int .i64 (bstV (-1) xs (n - 1) 2),.int .i64 (bstV (-1) xs (n - 1) 3)])∧Below w.heap.size w w' :=
 bestThr_any 67 (-1) (fun args w=>by simp) cloLeastThrust_any A n c xs w h hn hn2 hc hcm
end X
namespace X
open Go.RowKit
def endV (ok:Bool) (r:Int) (L:List Int) (m:Nat):Value:=if ok=true then thrV (bstV r L (m - 1) 0) (bstV r L (m - 1) 1) (bstV r L (m - 1) 2) (bstV r L (m - 1) 3) true else thrV 0 0 0 0 false
theorem endV_f {ok:Bool} (h:ok=false) (r:Int) (L:List Int) (m:Nat):endV ok r L m=thrV 0 0 0 0 false:=by subst h; rfl
theorem endV_t {ok:Bool} (h:ok=true) (r:Int) (L:List Int) (m:Nat):endV ok r L m=thrV (bstV r L (m - 1) 0) (bstV r L (m - 1) 1) (bstV r L (m - 1) 2) (bstV r L (m - 1) 3) true:=by subst h; rfl
theorem endV_ex (ok:Bool) (r:Int) (L:List Int) (m:Nat):∃ q0 q1 q2 q3 bb,endV ok r L m = .tuple #[.agg #[.int .i64 q0,.int .i64 q1,.int .i64 q2,.int .i64 q3],.bool bb]:=by
 cases ok
 ·exact ⟨0,0,0,0,false,rfl⟩
 ·exact ⟨_,_,_,_,true,rfl⟩
def EndPost (w:World) (ok:Bool) (r:Int) (L:List Int) (m:Nat) (e:Ending) (w':World):Prop:=e = .returned (endV ok r L m)∧Below w.heap.size w w'
noncomputable def grtB (zs:List Int) (n:Nat) (ls:List Int) (q:Nat):Bool:=decide (0<thrN zs n ls q) && !strB zs n
def lstB (zs:List Int) (n:Nat) (ls:List Int) (q:Nat):Bool:=decide (0<thrN zs n ls q)
theorem grt_1 {zs ls:List Int} {n q:Nat} (h:thrN zs n ls q=0):grtB zs n ls q=false:=by simp [grtB,h]
theorem grt_2 {zs ls:List Int} {n q:Nat} (h:strB zs n=true):grtB zs n ls q=false:=by simp [grtB,h]
theorem grt_3 {zs ls:List Int} {n q:Nat} (h:strB zs n=false):grtB zs n ls q=decide (0<thrN zs n ls q):=by simp [grtB,h]
theorem below_set4' {w wr:World} {B g:Nat} (h:Below B w wr) (hg:B≤g) (a b c d:Value):Below B w ((((wr.setCell ⟨g,0,none⟩ a).setCell ⟨g,1,none⟩ b).setCell ⟨g,2,none⟩ c).setCell ⟨g,3,none⟩ d):=(((h.setCell (p:=⟨g,0,none⟩) hg _).setCell (p:=⟨g,1,none⟩) hg _).setCell (p:=⟨g,2,none⟩) hg _).setCell (p:=⟨g,3,none⟩) hg _
section
variable (A : Option Addr) (n c : Nat) (zs : List Int) (B : Option Addr) (q d : Nat) (ls : List Int) (w : World) (h : RecsAt w w.heap.size 4 A n zs) (hn : n ≤ 1048576) (hl : RecsAt w w.heap.size 3 B q ls) (hq : q ≤ 1048576)
include h hn hl hq
set_option maxRecDepth 100000 in
set_option maxHeartbeats 3200000 in
theorem sEndT_any:Calls Tryzx.prog 62 #[.agg #[.slice A n c],.slice B q d,.bool true] w (EndPost w (decide (0<thrN zs n ls q)) 1 (thrL zs n ls q) (thrN zs n ls q)):=by
 have hz0:(w.alloc (.cells #[.slice A n c] 32)).heap.size=w.heap.size+1:=by simp
 have b0:Below w.heap.size w ((w.alloc (.cells #[.slice A n c] 32)).alloc (.cells #[.int .i64 0,.int .i64 0,.int .i64 0,.int .i64 0] 40)):=((Below.refl _ _).alloc (Nat.le_refl _) _).alloc (by simp) _;have bx0:Box ((w.alloc (.cells #[.slice A n c] 32)).alloc (.cells #[.int .i64 0,.int .i64 0,.int .i64 0,.int .i64 0] 40)) w.heap.size (.slice A n c):=(Box.new w (.slice A n c) 32).alloc _;have HA0:Hid (RowF ((w.alloc (.cells #[.slice A n c] 32)).alloc (.cells #[.int .i64 0,.int .i64 0,.int .i64 0,.int .i64 0] 40)) (w.heap.size+1) 40 4 (ints [0,0,0,0])):=Lib.hid (by
  have h:=RowF.of_row (World.rowIs_alloc (w.alloc (.cells #[.slice A n c] 32)) #[.int .i64 0,.int .i64 0,.int .i64 0,.int .i64 0] 40 (ints [0,0,0,0]) (fun i hi=>by simp at hi; match i,hi with | 0,_=>rfl | 1,_=>rfl | 2,_=>rfl | 3,_=>rfl))
  rw [hz0] at h;exact h)
 have HX:=Lib.hid bx0;have HH:=Lib.hid h;have HL:=Lib.hid hl;have HB0:=Lib.hid b0;have cx0:=bx0.1;have hw1:=h.after b0;have hw2:=hl.after b0;clear hz0 b0 bx0 h hl;go_enter Tryzx.func62,Tryz.ntmps62;go_wp2_with fail
 refine (sThr_any _ _ _ zs _ _ _ ls _ (by exact hw1) hn (by exact hw2) hq).mono ?_;rintro e w1 ⟨v1,rfl,ho1,hb1⟩;have HA1:=Lib.hid (HA0.out.after hb1);have HB1:=Lib.hid (below_then HB0.out hb1);obtain ⟨A1,c1,rfl,hcap⟩:=ho1.slice;have r1:=ho1.recs;have hfew:thrN zs n ls q≤8000:=by have:=(corn_acc (rowsZ zs n ls q) (rowsN zs n ls q)).few; unfold thrN; omega
 generalize thrN zs n ls q=m at *
 generalize thrL zs n ls q=L at *
 clear hb1 ho1 hw1 hw2 cx0 HA0 HB0 HX;by_cases hm:m=0
 ·subst hm
  have HE:=Lib.hid (endV_f (ok:=decide (0<0)) (by decide) 1 L 0);clear r1;obtain ⟨⟨d0,d1,d2,d3⟩,f0,f1,f2,f3⟩:=row4 HA1.out;go_wp2;refine bodyPost_ret (v:=thrV 0 0 0 0 false) (by simp [thrV,results,Tryz.results62,go_sem, *]) rfl ⟨by rw [HE.out],?_⟩;exact below_set4' HB1.out (Nat.le_succ _) _ _ _ _
 ·obtain ⟨j,rfl⟩:∃ j,m=j+1:=⟨m - 1,by omega⟩
  have HE:=Lib.hid (endV_t (ok:=decide (0<j+1)) (decide_eq_true (by omega)) 1 L (j+1));obtain ⟨b,off,rfl,hbB,hc⟩:=r1.2 (by omega);have x0:w1.cell? ⟨b,off,none⟩=some (.int .i64 (nth L 0)):=hc 0 (by omega);have x1:w1.cell? ⟨b,off+1,none⟩=some (.int .i64 (nth L 1)):=hc 1 (by omega);have x2:w1.cell? ⟨b,off+2,none⟩=some (.int .i64 (nth L 2)):=hc 2 (by omega);have x3:w1.cell? ⟨b,off+3,none⟩=some (.int .i64 (nth L 3)):=hc 3 (by omega);have HC:=Lib.hid hc;have hne:(((j+1:Nat):Int) == 0)=false:=by simp; omega
  have hne2:(((j:Int)+1) == 0)=false:=by simp; omega
  have HR1:Hid (RowF (w1.alloc (.cells #[.int .i64 (nth L 0),.int .i64 (nth L 1),.int .i64 (nth L 2),.int .i64 (nth L 3)] 40)) w1.heap.size 40 4 (ints (bst4 1 L 0))):=Lib.hid (by
   unfold bst4;rw [bstV_0,bstV_0,bstV_0,bstV_0];exact RowF.of_row (World.rowIs_alloc w1 #[.int .i64 (nth L 0),.int .i64 (nth L 1),.int .i64 (nth L 2),.int .i64 (nth L 3)] 40 (ints [nth L 0,nth L 1,nth L 2,nth L 3]) (fun i hi=>by simp at hi; match i,hi with | 0,_=>rfl | 1,_=>rfl | 2,_=>rfl | 3,_=>rfl)))
  have HG1:Hid (Below w1.heap.size w1 (w1.alloc (.cells #[.int .i64 (nth L 0),.int .i64 (nth L 1),.int .i64 (nth L 2),.int .i64 (nth L 3)] 40))):=Lib.hid ((Below.refl _ _).alloc (Nat.le_refl _) _);have hj0:(0:Int)<(j:Int)+1:=by omega
  clear r1 hc hm;go_wp2;go_loopw [10] (fun v10 wr=>∃ k:Nat,v10 = .int .i64 ((k:Int)+1)∧k≤j∧Hid (RowF wr w1.heap.size 40 4 (ints (bst4 1 L k)))∧Hid (Below w1.heap.size w1 wr)) (fun v10 _=>j+1 - (intOf v10).toNat)
  case atStart=>exact ⟨0,by go_num,Nat.zero_le _,HR1,HG1⟩
  case round =>
   clear HR1 HG1 x0 x1 x2 x3;obtain ⟨k,rfl,hk,HQ,HG⟩:=hrel;by_cases hlt:k<j
   ·have y0:wr.cell? ⟨b,off+(k+1)*4,none⟩=some (.int .i64 (nth L ((k+1)*4))):=(HG.out.cell (by exact hbB)).trans (HC.out ((k+1)*4) (by omega))
    have y1:wr.cell? ⟨b,off+(k+1)*4+1,none⟩=some (.int .i64 (nth L ((k+1)*4+1))):=by
     have:=(HG.out.cell (p:=⟨b,off+((k+1)*4+1),none⟩) hbB).trans (HC.out ((k+1)*4+1) (by omega));rwa [← Nat.add_assoc] at this
    have y2:wr.cell? ⟨b,off+(k+1)*4+2,none⟩=some (.int .i64 (nth L ((k+1)*4+2))):=by
     have:=(HG.out.cell (p:=⟨b,off+((k+1)*4+2),none⟩) hbB).trans (HC.out ((k+1)*4+2) (by omega));rwa [← Nat.add_assoc] at this
    have y3:wr.cell? ⟨b,off+(k+1)*4+3,none⟩=some (.int .i64 (nth L ((k+1)*4+3))):=by
     have:=(HG.out.cell (p:=⟨b,off+((k+1)*4+3),none⟩) hbB).trans (HC.out ((k+1)*4+3) (by omega));rwa [← Nat.add_assoc] at this
    obtain ⟨⟨c0,c1,c2,c3⟩,_⟩:=row4 (a:=bstV 1 L k 0) (b:=bstV 1 L k 1) (c:=bstV 1 L k 2) (d:=bstV 1 L k 3) HQ.out;have TT:Hid (better 1 L k=1→bst4 1 L (k+1) = [nth L ((k+1)*4),nth L ((k+1)*4+1),nth L ((k+1)*4+2),nth L ((k+1)*4+3)]):=Lib.hid (fun h=>by unfold bst4; rw [bstV_t h,bstV_t h,bstV_t h,bstV_t h]; rfl)
    have TF:Hid (¬ better 1 L k=1→bst4 1 L (k+1)=bst4 1 L k):=Lib.hid (fun h=>by unfold bst4; rw [bstV_f h,bstV_f h,bstV_f h,bstV_f h]);unfold better at TT TF;have hz:=HG.out.size;have hgl:=HQ.out.lt;have i1:IntKind.i64.wrap ((k:Int)+1+1)=(k:Int)+1+1:=IntWalk.i64_in _ (by omega);have ik:(k:Int)+1<((j+1:Nat):Int):=by omega
    have ik2:(k:Int)+1<(j:Int)+1:=by omega
    have ip:(0:Int)≤(k:Int)+1:=by omega
    have it:((k:Int)+1).toNat=k+1:=by omega
    generalize nth L ((k+1)*4)=p0 at *
    generalize nth L ((k+1)*4+1)=p1 at *
    generalize nth L ((k+1)*4+2)=p2 at *
    generalize nth L ((k+1)*4+3)=p3 at *
    generalize hq0:bstV 1 L k 0=q0 at *
    generalize hq1:bstV 1 L k 1=q1 at *
    generalize hq2:bstV 1 L k 2=q2 at *
    generalize hq3:bstV 1 L k 3=q3 at *
    go_wp2_with fail
    go_region_held3 (fun w'=>(w'.cell? ⟨b,off+(k+1)*4,none⟩=some (.int .i64 p0)∧w'.cell? ⟨b,off+(k+1)*4+1,none⟩=some (.int .i64 p1)∧w'.cell? ⟨b,off+(k+1)*4+2,none⟩=some (.int .i64 p2)∧w'.cell? ⟨b,off+(k+1)*4+3,none⟩=some (.int .i64 p3))∧(w'.cell? ⟨w1.heap.size,0,none⟩=some (.int .i64 q0)∧w'.cell? ⟨w1.heap.size,1,none⟩=some (.int .i64 q1)∧w'.cell? ⟨w1.heap.size,2,none⟩=some (.int .i64 q2)∧w'.cell? ⟨w1.heap.size,3,none⟩=some (.int .i64 q3))) (first | exact ⟨⟨y0,y1,y2,y3⟩,⟨c0,c1,c2,c3⟩⟩ | exact hk2) ((go_at_call 88; refine (sCmpT_any p0 p1 p2 p3 q0 q1 q2 q3 _).mono ?_; rintro e w2 ⟨rfl,hbx⟩; have hb2:=below_undrew hbx; have hk2:(w2.cell? ⟨b,off+(k+1)*4,none⟩=some (.int .i64 p0)∧w2.cell? ⟨b,off+(k+1)*4+1,none⟩=some (.int .i64 p1)∧w2.cell? ⟨b,off+(k+1)*4+2,none⟩=some (.int .i64 p2)∧w2.cell? ⟨b,off+(k+1)*4+3,none⟩=some (.int .i64 p3))∧(w2.cell? ⟨w1.heap.size,0,none⟩=some (.int .i64 q0)∧w2.cell? ⟨w1.heap.size,1,none⟩=some (.int .i64 q1)∧w2.cell? ⟨w1.heap.size,2,none⟩=some (.int .i64 q2)∧w2.cell? ⟨w1.heap.size,3,none⟩=some (.int .i64 q3)):=⟨⟨(hb2.cell (p:=⟨b,_,none⟩) (Nat.lt_of_lt_of_le hbB hz)).trans y0,(hb2.cell (p:=⟨b,_,none⟩) (Nat.lt_of_lt_of_le hbB hz)).trans y1,(hb2.cell (p:=⟨b,_,none⟩) (Nat.lt_of_lt_of_le hbB hz)).trans y2,(hb2.cell (p:=⟨b,_,none⟩) (Nat.lt_of_lt_of_le hbB hz)).trans y3⟩,⟨(hb2.cell (p:=⟨w1.heap.size,_,none⟩) hgl).trans c0,(hb2.cell (p:=⟨w1.heap.size,_,none⟩) hgl).trans c1,(hb2.cell (p:=⟨w1.heap.size,_,none⟩) hgl).trans c2,(hb2.cell (p:=⟨w1.heap.size,_,none⟩) hgl).trans c3⟩⟩));have HG2:=Lib.hid (HG.out.trans (hb2.mono hz));have HQ2:=Lib.hid (HQ.out.after hb2);obtain ⟨⟨y0',y1',y2',y3'⟩,⟨c0',c1',c2',c3'⟩⟩:=hk2;clear hb2 hbx HG HQ y0 y1 y2 y3 c0 c1 c2 c3;generalize hcm:cmpT p0 p1 p2 p3 q0 q1 q2 q3=cm at *
    by_cases hbt:cm=1
    ·have HF:=Lib.hid (TT.out hbt)
     subst hbt;obtain ⟨_,g0,g1,g2,g3⟩:=row4 (a:=bstV 1 L k 0) (b:=bstV 1 L k 1) (c:=bstV 1 L k 2) (d:=bstV 1 L k 3) HQ2.out;have HX3:=Lib.hid (((((HQ2.out.set 0 (.int .i64 p0)).set 1 (.int .i64 p1)).set 2 (.int .i64 p2)).set 3 (.int .i64 p3)).congr (f':=ints [p0,p1,p2,p3]) (fun i hi=>by match i,hi with | 0,_=>rfl | 1,_=>rfl | 2,_=>rfl | 3,_=>rfl));have HG3:=Lib.hid (below_set4' HG2.out (Nat.le_refl _) (.int .i64 p0) (.int .i64 p1) (.int .i64 p2) (.int .i64 p3));go_wp2;go_roundw
     case rel=>exact ⟨k+1,by go_num,by omega,by rw [HF.out]; exact HX3,HG3⟩
     case measure=>simp [intOf]; omega
    ·have HF:=Lib.hid (TF.out hbt)
     have hbe:(cm == 1)=false:=by simp [hbt]
     clear hbt y0' y1' y2' y3' c0' c1' c2' c3';go_wp2;go_roundw
     case rel=>exact ⟨k+1,by go_num,by omega,by rw [HF.out]; exact HQ2,HG2⟩
     case measure=>simp [intOf]; omega
   ·obtain rfl:k=j:=by omega
    have ik:¬ (k:Int)+1<((k+1:Nat):Int):=by omega
    have ik2:¬ (k:Int)+1<(k:Int)+1:=by omega
    have HA2:=Lib.hid (HA1.out.after HG.out);have HB2:=Lib.hid (below_then HB1.out HG.out);obtain ⟨⟨c0,c1,c2,c3⟩,_⟩:=row4 (a:=bstV 1 L k 0) (b:=bstV 1 L k 1) (c:=bstV 1 L k 2) (d:=bstV 1 L k 3) HQ.out;obtain ⟨⟨d0,d1,d2,d3⟩,f0,f1,f2,f3⟩:=row4 HA2.out;go_wp2;refine bodyPost_ret (v:=thrV (bstV 1 L k 0) (bstV 1 L k 1) (bstV 1 L k 2) (bstV 1 L k 3) true) (by simp [thrV,results,Tryz.results62,go_sem, *]) rfl ⟨by first | rfl | (rw [HE.out]; rfl),?_⟩
    exact below_set4' HB2.out (Nat.le_succ _) _ _ _ _
set_option maxRecDepth 100000 in
set_option maxHeartbeats 3200000 in
theorem sEndF_any:Calls Tryzx.prog 62 #[.agg #[.slice A n c],.slice B q d,.bool false] w (EndPost w (decide (0<thrN zs n ls q)) (-1) (thrL zs n ls q) (thrN zs n ls q)):=by
 have hz0:(w.alloc (.cells #[.slice A n c] 32)).heap.size=w.heap.size+1:=by simp
 have b0:Below w.heap.size w ((w.alloc (.cells #[.slice A n c] 32)).alloc (.cells #[.int .i64 0,.int .i64 0,.int .i64 0,.int .i64 0] 40)):=((Below.refl _ _).alloc (Nat.le_refl _) _).alloc (by simp) _;have bx0:Box ((w.alloc (.cells #[.slice A n c] 32)).alloc (.cells #[.int .i64 0,.int .i64 0,.int .i64 0,.int .i64 0] 40)) w.heap.size (.slice A n c):=(Box.new w (.slice A n c) 32).alloc _;have HA0:Hid (RowF ((w.alloc (.cells #[.slice A n c] 32)).alloc (.cells #[.int .i64 0,.int .i64 0,.int .i64 0,.int .i64 0] 40)) (w.heap.size+1) 40 4 (ints [0,0,0,0])):=Lib.hid (by
  have h:=RowF.of_row (World.rowIs_alloc (w.alloc (.cells #[.slice A n c] 32)) #[.int .i64 0,.int .i64 0,.int .i64 0,.int .i64 0] 40 (ints [0,0,0,0]) (fun i hi=>by simp at hi; match i,hi with | 0,_=>rfl | 1,_=>rfl | 2,_=>rfl | 3,_=>rfl))
  rw [hz0] at h;exact h)
 have HX:=Lib.hid bx0;have HH:=Lib.hid h;have HL:=Lib.hid hl;have HB0:=Lib.hid b0;have cx0:=bx0.1;have hw1:=h.after b0;have hw2:=hl.after b0;clear hz0 b0 bx0 h hl;go_enter Tryzx.func62,Tryz.ntmps62;go_wp2_with fail
 refine (sThr_any _ _ _ zs _ _ _ ls _ (by exact hw1) hn (by exact hw2) hq).mono ?_;rintro e w1 ⟨v1,rfl,ho1,hb1⟩;have HA1:=Lib.hid (HA0.out.after hb1);have HB1:=Lib.hid (below_then HB0.out hb1);obtain ⟨A1,c1,rfl,hcap⟩:=ho1.slice;have r1:=ho1.recs;have hfew:thrN zs n ls q≤8000:=by have:=(corn_acc (rowsZ zs n ls q) (rowsN zs n ls q)).few; unfold thrN; omega
 generalize thrN zs n ls q=m at *
 generalize thrL zs n ls q=L at *
 clear hb1 ho1 hw1 hw2 cx0 HA0 HB0 HX;by_cases hm:m=0
 ·subst hm
  have HE:=Lib.hid (endV_f (ok:=decide (0<0)) (by decide) (-1) L 0);clear r1;obtain ⟨⟨d0,d1,d2,d3⟩,f0,f1,f2,f3⟩:=row4 HA1.out;go_wp2;refine bodyPost_ret (v:=thrV 0 0 0 0 false) (by simp [thrV,results,Tryz.results62,go_sem, *]) rfl ⟨by rw [HE.out],?_⟩;exact below_set4' HB1.out (Nat.le_succ _) _ _ _ _
 ·obtain ⟨j,rfl⟩:∃ j,m=j+1:=⟨m - 1,by omega⟩
  have HE:=Lib.hid (endV_t (ok:=decide (0<j+1)) (decide_eq_true (by omega)) (-1) L (j+1));obtain ⟨b,off,rfl,hbB,hc⟩:=r1.2 (by omega);have x0:w1.cell? ⟨b,off,none⟩=some (.int .i64 (nth L 0)):=hc 0 (by omega);have x1:w1.cell? ⟨b,off+1,none⟩=some (.int .i64 (nth L 1)):=hc 1 (by omega);have x2:w1.cell? ⟨b,off+2,none⟩=some (.int .i64 (nth L 2)):=hc 2 (by omega);have x3:w1.cell? ⟨b,off+3,none⟩=some (.int .i64 (nth L 3)):=hc 3 (by omega);have HC:=Lib.hid hc;have hne:(((j+1:Nat):Int) == 0)=false:=by simp; omega
  have hne2:(((j:Int)+1) == 0)=false:=by simp; omega
  have HR1:Hid (RowF (w1.alloc (.cells #[.int .i64 (nth L 0),.int .i64 (nth L 1),.int .i64 (nth L 2),.int .i64 (nth L 3)] 40)) w1.heap.size 40 4 (ints (bst4 (-1) L 0))):=Lib.hid (by
   unfold bst4;rw [bstV_0,bstV_0,bstV_0,bstV_0];exact RowF.of_row (World.rowIs_alloc w1 #[.int .i64 (nth L 0),.int .i64 (nth L 1),.int .i64 (nth L 2),.int .i64 (nth L 3)] 40 (ints [nth L 0,nth L 1,nth L 2,nth L 3]) (fun i hi=>by simp at hi; match i,hi with | 0,_=>rfl | 1,_=>rfl | 2,_=>rfl | 3,_=>rfl)))
  have HG1:Hid (Below w1.heap.size w1 (w1.alloc (.cells #[.int .i64 (nth L 0),.int .i64 (nth L 1),.int .i64 (nth L 2),.int .i64 (nth L 3)] 40))):=Lib.hid ((Below.refl _ _).alloc (Nat.le_refl _) _);have hj0:(0:Int)<(j:Int)+1:=by omega
  clear r1 hc hm;go_wp2;go_loopw [10] (fun v10 wr=>∃ k:Nat,v10 = .int .i64 ((k:Int)+1)∧k≤j∧Hid (RowF wr w1.heap.size 40 4 (ints (bst4 (-1) L k)))∧Hid (Below w1.heap.size w1 wr)) (fun v10 _=>j+1 - (intOf v10).toNat)
  case atStart=>exact ⟨0,by go_num,Nat.zero_le _,HR1,HG1⟩
  case round =>
   clear HR1 HG1 x0 x1 x2 x3;obtain ⟨k,rfl,hk,HQ,HG⟩:=hrel;by_cases hlt:k<j
   ·have y0:wr.cell? ⟨b,off+(k+1)*4,none⟩=some (.int .i64 (nth L ((k+1)*4))):=(HG.out.cell (by exact hbB)).trans (HC.out ((k+1)*4) (by omega))
    have y1:wr.cell? ⟨b,off+(k+1)*4+1,none⟩=some (.int .i64 (nth L ((k+1)*4+1))):=by
     have:=(HG.out.cell (p:=⟨b,off+((k+1)*4+1),none⟩) hbB).trans (HC.out ((k+1)*4+1) (by omega));rwa [← Nat.add_assoc] at this
    have y2:wr.cell? ⟨b,off+(k+1)*4+2,none⟩=some (.int .i64 (nth L ((k+1)*4+2))):=by
     have:=(HG.out.cell (p:=⟨b,off+((k+1)*4+2),none⟩) hbB).trans (HC.out ((k+1)*4+2) (by omega));rwa [← Nat.add_assoc] at this
    have y3:wr.cell? ⟨b,off+(k+1)*4+3,none⟩=some (.int .i64 (nth L ((k+1)*4+3))):=by
     have:=(HG.out.cell (p:=⟨b,off+((k+1)*4+3),none⟩) hbB).trans (HC.out ((k+1)*4+3) (by omega));rwa [← Nat.add_assoc] at this
    obtain ⟨⟨c0,c1,c2,c3⟩,_⟩:=row4 (a:=bstV (-1) L k 0) (b:=bstV (-1) L k 1) (c:=bstV (-1) L k 2) (d:=bstV (-1) L k 3) HQ.out;have TT:Hid (better (-1) L k=(-1)→bst4 (-1) L (k+1) = [nth L ((k+1)*4),nth L ((k+1)*4+1),nth L ((k+1)*4+2),nth L ((k+1)*4+3)]):=Lib.hid (fun h=>by unfold bst4; rw [bstV_t h,bstV_t h,bstV_t h,bstV_t h]; rfl)
    have TF:Hid (¬ better (-1) L k=(-1)→bst4 (-1) L (k+1)=bst4 (-1) L k):=Lib.hid (fun h=>by unfold bst4; rw [bstV_f h,bstV_f h,bstV_f h,bstV_f h]);unfold better at TT TF;have hz:=HG.out.size;have hgl:=HQ.out.lt;have i1:IntKind.i64.wrap ((k:Int)+1+1)=(k:Int)+1+1:=IntWalk.i64_in _ (by omega);have ik:(k:Int)+1<((j+1:Nat):Int):=by omega
    have ik2:(k:Int)+1<(j:Int)+1:=by omega
    have ip:(0:Int)≤(k:Int)+1:=by omega
    have it:((k:Int)+1).toNat=k+1:=by omega
    generalize nth L ((k+1)*4)=p0 at *
    generalize nth L ((k+1)*4+1)=p1 at *
    generalize nth L ((k+1)*4+2)=p2 at *
    generalize nth L ((k+1)*4+3)=p3 at *
    generalize hq0:bstV (-1) L k 0=q0 at *
    generalize hq1:bstV (-1) L k 1=q1 at *
    generalize hq2:bstV (-1) L k 2=q2 at *
    generalize hq3:bstV (-1) L k 3=q3 at *
    go_wp2_with fail
    go_region_held3 (fun w'=>(w'.cell? ⟨b,off+(k+1)*4,none⟩=some (.int .i64 p0)∧w'.cell? ⟨b,off+(k+1)*4+1,none⟩=some (.int .i64 p1)∧w'.cell? ⟨b,off+(k+1)*4+2,none⟩=some (.int .i64 p2)∧w'.cell? ⟨b,off+(k+1)*4+3,none⟩=some (.int .i64 p3))∧(w'.cell? ⟨w1.heap.size,0,none⟩=some (.int .i64 q0)∧w'.cell? ⟨w1.heap.size,1,none⟩=some (.int .i64 q1)∧w'.cell? ⟨w1.heap.size,2,none⟩=some (.int .i64 q2)∧w'.cell? ⟨w1.heap.size,3,none⟩=some (.int .i64 q3))) (first | exact ⟨⟨y0,y1,y2,y3⟩,⟨c0,c1,c2,c3⟩⟩ | exact hk2) ((go_at_call 88; refine (sCmpT_any p0 p1 p2 p3 q0 q1 q2 q3 _).mono ?_; rintro e w2 ⟨rfl,hbx⟩; have hb2:=below_undrew hbx; have hk2:(w2.cell? ⟨b,off+(k+1)*4,none⟩=some (.int .i64 p0)∧w2.cell? ⟨b,off+(k+1)*4+1,none⟩=some (.int .i64 p1)∧w2.cell? ⟨b,off+(k+1)*4+2,none⟩=some (.int .i64 p2)∧w2.cell? ⟨b,off+(k+1)*4+3,none⟩=some (.int .i64 p3))∧(w2.cell? ⟨w1.heap.size,0,none⟩=some (.int .i64 q0)∧w2.cell? ⟨w1.heap.size,1,none⟩=some (.int .i64 q1)∧w2.cell? ⟨w1.heap.size,2,none⟩=some (.int .i64 q2)∧w2.cell? ⟨w1.heap.size,3,none⟩=some (.int .i64 q3)):=⟨⟨(hb2.cell (p:=⟨b,_,none⟩) (Nat.lt_of_lt_of_le hbB hz)).trans y0,(hb2.cell (p:=⟨b,_,none⟩) (Nat.lt_of_lt_of_le hbB hz)).trans y1,(hb2.cell (p:=⟨b,_,none⟩) (Nat.lt_of_lt_of_le hbB hz)).trans y2,(hb2.cell (p:=⟨b,_,none⟩) (Nat.lt_of_lt_of_le hbB hz)).trans y3⟩,⟨(hb2.cell (p:=⟨w1.heap.size,_,none⟩) hgl).trans c0,(hb2.cell (p:=⟨w1.heap.size,_,none⟩) hgl).trans c1,(hb2.cell (p:=⟨w1.heap.size,_,none⟩) hgl).trans c2,(hb2.cell (p:=⟨w1.heap.size,_,none⟩) hgl).trans c3⟩⟩));have HG2:=Lib.hid (HG.out.trans (hb2.mono hz));have HQ2:=Lib.hid (HQ.out.after hb2);obtain ⟨⟨y0',y1',y2',y3'⟩,⟨c0',c1',c2',c3'⟩⟩:=hk2;clear hb2 hbx HG HQ y0 y1 y2 y3 c0 c1 c2 c3;generalize hcm:cmpT p0 p1 p2 p3 q0 q1 q2 q3=cm at *
    by_cases hbt:cm=(-1)
    ·have HF:=Lib.hid (TT.out hbt)
     subst hbt;obtain ⟨_,g0,g1,g2,g3⟩:=row4 (a:=bstV (-1) L k 0) (b:=bstV (-1) L k 1) (c:=bstV (-1) L k 2) (d:=bstV (-1) L k 3) HQ2.out;have HX3:=Lib.hid (((((HQ2.out.set 0 (.int .i64 p0)).set 1 (.int .i64 p1)).set 2 (.int .i64 p2)).set 3 (.int .i64 p3)).congr (f':=ints [p0,p1,p2,p3]) (fun i hi=>by match i,hi with | 0,_=>rfl | 1,_=>rfl | 2,_=>rfl | 3,_=>rfl));have HG3:=Lib.hid (below_set4' HG2.out (Nat.le_refl _) (.int .i64 p0) (.int .i64 p1) (.int .i64 p2) (.int .i64 p3));go_wp2;go_roundw
     case rel=>exact ⟨k+1,by go_num,by omega,by rw [HF.out]; exact HX3,HG3⟩
     case measure=>simp [intOf]; omega
    ·have HF:=Lib.hid (TF.out hbt)
     have hbe:(cm == (-1))=false:=by simp [hbt]
     clear hbt y0' y1' y2' y3' c0' c1' c2' c3';go_wp2;go_roundw
     case rel=>exact ⟨k+1,by go_num,by omega,by rw [HF.out]; exact HQ2,HG2⟩
     case measure=>simp [intOf]; omega
   ·obtain rfl:k=j:=by omega
    have ik:¬ (k:Int)+1<((k+1:Nat):Int):=by omega
    have ik2:¬ (k:Int)+1<(k:Int)+1:=by omega
    have HA2:=Lib.hid (HA1.out.after HG.out);have HB2:=Lib.hid (below_then HB1.out HG.out);obtain ⟨⟨c0,c1,c2,c3⟩,_⟩:=row4 (a:=bstV (-1) L k 0) (b:=bstV (-1) L k 1) (c:=bstV (-1) L k 2) (d:=bstV (-1) L k 3) HQ.out;obtain ⟨⟨d0,d1,d2,d3⟩,f0,f1,f2,f3⟩:=row4 HA2.out;go_wp2;refine bodyPost_ret (v:=thrV (bstV (-1) L k 0) (bstV (-1) L k 1) (bstV (-1) L k 2) (bstV (-1) L k 3) true) (by simp [thrV,results,Tryz.results62,go_sem, *]) rfl ⟨by first | rfl | (rw [HE.out]; rfl),?_⟩
    exact below_set4' HB2.out (Nat.le_succ _) _ _ _ _
set_option maxRecDepth 100000 in
set_option maxHeartbeats 3200000 in
theorem sGrt_any:Calls Tryzx.prog 36 #[.agg #[.slice A n c],.slice B q d] w (EndPost w (grtB zs n ls q) 1 (thrL zs n ls q) (thrN zs n ls q)):=by
 have hz0:(w.alloc (.cells #[.slice A n c] 32)).heap.size=w.heap.size+1:=by simp
 have b0:Below w.heap.size w ((w.alloc (.cells #[.slice A n c] 32)).alloc (.cells #[.int .i64 0,.int .i64 0,.int .i64 0,.int .i64 0] 40)):=((Below.refl _ _).alloc (Nat.le_refl _) _).alloc (by simp) _;have bx0:Box ((w.alloc (.cells #[.slice A n c] 32)).alloc (.cells #[.int .i64 0,.int .i64 0,.int .i64 0,.int .i64 0] 40)) w.heap.size (.slice A n c):=(Box.new w (.slice A n c) 32).alloc _;have HA0:Hid (RowF ((w.alloc (.cells #[.slice A n c] 32)).alloc (.cells #[.int .i64 0,.int .i64 0,.int .i64 0,.int .i64 0] 40)) (w.heap.size+1) 40 4 (ints [0,0,0,0])):=Lib.hid (by
  have h:=RowF.of_row (World.rowIs_alloc (w.alloc (.cells #[.slice A n c] 32)) #[.int .i64 0,.int .i64 0,.int .i64 0,.int .i64 0] 40 (ints [0,0,0,0]) (fun i hi=>by simp at hi; match i,hi with | 0,_=>rfl | 1,_=>rfl | 2,_=>rfl | 3,_=>rfl))
  rw [hz0] at h;exact h)
 have HX:=Lib.hid bx0;have HH:=Lib.hid h;have HL:=Lib.hid hl;have HB0:=Lib.hid b0;have cx0:=bx0.1;have hw1:=h.after b0;have hw2:=hl.after b0;clear hz0 b0 bx0 h hl;go_enter Tryzx.func36,Tryz.ntmps36;go_wp2_with fail
 refine (sIsStraight_any _ _ _ zs _ (by exact hw1) hn).mono ?_;cases hS:strB zs n
 ·rintro e w1 ⟨rfl,hb1⟩
  have HA1:=Lib.hid (HA0.out.after hb1);have HB1:=Lib.hid (below_then HB0.out hb1);have cx1:=(HX.out.after hb1).1;have hr1:=hw1.after hb1;have hr2:=hw2.after hb1;have HG:=Lib.hid (grt_3 (ls:=ls) (q:=q) hS);clear hb1 cx0 HA0 HB0 HX hw1 hw2;go_wp2_with fail
  refine (sEndT_any _ _ _ zs _ _ _ ls _ (by exact hr1) hn (by exact hr2) hq).mono ?_;rintro e w2 ⟨rfl,hb2⟩;rw [← HG.out];have HA2:=Lib.hid (HA1.out.after hb2);have HB2:=Lib.hid (below_then HB1.out hb2);clear hb2 cx1 hr1 hr2;cases hok:grtB zs n ls q
  ·have HE:=Lib.hid (endV_f hok 1 (thrL zs n ls q) (thrN zs n ls q))
   have HE2:=Lib.hid (endV_f (ok:=false) rfl 1 (thrL zs n ls q) (thrN zs n ls q));rw [HE2.out];unfold thrV;obtain ⟨⟨d0,d1,d2,d3⟩,f0,f1,f2,f3⟩:=row4 HA2.out;go_wp2;refine bodyPost_ret (v:=thrV 0 0 0 0 false) (by simp [thrV,results,Tryz.results36,go_sem, *]) rfl ⟨by rw [HE.out],?_⟩;exact below_set4' HB2.out (Nat.le_succ _) _ _ _ _
  ·have HE:=Lib.hid (endV_t hok 1 (thrL zs n ls q) (thrN zs n ls q))
   have HE2:=Lib.hid (endV_t (ok:=true) rfl 1 (thrL zs n ls q) (thrN zs n ls q));rw [HE2.out];generalize bstV 1 (thrL zs n ls q) (thrN zs n ls q - 1) 0=q0 at *
   generalize bstV 1 (thrL zs n ls q) (thrN zs n ls q - 1) 1=q1 at *
   generalize bstV 1 (thrL zs n ls q) (thrN zs n ls q - 1) 2=q2 at *
   generalize bstV 1 (thrL zs n ls q) (thrN zs n ls q - 1) 3=q3 at *
   unfold thrV;obtain ⟨⟨d0,d1,d2,d3⟩,f0,f1,f2,f3⟩:=row4 HA2.out;go_wp2;refine bodyPost_ret (v:=thrV q0 q1 q2 q3 true) (by simp [thrV,results,Tryz.results36,go_sem, *]) rfl ⟨by rw [HE.out],?_⟩;exact below_set4' HB2.out (Nat.le_succ _) _ _ _ _
 ·rintro e w1 ⟨rfl,hb1⟩
  have HA1:=Lib.hid (HA0.out.after hb1);have HB1:=Lib.hid (below_then HB0.out hb1);have HE:=Lib.hid (endV_f (grt_2 (ls:=ls) (q:=q) hS) 1 (thrL zs n ls q) (thrN zs n ls q));clear hb1 cx0 HA0 HB0 HX hw1 hw2;obtain ⟨⟨d0,d1,d2,d3⟩,f0,f1,f2,f3⟩:=row4 HA1.out;go_wp2;refine bodyPost_ret (v:=thrV 0 0 0 0 false) (by simp [thrV,results,Tryz.results36,go_sem, *]) rfl ⟨by rw [HE.out],?_⟩;exact below_set4' HB1.out (Nat.le_succ _) _ _ _ _
set_option maxRecDepth 100000 in
set_option maxHeartbeats 3200000 in
theorem iGrt_any:Calls Tryzx.prog 41 #[.agg #[.slice A n c],.slice B q d] w (EndPost w (grtB zs n ls q) 1 (thrL zs n ls q) (thrN zs n ls q)):=by
 have hz0:(w.alloc (.cells #[.slice A n c] 32)).heap.size=w.heap.size+1:=by simp
 have b0:Below w.heap.size w ((w.alloc (.cells #[.slice A n c] 32)).alloc (.cells #[.int .i64 0,.int .i64 0,.int .i64 0,.int .i64 0] 40)):=((Below.refl _ _).alloc (Nat.le_refl _) _).alloc (by simp) _;have bx0:Box ((w.alloc (.cells #[.slice A n c] 32)).alloc (.cells #[.int .i64 0,.int .i64 0,.int .i64 0,.int .i64 0] 40)) w.heap.size (.slice A n c):=(Box.new w (.slice A n c) 32).alloc _;have HA0:Hid (RowF ((w.alloc (.cells #[.slice A n c] 32)).alloc (.cells #[.int .i64 0,.int .i64 0,.int .i64 0,.int .i64 0] 40)) (w.heap.size+1) 40 4 (ints [0,0,0,0])):=Lib.hid (by
  have h:=RowF.of_row (World.rowIs_alloc (w.alloc (.cells #[.slice A n c] 32)) #[.int .i64 0,.int .i64 0,.int .i64 0,.int .i64 0] 40 (ints [0,0,0,0]) (fun i hi=>by simp at hi; match i,hi with | 0,_=>rfl | 1,_=>rfl | 2,_=>rfl | 3,_=>rfl))
  rw [hz0] at h;exact h)
 have HX:=Lib.hid bx0;have HH:=Lib.hid h;have HL:=Lib.hid hl;have HB0:=Lib.hid b0;have cx0:=bx0.1;have hw1:=h.after b0;have hw2:=hl.after b0;clear hz0 b0 bx0 h hl;go_enter Tryzx.func41,Tryz.ntmps41;go_wp2_with fail
 refine (iThr_any _ _ _ zs _ _ _ ls _ (by exact hw1) hn (by exact hw2) hq).mono ?_;rintro e w1 ⟨v1,rfl,ho1,hb1⟩;have HA1:=Lib.hid (HA0.out.after hb1);have HB1:=Lib.hid (below_then HB0.out hb1);have cx1:=(HX.out.after hb1).1;have hr1:=hw1.after hb1;have HX1:=Lib.hid (HX.out.after hb1);obtain ⟨A1,c1,rfl,hcap⟩:=ho1.slice;have hcm:=ho1.cap;have r1:=ho1.recs;clear hb1 ho1 cx0 HA0 HB0 HX hw1 hw2;by_cases hm:thrN zs n ls q=0
 ·have HE:=Lib.hid (endV_f (grt_1 (zs:=zs) (n:=n) (ls:=ls) (q:=q) hm) 1 (thrL zs n ls q) (thrN zs n ls q))
  have hme:(((thrN zs n ls q:Nat):Int) == 0)=true:=by rw [hm]; rfl
  clear r1 cx1 hr1 hm;obtain ⟨⟨d0,d1,d2,d3⟩,f0,f1,f2,f3⟩:=row4 HA1.out;go_wp2;refine bodyPost_ret (v:=thrV 0 0 0 0 false) (by simp [thrV,results,Tryz.results41,go_sem, *]) rfl ⟨by rw [HE.out],?_⟩;exact below_set4' HB1.out (Nat.le_succ _) _ _ _ _
 ·have hme:(((thrN zs n ls q:Nat):Int) == 0)=false:=by simp; omega
  go_wp2_with fail
  refine (iIsStraight_any _ _ _ zs _ (by exact hr1) hn).mono ?_;cases hS:strB zs n
  ·have HE:=Lib.hid (endV_t (show grtB zs n ls q=true by rw [grt_3 hS]; exact decide_eq_true (by omega)) 1 (thrL zs n ls q) (thrN zs n ls q))
   rintro e w2 ⟨rfl,hb2⟩;have HA2:=Lib.hid (HA1.out.after hb2);have HB2:=Lib.hid (below_then HB1.out hb2);have r2:=r1.after hb2;have hfew:thrN zs n ls q≤1048576:=by have:=(corn_acc (rowsZ zs n ls q) (rowsN zs n ls q)).few; unfold thrN; omega
   clear hb2 cx1 hr1 r1;go_wp2_with fail
   refine (bestGreatestThrust_any _ _ _ (thrL zs n ls q) _ (by exact r2) (by omega) hfew hcap hcm).mono ?_;rintro e w3 ⟨rfl,hb3⟩;have HA3:=Lib.hid (HA2.out.after hb3);have HB3:=Lib.hid (below_then HB2.out hb3);generalize bstV 1 (thrL zs n ls q) (thrN zs n ls q - 1) 0=q0 at *
   generalize bstV 1 (thrL zs n ls q) (thrN zs n ls q - 1) 1=q1 at *
   generalize bstV 1 (thrL zs n ls q) (thrN zs n ls q - 1) 2=q2 at *
   generalize bstV 1 (thrL zs n ls q) (thrN zs n ls q - 1) 3=q3 at *
   clear hb3 r2;obtain ⟨⟨d0,d1,d2,d3⟩,f0,f1,f2,f3⟩:=row4 HA3.out;go_wp2;refine bodyPost_ret (v:=thrV q0 q1 q2 q3 true) (by simp [thrV,results,Tryz.results41,go_sem, *]) rfl ⟨by rw [HE.out],?_⟩;exact below_set4' HB3.out (Nat.le_succ _) _ _ _ _
  ·have HE:=Lib.hid (endV_f (grt_2 (ls:=ls) (q:=q) hS) 1 (thrL zs n ls q) (thrN zs n ls q))
   rintro e w2 ⟨rfl,hb2⟩;have HA2:=Lib.hid (HA1.out.after hb2);have HB2:=Lib.hid (below_then HB1.out hb2);clear hb2 cx1 hr1 r1;obtain ⟨⟨d0,d1,d2,d3⟩,f0,f1,f2,f3⟩:=row4 HA2.out;go_wp2;refine bodyPost_ret (v:=thrV 0 0 0 0 false) (by simp [thrV,results,Tryz.results41,go_sem, *]) rfl ⟨by rw [HE.out],?_⟩;exact below_set4' HB2.out (Nat.le_succ _) _ _ _ _
set_option maxRecDepth 100000 in
set_option maxHeartbeats 3200000 in
theorem sLst_any:Calls Tryzx.prog 35 #[.agg #[.slice A n c],.slice B q d] w (EndPost w (lstB zs n ls q) (-1) (thrL zs n ls q) (thrN zs n ls q)):=by
 have hz0:(w.alloc (.cells #[.slice A n c] 32)).heap.size=w.heap.size+1:=by simp
 have b0:Below w.heap.size w ((w.alloc (.cells #[.slice A n c] 32)).alloc (.cells #[.int .i64 0,.int .i64 0,.int .i64 0,.int .i64 0] 40)):=((Below.refl _ _).alloc (Nat.le_refl _) _).alloc (by simp) _;have bx0:Box ((w.alloc (.cells #[.slice A n c] 32)).alloc (.cells #[.int .i64 0,.int .i64 0,.int .i64 0,.int .i64 0] 40)) w.heap.size (.slice A n c):=(Box.new w (.slice A n c) 32).alloc _;have HA0:Hid (RowF ((w.alloc (.cells #[.slice A n c] 32)).alloc (.cells #[.int .i64 0,.int .i64 0,.int .i64 0,.int .i64 0] 40)) (w.heap.size+1) 40 4 (ints [0,0,0,0])):=Lib.hid (by
  have h:=RowF.of_row (World.rowIs_alloc (w.alloc (.cells #[.slice A n c] 32)) #[.int .i64 0,.int .i64 0,.int .i64 0,.int .i64 0] 40 (ints [0,0,0,0]) (fun i hi=>by simp at hi; match i,hi with | 0,_=>rfl | 1,_=>rfl | 2,_=>rfl | 3,_=>rfl))
  rw [hz0] at h;exact h)
 have HX:=Lib.hid bx0;have HH:=Lib.hid h;have HL:=Lib.hid hl;have HB0:=Lib.hid b0;have cx0:=bx0.1;have hw1:=h.after b0;have hw2:=hl.after b0;clear hz0 b0 bx0 h hl;go_enter Tryzx.func35,Tryz.ntmps35;go_wp2_with fail
 refine (sEndF_any _ _ _ zs _ _ _ ls _ (by exact hw1) hn (by exact hw2) hq).mono ?_;rintro e w2 ⟨rfl,hb2⟩;have HG:Hid (lstB zs n ls q=decide (0<thrN zs n ls q)):=rfl;rw [← HG.out];have HA2:=Lib.hid (HA0.out.after hb2);have HB2:=Lib.hid (below_then HB0.out hb2);clear hb2 cx0 HA0 HB0 HX hw1 hw2;cases hok:lstB zs n ls q
 ·have HE:=Lib.hid (endV_f hok (-1) (thrL zs n ls q) (thrN zs n ls q))
  have HE2:=Lib.hid (endV_f (ok:=false) rfl (-1) (thrL zs n ls q) (thrN zs n ls q));rw [HE2.out];unfold thrV;obtain ⟨⟨d0,d1,d2,d3⟩,f0,f1,f2,f3⟩:=row4 HA2.out;go_wp2;refine bodyPost_ret (v:=thrV 0 0 0 0 false) (by simp [thrV,results,Tryz.results35,go_sem, *]) rfl ⟨by first | rfl | rw [HE.out],?_⟩;exact below_set4' HB2.out (Nat.le_succ _) _ _ _ _
 ·have HE:=Lib.hid (endV_t hok (-1) (thrL zs n ls q) (thrN zs n ls q))
  have HE2:=Lib.hid (endV_t (ok:=true) rfl (-1) (thrL zs n ls q) (thrN zs n ls q));rw [HE2.out];generalize bstV (-1) (thrL zs n ls q) (thrN zs n ls q - 1) 0=q0 at *
  generalize bstV (-1) (thrL zs n ls q) (thrN zs n ls q - 1) 1=q1 at *
  generalize bstV (-1) (thrL zs n ls q) (thrN zs n ls q - 1) 2=q2 at *
  generalize bstV (-1) (thrL zs n ls q) (thrN zs n ls q - 1) 3=q3 at *
  unfold thrV;obtain ⟨⟨d0,d1,d2,d3⟩,f0,f1,f2,f3⟩:=row4 HA2.out;go_wp2;refine bodyPost_ret (v:=thrV q0 q1 q2 q3 true) (by simp [thrV,results,Tryz.results35,go_sem, *]) rfl ⟨by first | (rw [HE.out]; done) | (rw [HE2.out]; done) | exact HE2.out.symm ▸ rfl,?_⟩
  exact below_set4' HB2.out (Nat.le_succ _) _ _ _ _
set_option maxRecDepth 100000 in
set_option maxHeartbeats 3200000 in
theorem iLst_any:Calls Tryzx.prog 40 #[.agg #[.slice A n c],.slice B q d] w (EndPost w (lstB zs n ls q) (-1) (thrL zs n ls q) (thrN zs n ls q)):=by
 have hz0:(w.alloc (.cells #[.slice A n c] 32)).heap.size=w.heap.size+1:=by simp
 have b0:Below w.heap.size w ((w.alloc (.cells #[.slice A n c] 32)).alloc (.cells #[.int .i64 0,.int .i64 0,.int .i64 0,.int .i64 0] 40)):=((Below.refl _ _).alloc (Nat.le_refl _) _).alloc (by simp) _;have bx0:Box ((w.alloc (.cells #[.slice A n c] 32)).alloc (.cells #[.int .i64 0,.int .i64 0,.int .i64 0,.int .i64 0] 40)) w.heap.size (.slice A n c):=(Box.new w (.slice A n c) 32).alloc _;have HA0:Hid (RowF ((w.alloc (.cells #[.slice A n c] 32)).alloc (.cells #[.int .i64 0,.int .i64 0,.int .i64 0,.int .i64 0] 40)) (w.heap.size+1) 40 4 (ints [0,0,0,0])):=Lib.hid (by
  have h:=RowF.of_row (World.rowIs_alloc (w.alloc (.cells #[.slice A n c] 32)) #[.int .i64 0,.int .i64 0,.int .i64 0,.int .i64 0] 40 (ints [0,0,0,0]) (fun i hi=>by simp at hi; match i,hi with | 0,_=>rfl | 1,_=>rfl | 2,_=>rfl | 3,_=>rfl))
  rw [hz0] at h;exact h)
 have HX:=Lib.hid bx0;have HH:=Lib.hid h;have HL:=Lib.hid hl;have HB0:=Lib.hid b0;have cx0:=bx0.1;have hw1:=h.after b0;have hw2:=hl.after b0;clear hz0 b0 bx0 h hl;go_enter Tryzx.func40,Tryz.ntmps40;go_wp2_with fail
 refine (iThr_any _ _ _ zs _ _ _ ls _ (by exact hw1) hn (by exact hw2) hq).mono ?_;rintro e w1 ⟨v1,rfl,ho1,hb1⟩;have HA1:=Lib.hid (HA0.out.after hb1);have HB1:=Lib.hid (below_then HB0.out hb1);obtain ⟨A1,c1,rfl,hcap⟩:=ho1.slice;have hcm:=ho1.cap;have r1:=ho1.recs;clear hb1 ho1 cx0 HA0 HB0 HX hw1 hw2;by_cases hm:thrN zs n ls q=0
 ·have HE:=Lib.hid (endV_f (show lstB zs n ls q=false by simp [lstB,hm]) (-1) (thrL zs n ls q) (thrN zs n ls q))
  have hme:(((thrN zs n ls q:Nat):Int) == 0)=true:=by rw [hm]; rfl
  clear r1 hm;obtain ⟨⟨d0,d1,d2,d3⟩,f0,f1,f2,f3⟩:=row4 HA1.out;go_wp2;refine bodyPost_ret (v:=thrV 0 0 0 0 false) (by simp [thrV,results,Tryz.results40,go_sem, *]) rfl ⟨by rw [HE.out],?_⟩;exact below_set4' HB1.out (Nat.le_succ _) _ _ _ _
 ·have hme:(((thrN zs n ls q:Nat):Int) == 0)=false:=by simp; omega
  have HE:=Lib.hid (endV_t (show lstB zs n ls q=true from decide_eq_true (by omega)) (-1) (thrL zs n ls q) (thrN zs n ls q));have hfew:thrN zs n ls q≤1048576:=by have:=(corn_acc (rowsZ zs n ls q) (rowsN zs n ls q)).few; unfold thrN; omega
  go_wp2_with fail
  refine (bestLeastThrust_any _ _ _ (thrL zs n ls q) _ (by exact r1) (by omega) hfew hcap hcm).mono ?_;rintro e w3 ⟨rfl,hb3⟩;have HA3:=Lib.hid (HA1.out.after hb3);have HB3:=Lib.hid (below_then HB1.out hb3);generalize bstV (-1) (thrL zs n ls q) (thrN zs n ls q - 1) 0=q0 at *
  generalize bstV (-1) (thrL zs n ls q) (thrN zs n ls q - 1) 1=q1 at *
  generalize bstV (-1) (thrL zs n ls q) (thrN zs n ls q - 1) 2=q2 at *
  generalize bstV (-1) (thrL zs n ls q) (thrN zs n ls q - 1) 3=q3 at *
  clear hb3 r1;obtain ⟨⟨d0,d1,d2,d3⟩,f0,f1,f2,f3⟩:=row4 HA3.out;go_wp2;refine bodyPost_ret (v:=thrV q0 q1 q2 q3 true) (by simp [thrV,results,Tryz.results40,go_sem, *]) rfl ⟨by rw [HE.out],?_⟩;exact below_set4' HB3.out (Nat.le_succ _) _ _ _ _
end
end X
end Go.Proofs.YtodneggnnipcnaaGreat
