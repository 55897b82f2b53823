/-
  Texts that the law stands on, part 27.
-/
import Derived.Test.YtjcgklifabcfkaaGreatV26
set_option maxRecDepth 100000
set_option linter.unusedVariables false
set_option linter.unusedSimpArgs false
set_option maxHeartbeats 12800000
namespace Go.Proofs.YtjcgklifabcfkaaGreat
namespace X
open Go.RowKit
def cmpN (x y:Int):Int:=if x<y then -1 else if y<x then 1 else 0
def cmpT (H V M D h v m d:Int):Int:=if thrB H V M D=true/\thrB h v m d=true then cmpN (H*d) (h*D) else -2
theorem cmpN_l {x y:Int} (h:x<y):cmpN x y = -1:=by simp [cmpN,h]
theorem cmpN_g {x y:Int} (h:y<x):cmpN x y=1:=by simp [cmpN,h,show ¬ x<y by omega]
theorem cmpN_e {x y:Int} (h:¬ x<y) (h':¬ y<x):cmpN x y=0:=by simp [cmpN,h,h']
theorem cmpT_1 {H V M D:Int} (h v m d:Int) (e:thrB H V M D=false):cmpT H V M D h v m d = -2:=by simp [cmpT,e]
theorem cmpT_2 (H V M D:Int) {h v m d:Int} (e:thrB h v m d=false):cmpT H V M D h v m d = -2:=by simp [cmpT,e]
theorem cmpT_3 {H V M D h v m d:Int} (e:thrB H V M D=true) (e':thrB h v m d=true):cmpT H V M D h v m d=cmpN (H*d) (h*D):=by simp [cmpT,e,e']
theorem thr_mul {H V M D h v m d:Int} (e:thrB H V M D=true) (e':thrB h v m d=true):IntKind.i64.wrap (H*d)=H*d/\IntKind.i64.wrap (h*D)=h*D:=by
 have a:=thrB_out e;have b:=thrB_out e';have m1:=mul_bd (m:=1000000000000) (n:=1000000) (a:=H) (b:=d) (by omega) (by omega);have m2:=mul_bd (m:=1000000000000) (n:=1000000) (a:=h) (b:=D) (by omega) (by omega);exact ⟨iW (by omega),iW (by omega)⟩
theorem cmp_any (x y:Int) (w:World):Calls Tryzx.prog 90 #[.int .i64 x,.int .i64 y] w fun e w'=>e = .returned (.int .i64 (cmpN x y))/\w=w':=by
 by_cases h1:x<y
 ·have HN:=q_ (cmpN_l h1)
  go_enter Tryzx.func90,Tryz.ntmps90;go_wp2;go_ret;exact ⟨by rw [HN.out]; rfl,rfl⟩
 ·by_cases h2:y<x
  ·have HN:=q_ (cmpN_g h2)
   have h3:x > y:=h2;go_enter Tryzx.func90,Tryz.ntmps90;go_wp2;go_ret;exact ⟨by rw [HN.out]; rfl,rfl⟩
  ·have HN:=q_ (cmpN_e h1 h2)
   have h3:¬ x > y:=h2;go_enter Tryzx.func90,Tryz.ntmps90;go_wp2;go_ret;exact ⟨by rw [HN.out]; rfl,rfl⟩
section
variable (H V M D h v m d : Int) (w : World)
theorem iCmpT_any:Calls Tryzx.prog 66 #[.agg #[.int .i64 H,.int .i64 V,.int .i64 M,.int .i64 D],.agg #[.int .i64 h,.int .i64 v,.int .i64 m,.int .i64 d]] w fun e w'=>e = .returned (.int .i64 (cmpT H V M D h v m d))/\Below w.heap.size w w':=by
 have b0:Below w.heap.size w ((w.alloc (.cells #[.int .i64 H,.int .i64 V,.int .i64 M,.int .i64 D] 66)).alloc (.cells #[.int .i64 h,.int .i64 v,.int .i64 m,.int .i64 d] 66)):=(bnw _ _).alloc (by simp) _;have x0:Box4 ((w.alloc (.cells #[.int .i64 H,.int .i64 V,.int .i64 M,.int .i64 D] 66)).alloc (.cells #[.int .i64 h,.int .i64 v,.int .i64 m,.int .i64 d] 66)) w.heap.size H V M D:=(Box4.new w H V M D _).after (bnw _ _);have y0:Box4 ((w.alloc (.cells #[.int .i64 H,.int .i64 V,.int .i64 M,.int .i64 D] 66)).alloc (.cells #[.int .i64 h,.int .i64 v,.int .i64 m,.int .i64 d] 66)) (w.heap.size+1) h v m d:=by
  have q:=Box4.new (w.alloc (.cells #[.int .i64 H,.int .i64 V,.int .i64 M,.int .i64 D] 66)) h v m d 66;rw [World.size_alloc] at q;exact q
 have HX:=q_ x0;have HY:=q_ y0;obtain ⟨⟨p0,p1,p2,p3⟩,_⟩:=x0;obtain ⟨⟨q0,q1,q2,q3⟩,_⟩:=y0;cases ha:thrB H V M D
 ·have HN:=q_ (cmpT_1 h v m d ha)
  go_enter Tryzx.func66,Tryz.ntmps66;go_wp2_with fail
  refine (iThrustOk_any H V M D _).mono ?_;rw [ha];rintro e w1 ⟨rfl,hb1⟩;have HB1:=q_ (below_then b0 hb1);clear hb1 b0 p0 p1 p2 p3 q0 q1 q2 q3;go_wp2;go_ret;exact ⟨by rw [HN.out]; rfl,HB1.out⟩
 ·go_enter Tryzx.func66,Tryz.ntmps66
  go_wp2_with fail
  refine (iThrustOk_any H V M D _).mono ?_;rw [ha];rintro e w1 ⟨rfl,hb1⟩;have HB1:=q_ (below_then b0 hb1);have HX1:=q_ (HX.out.after hb1);have HY1:=q_ (HY.out.after hb1);clear hb1 b0 p0 p1 p2 p3 q0 q1 q2 q3 HX HY;obtain ⟨⟨q0,q1,q2,q3⟩,_⟩:=HY1.out;go_wp2_with fail
  refine (iThrustOk_any h v m d _).mono ?_;cases hb:thrB h v m d
  ·have HN:=q_ (cmpT_2 H V M D hb)
   rintro e w2 ⟨rfl,hb2⟩;have HB2:=q_ (below_then HB1.out hb2);clear hb2 q0 q1 q2 q3;go_wp2;go_ret;exact ⟨by rw [HN.out]; rfl,HB2.out⟩
  ·have HN:=q_ (cmpT_3 ha hb)
   have hw:=thr_mul ha hb;obtain ⟨e1,e2⟩:=hw;rintro e w2 ⟨rfl,hb2⟩;have HB2:=q_ (below_then HB1.out hb2);have HX2:=q_ (HX1.out.after hb2);have HY2:=q_ (HY1.out.after hb2);clear hb2 q0 q1 q2 q3 ha hb;obtain ⟨⟨p0,p1,p2,p3⟩,_⟩:=HX2.out;obtain ⟨⟨q0,q1,q2,q3⟩,_⟩:=HY2.out;go_wp2_with (go_at_call 90; refine (cmp_any _ _ _).mono ?_; rintro e w' ⟨rfl,rfl⟩);go_ret;exact ⟨by rw [HN.out]; rfl,HB2.out⟩
theorem cloLeastThrust_any:Calls Tryzx.prog 65 #[.agg #[.int .i64 H,.int .i64 V,.int .i64 M,.int .i64 D],.agg #[.int .i64 h,.int .i64 v,.int .i64 m,.int .i64 d]] w fun e w'=>e = .returned (.bool (cmpT H V M D h v m d == (-1)))/\Below w.heap.size w w':=by
 have HB:=q_ (((Below.refl w.heap.size w).alloc (Nat.le_refl _) (.cells #[.int .i64 H,.int .i64 V,.int .i64 M,.int .i64 D] 66)).alloc (by simp) (.cells #[.int .i64 h,.int .i64 v,.int .i64 m,.int .i64 d] 66));have x0:Box4 ((w.alloc (.cells #[.int .i64 H,.int .i64 V,.int .i64 M,.int .i64 D] 66)).alloc (.cells #[.int .i64 h,.int .i64 v,.int .i64 m,.int .i64 d] 66)) w.heap.size H V M D:=(Box4.new w H V M D _).after (bnw _ _);have y0:Box4 ((w.alloc (.cells #[.int .i64 H,.int .i64 V,.int .i64 M,.int .i64 D] 66)).alloc (.cells #[.int .i64 h,.int .i64 v,.int .i64 m,.int .i64 d] 66)) (w.heap.size+1) h v m d:=by
  have q:=Box4.new (w.alloc (.cells #[.int .i64 H,.int .i64 V,.int .i64 M,.int .i64 D] 66)) h v m d 66;rw [World.size_alloc] at q;exact q
 obtain ⟨⟨p0,p1,p2,p3⟩,_⟩:=x0;obtain ⟨⟨q0,q1,q2,q3⟩,_⟩:=y0;go_enter Tryzx.func65,Tryz.ntmps65;go_wp2_with fail
 refine (iCmpT_any H V M D h v m d _).mono ?_;rintro e w1 ⟨rfl,hb1⟩;have HB1:=q_ (below_then HB.out hb1);clear hb1 p0 p1 p2 p3 q0 q1 q2 q3;go_wp2;go_ret;exact ⟨rfl,HB1.out⟩
end
theorem row4 {w:World} {g:Nat} {T:TypeId} {a b c d:Int} (h:RowF w g T 4 (ints [a,b,c,d])):(w.cell? ⟨g,0,none⟩=some (.int .i64 a)/\w.cell? ⟨g,1,none⟩=some (.int .i64 b)/\w.cell? ⟨g,2,none⟩=some (.int .i64 c)/\w.cell? ⟨g,3,none⟩=some (.int .i64 d))/\w.frozen? ⟨g,0,none⟩=false/\w.frozen? ⟨g,1,none⟩=false/\w.frozen? ⟨g,2,none⟩=false/\w.frozen? ⟨g,3,none⟩=false :=
 ⟨⟨h.cell (by omega),h.cell (by omega),h.cell (by omega),h.cell (by omega)⟩,h.frozen 0,h.frozen 1,h.frozen 2,h.frozen 3⟩
def bstK (r:Int) (xs:List Int):Nat->Nat
 | 0=>0
 | k+1=>if cmpT (nth xs ((k+1)*4)) (nth xs ((k+1)*4+1)) (nth xs ((k+1)*4+2)) (nth xs ((k+1)*4+3)) (nth xs (bstK r xs k*4)) (nth xs (bstK r xs k*4+1)) (nth xs (bstK r xs k*4+2)) (nth xs (bstK r xs k*4+3))=r then k+1 else bstK r xs k
def bstV (r:Int) (xs:List Int) (k j:Nat):Int:=nth xs (bstK r xs k*4+j)
def better (r:Int) (xs:List Int) (k:Nat):Int:=cmpT (nth xs ((k+1)*4)) (nth xs ((k+1)*4+1)) (nth xs ((k+1)*4+2)) (nth xs ((k+1)*4+3)) (bstV r xs k 0) (bstV r xs k 1) (bstV r xs k 2) (bstV r xs k 3)
theorem bstV_t {r:Int} {xs:List Int} {k:Nat} (h:better r xs k=r) (j:Nat):bstV r xs (k+1) j=nth xs ((k+1)*4+j):=by
 have e:bstK r xs (k+1)=k+1:=by unfold bstK; exact if_pos h
 unfold bstV; rw [e]
theorem bstV_f {r:Int} {xs:List Int} {k:Nat} (h:¬ better r xs k=r) (j:Nat):bstV r xs (k+1) j=bstV r xs k j:=by
 have e:bstK r xs (k+1)=bstK r xs k:=by rw [bstK]; exact if_neg h
 unfold bstV; rw [e]
theorem bstV_0 (r:Int) (xs:List Int) (j:Nat):bstV r xs 0 j=nth xs j:=by unfold bstV bstK; rw [Nat.zero_mul,Nat.zero_add]
def bst4 (r:Int) (xs:List Int) (k:Nat):List Int := [bstV r xs k 0,bstV r xs k 1,bstV r xs k 2,bstV r xs k 3]
theorem bestThr_any (FF:Nat) (r:Int) (hF:∀ (args:Array Value) (w:World),Sem.run Tryzx.prog (callFunc FF args) w = .ok (.enter FF args) w) (hcl:∀ (H V M D h v m d:Int) (w:World),Calls Tryzx.prog FF #[.agg #[.int .i64 H,.int .i64 V,.int .i64 M,.int .i64 D],.agg #[.int .i64 h,.int .i64 v,.int .i64 m,.int .i64 d]] w fun e w'=>e = .returned (.bool (cmpT H V M D h v m d == r))/\Below w.heap.size w w') (A:Option Addr) (n c:Nat) (xs:List Int) (w:World) (h:RecsAt w w.heap.size 4 A n xs) (hn:1<=n) (hn2:n<=1048576) (hc:n<=c) (hcm:c<=9223372036854775807) :
  Calls Tryzx.prog 64 #[.slice A n c,.func (.func FF) #[] #[]] w fun e w'=>e = .returned (.agg #[.int .i64 (bstV r xs (n - 1) 0),.int .i64 (bstV r xs (n - 1) 1),.int .i64 (bstV r xs (n - 1) 2),.int .i64 (bstV r xs (n - 1) 3)])/\Below w.heap.size w w':=by
 obtain ⟨j,rfl⟩:∃ j,n=j+1:=⟨n - 1,by omega⟩;obtain ⟨b,off,rfl,hbB,hcell⟩:=h.2 (by omega);have x0:w.cell? ⟨b,off,none⟩=some (.int .i64 (nth xs 0)):=hcell 0 (by omega);have x1:w.cell? ⟨b,off+1,none⟩=some (.int .i64 (nth xs 1)):=hcell 1 (by omega);have x2:w.cell? ⟨b,off+2,none⟩=some (.int .i64 (nth xs 2)):=hcell 2 (by omega);have x3:w.cell? ⟨b,off+3,none⟩=some (.int .i64 (nth xs 3)):=hcell 3 (by omega);have HC:=q_ hcell;have HB0:=q_ (((Below.refl w.heap.size w).alloc (Nat.le_refl _) (.cells #[.int .i64 0,.int .i64 0,.int .i64 0,.int .i64 0] 66)).alloc (by simp) (.cells #[.int .i64 (nth xs 0),.int .i64 (nth xs 1),.int .i64 (nth xs 2),.int .i64 (nth xs 3)] 66));have HR0:=q_ ((RowF.of_row (World.rowIs_alloc w #[.int .i64 0,.int .i64 0,.int .i64 0,.int .i64 0] 66 (ints [0,0,0,0]) (fun i hi=>by simp at hi; match i,hi with | 0,_=>rfl | 1,_=>rfl | 2,_=>rfl | 3,_=>rfl))).alloc (.cells #[.int .i64 (nth xs 0),.int .i64 (nth xs 1),.int .i64 (nth xs 2),.int .i64 (nth xs 3)] 66))
 have HR1:Hid (RowF ((w.alloc (.cells #[.int .i64 0,.int .i64 0,.int .i64 0,.int .i64 0] 66)).alloc (.cells #[.int .i64 (nth xs 0),.int .i64 (nth xs 1),.int .i64 (nth xs 2),.int .i64 (nth xs 3)] 66)) (w.heap.size+1) 66 4 (ints (bst4 r xs 0))):=by
  have h:=RowF.of_row (World.rowIs_alloc (w.alloc (.cells #[.int .i64 0,.int .i64 0,.int .i64 0,.int .i64 0] 66)) #[.int .i64 (nth xs 0),.int .i64 (nth xs 1),.int .i64 (nth xs 2),.int .i64 (nth xs 3)] 66 (ints [(nth xs 0),(nth xs 1),(nth xs 2),(nth xs 3)]) (fun i hi=>by simp at hi; match i,hi with | 0,_=>rfl | 1,_=>rfl | 2,_=>rfl | 3,_=>rfl))
  rw [World.size_alloc] at h;unfold bst4;rw [bstV_0,bstV_0,bstV_0,bstV_0];exact h
 have hbl:b<w.heap.size+1:=by omega
 have e1:((j+1:Nat):Int) - 1=(j:Int):=by omega
 clear h hcell;by_cases hc1:c=1
 ·obtain rfl:j=0:=by omega
  subst hc1;go_enter Tryzx.func64,Tryz.ntmps64;go_wp2;go_loopw [14] (fun i wr=>∃ k:Nat,k<=0/\i = .int .i64 k/\Hid (RowF wr w.heap.size 66 4 (ints [0,0,0,0]))/\Hid (RowF wr (w.heap.size+1) 66 4 (ints (bst4 r xs k)))/\Hid (Below w.heap.size w wr)) (fun i _=>0 - (intOf i).toNat)
  case atStart=>exact ⟨0,Nat.zero_le _,rfl,HR0,HR1,HB0⟩
  case round =>
   clear HB0 HR0 HR1 x0 x1 x2 x3;obtain ⟨k,hk,rfl,HA,HQ,HBL⟩:=hrel;by_cases hlt:k<0
   ·omega
   ·obtain rfl:k=0:=by omega
    obtain ⟨⟨c0,c1,c2,c3⟩,_⟩:=row4 (a:=bstV r xs 0 0) (b:=bstV r xs 0 1) (c:=bstV r xs 0 2) (d:=bstV r xs 0 3) HQ.out;obtain ⟨⟨d0,d1,d2,d3⟩,f0,f1,f2,f3⟩:=row4 HA.out;go_wp2;refine bodyPost_ret (v := .agg #[.int .i64 (bstV r xs 0 0),.int .i64 (bstV r xs 0 1),.int .i64 (bstV r xs 0 2),.int .i64 (bstV r xs 0 3)]) (by simp [results,Tryz.results64,go_sem, *]) rfl ⟨by first | rfl | rw [Nat.add_sub_cancel],?_⟩;exact (((HBL.out.setCell (p:=⟨w.heap.size,0,none⟩) (Nat.le_refl _) _).setCell (p:=⟨w.heap.size,1,none⟩) (Nat.le_refl _) _).setCell (p:=⟨w.heap.size,2,none⟩) (Nat.le_refl _) _).setCell (p:=⟨w.heap.size,3,none⟩) (Nat.le_refl _) _
 ·have hc2:1<c:=by omega
  have hc3:(1:Int)<(c:Int):=by omega
  clear hc1;go_enter Tryzx.func64,Tryz.ntmps64;go_wp2;go_loopw [14] (fun i wr=>∃ k:Nat,k<=j/\i = .int .i64 k/\Hid (RowF wr w.heap.size 66 4 (ints [0,0,0,0]))/\Hid (RowF wr (w.heap.size+1) 66 4 (ints (bst4 r xs k)))/\Hid (Below w.heap.size w wr)) (fun i _=>j - (intOf i).toNat)
  case atStart=>exact ⟨0,Nat.zero_le _,rfl,HR0,HR1,HB0⟩
  case round =>
   clear HB0 HR0 HR1 x0 x1 x2 x3;obtain ⟨k,hk,rfl,HA,HQ,HBL⟩:=hrel;by_cases hlt:k<j
   ·have y0:wr.cell? ⟨b,off+4+k*4,none⟩=some (.int .i64 (nth xs ((k+1)*4))):=by
     have:=(HBL.out.cell (p:=⟨b,off+(k+1)*4,none⟩) hbB).trans (HC.out ((k+1)*4) (by omega));rwa [show off+(k+1)*4=off+4+k*4 by omega] at this
    have y1:wr.cell? ⟨b,off+4+k*4+1,none⟩=some (.int .i64 (nth xs ((k+1)*4+1))):=by
     have:=(HBL.out.cell (p:=⟨b,off+((k+1)*4+1),none⟩) hbB).trans (HC.out ((k+1)*4+1) (by omega));rwa [show off+((k+1)*4+1)=off+4+k*4+1 by omega] at this
    have y2:wr.cell? ⟨b,off+4+k*4+2,none⟩=some (.int .i64 (nth xs ((k+1)*4+2))):=by
     have:=(HBL.out.cell (p:=⟨b,off+((k+1)*4+2),none⟩) hbB).trans (HC.out ((k+1)*4+2) (by omega));rwa [show off+((k+1)*4+2)=off+4+k*4+2 by omega] at this
    have y3:wr.cell? ⟨b,off+4+k*4+3,none⟩=some (.int .i64 (nth xs ((k+1)*4+3))):=by
     have:=(HBL.out.cell (p:=⟨b,off+((k+1)*4+3),none⟩) hbB).trans (HC.out ((k+1)*4+3) (by omega));rwa [show off+((k+1)*4+3)=off+4+k*4+3 by omega] at this
    have hz:=HBL.out.size;have hgl:=HQ.out.lt;obtain ⟨⟨c0,c1,c2,c3⟩,_⟩:=row4 (a:=bstV r xs k 0) (b:=bstV r xs k 1) (c:=bstV r xs k 2) (d:=bstV r xs k 3) HQ.out;have TT:Hid (better r xs k=r->bst4 r xs (k+1) = [nth xs ((k+1)*4),nth xs ((k+1)*4+1),nth xs ((k+1)*4+2),nth xs ((k+1)*4+3)]):=q_ (fun h=>by unfold bst4; rw [bstV_t h,bstV_t h,bstV_t h,bstV_t h]; rfl)
    have TF:Hid (¬ better r xs k=r->bst4 r xs (k+1)=bst4 r xs k):=q_ (fun h=>by unfold bst4; rw [bstV_f h,bstV_f h,bstV_f h,bstV_f h]);have HQ4:Hid (bst4 r xs k = [bstV r xs k 0,bstV r xs k 1,bstV r xs k 2,bstV r xs k 3]):=rfl;unfold better at TT TF;have HBA:=q_ (HBL.out.alloc hz (.cells #[.int .i64 (nth xs ((k+1)*4)),.int .i64 (nth xs ((k+1)*4+1)),.int .i64 (nth xs ((k+1)*4+2)),.int .i64 (nth xs ((k+1)*4+3))] 66));have HAA:=q_ (HA.out.alloc (.cells #[.int .i64 (nth xs ((k+1)*4)),.int .i64 (nth xs ((k+1)*4+1)),.int .i64 (nth xs ((k+1)*4+2)),.int .i64 (nth xs ((k+1)*4+3))] 66));have HBX:=q_ (HQ.out.alloc (.cells #[.int .i64 (nth xs ((k+1)*4)),.int .i64 (nth xs ((k+1)*4+1)),.int .i64 (nth xs ((k+1)*4+2)),.int .i64 (nth xs ((k+1)*4+3))] 66));have HNX:=q_ (RowF.of_row (World.rowIs_alloc wr #[.int .i64 (nth xs ((k+1)*4)),.int .i64 (nth xs ((k+1)*4+1)),.int .i64 (nth xs ((k+1)*4+2)),.int .i64 (nth xs ((k+1)*4+3))] 66 (ints [(nth xs ((k+1)*4)),(nth xs ((k+1)*4+1)),(nth xs ((k+1)*4+2)),(nth xs ((k+1)*4+3))]) (fun i hi=>by simp at hi; match i,hi with | 0,_=>rfl | 1,_=>rfl | 2,_=>rfl | 3,_=>rfl)))
    clear HA HQ HBL;generalize nth xs ((k+1)*4)=p0 at *
    generalize nth xs ((k+1)*4+1)=p1 at *
    generalize nth xs ((k+1)*4+2)=p2 at *
    generalize nth xs ((k+1)*4+3)=p3 at *
    generalize bstV r xs k 0=q0 at *
    generalize bstV r xs k 1=q1 at *
    generalize bstV r xs k 2=q2 at *
    generalize bstV r xs k 3=q3 at *
    go_wp2_with fail
    refine (hcl p0 p1 p2 p3 q0 q1 q2 q3 _).mono ?_;rintro e w2 ⟨rfl,hb2⟩;have HB2:=q_ (HBA.out.trans (hb2.mono (by simp; omega)))
    have HA2:=q_ (HAA.out.after hb2);have HX2:=q_ (HBX.out.after hb2);have rN:=HNX.out.after hb2;clear hb2 HBA HAA HBX HNX;by_cases hbt:cmpT p0 p1 p2 p3 q0 q1 q2 q3=r
    ·have HF:=q_ (TT.out hbt)
     have hbe:(cmpT p0 p1 p2 p3 q0 q1 q2 q3 == r)=true:=by rw [hbt]; simp
     rw [hbe];rw [HQ4.out] at HX2;clear hbt hbe;obtain ⟨⟨n0,n1,n2,n3⟩,_⟩:=row4 rN;obtain ⟨⟨b0,b1,b2,b3⟩,g0,g1,g2,g3⟩:=row4 HX2.out;have HX3:=q_ (((((HX2.out.set 0 (.int .i64 p0)).set 1 (.int .i64 p1)).set 2 (.int .i64 p2)).set 3 (.int .i64 p3)).congr (f':=ints [p0,p1,p2,p3]) (fun i hi=>by match i,hi with | 0,_=>rfl | 1,_=>rfl | 2,_=>rfl | 3,_=>rfl));have HA3:=q_ ((((HA2.out.set_other (p:=⟨w.heap.size+1,0,none⟩) (by simp) (.int .i64 p0)).set_other (p:=⟨w.heap.size+1,1,none⟩) (by simp) (.int .i64 p1)).set_other (p:=⟨w.heap.size+1,2,none⟩) (by simp) (.int .i64 p2)).set_other (p:=⟨w.heap.size+1,3,none⟩) (by simp) (.int .i64 p3));have HB3:=q_ ((((HB2.out.setCell (p:=⟨w.heap.size+1,0,none⟩) (by simp) (.int .i64 p0)).setCell (p:=⟨w.heap.size+1,1,none⟩) (by simp) (.int .i64 p1)).setCell (p:=⟨w.heap.size+1,2,none⟩) (by simp) (.int .i64 p2)).setCell (p:=⟨w.heap.size+1,3,none⟩) (by simp) (.int .i64 p3));clear rN;go_wp2;go_roundw
     case rel=>exact ⟨k+1,by omega,by go_num,HA3,by rw [HF.out]; exact HX3,HB3⟩
     case measure=>simp [intOf]; omega
    ·have HF:=q_ (TF.out hbt)
     have hbe:(cmpT p0 p1 p2 p3 q0 q1 q2 q3 == r)=false:=by simp [hbt]
     rw [hbe];clear hbt hbe;go_wp2;go_roundw
     case rel=>exact ⟨k+1,by omega,by go_num,HA2,by rw [HF.out]; exact HX2,HB2⟩
     case measure=>simp [intOf]; omega
   ·obtain rfl:k=j:=by omega
    obtain ⟨⟨c0,c1,c2,c3⟩,_⟩:=row4 (a:=bstV r xs k 0) (b:=bstV r xs k 1) (c:=bstV r xs k 2) (d:=bstV r xs k 3) HQ.out;obtain ⟨⟨d0,d1,d2,d3⟩,f0,f1,f2,f3⟩:=row4 HA.out;go_wp2;refine bodyPost_ret (v := .agg #[.int .i64 (bstV r xs k 0),.int .i64 (bstV r xs k 1),.int .i64 (bstV r xs k 2),.int .i64 (bstV r xs k 3)]) (by simp [results,Tryz.results64,go_sem, *]) rfl ⟨by first | rfl | rw [Nat.add_sub_cancel],?_⟩;exact (((HBL.out.setCell (p:=⟨w.heap.size,0,none⟩) (Nat.le_refl _) _).setCell (p:=⟨w.heap.size,1,none⟩) (Nat.le_refl _) _).setCell (p:=⟨w.heap.size,2,none⟩) (Nat.le_refl _) _).setCell (p:=⟨w.heap.size,3,none⟩) (Nat.le_refl _) _
theorem bestLeastThrust_any (A:Option Addr) (n c:Nat) (xs:List Int) (w:World) (h:RecsAt w w.heap.size 4 A n xs) (hn:1<=n) (hn2:n<=1048576) (hc:n<=c) (hcm:c<=9223372036854775807) :
  Calls Tryzx.prog 64 #[.slice A n c,.func (.func 65) #[] #[]] w fun e w'=>e = .returned (.agg #[.int .i64 (bstV (-1) xs (n - 1) 0),.int .i64 (bstV (-1) xs (n - 1) 1),.int .i64 (bstV (-1) xs (n - 1) 2),.int .i64 (bstV (-1) xs (n - 1) 3)])/\Below w.heap.size w w' :=
 bestThr_any 65 (-1) (fun args w=>by simp) cloLeastThrust_any A n c xs w h hn hn2 hc hcm
end X
namespace X
open Go.RowKit
theorem ownR_cap {w:World} {base:Nat} {E:TypeId} {K n:Nat} {A:Option Addr} {c:Nat} {xs:List Int} (h:OwnR w base E K (.slice A n c) n xs):c<=9223372036854775807:=by
 rcases h.1.2 with ⟨h1,_⟩ | ⟨g,cap,cur,h1,_,_,_,h5,_⟩
 ·simp at h1; omega
 ·simp at h1
  unfold maxLen at h5;omega
def endV (ok:Bool) (r:Int) (L:List Int) (m:Nat):Value:=if ok=true then thrV (bstV r L (m - 1) 0) (bstV r L (m - 1) 1) (bstV r L (m - 1) 2) (bstV r L (m - 1) 3) true else thrV 0 0 0 0 false
theorem endV_f {ok:Bool} (h:ok=false) (r:Int) (L:List Int) (m:Nat):endV ok r L m=thrV 0 0 0 0 false:=by subst h; rfl
theorem endV_t {ok:Bool} (h:ok=true) (r:Int) (L:List Int) (m:Nat):endV ok r L m=thrV (bstV r L (m - 1) 0) (bstV r L (m - 1) 1) (bstV r L (m - 1) 2) (bstV r L (m - 1) 3) true:=by subst h; rfl
theorem endV_ex (ok:Bool) (r:Int) (L:List Int) (m:Nat):∃ q0 q1 q2 q3 bb,endV ok r L m = .tuple #[.agg #[.int .i64 q0,.int .i64 q1,.int .i64 q2,.int .i64 q3],.bool bb]:=by
 cases ok
 ·exact ⟨0,0,0,0,false,rfl⟩
 ·exact ⟨_,_,_,_,true,rfl⟩
def EndPost (w:World) (ok:Bool) (r:Int) (L:List Int) (m:Nat) (e:Ending) (w':World):Prop:=e = .returned (endV ok r L m)/\Below w.heap.size w w'
def lstB (zs:List Int) (n:Nat) (ls:List Int) (q:Nat):Bool:=decide (0<thrN zs n ls q)
theorem below_set4' {w wr:World} {B g:Nat} (h:Below B w wr) (hg:B<=g) (a b c d:Value):Below B w ((((wr.setCell ⟨g,0,none⟩ a).setCell ⟨g,1,none⟩ b).setCell ⟨g,2,none⟩ c).setCell ⟨g,3,none⟩ d):=(((h.setCell (p:=⟨g,0,none⟩) hg _).setCell (p:=⟨g,1,none⟩) hg _).setCell (p:=⟨g,2,none⟩) hg _).setCell (p:=⟨g,3,none⟩) hg _
section
variable (A : Option Addr) (n c : Nat) (zs : List Int) (B : Option Addr) (q d : Nat) (ls : List Int) (w : World) (h : RecsAt w w.heap.size 4 A n zs) (hn : n <= 1048576) (hl : RecsAt w w.heap.size 3 B q ls) (hq : q <= 1048576)
include h hn hl hq
theorem iLst_any:Calls Tryzx.prog 38 #[.agg #[.slice A n c],.slice B q d] w (EndPost w (lstB zs n ls q) (-1) (thrL zs n ls q) (thrN zs n ls q)):=by
 have hz0:(w.alloc (.cells #[.slice A n c] 45)).heap.size=w.heap.size+1:=by simp
 have b0:Below w.heap.size w ((w.alloc (.cells #[.slice A n c] 45)).alloc (.cells #[.int .i64 0,.int .i64 0,.int .i64 0,.int .i64 0] 66)):=(bnw _ _).alloc (by simp) _;have bx0:Box ((w.alloc (.cells #[.slice A n c] 45)).alloc (.cells #[.int .i64 0,.int .i64 0,.int .i64 0,.int .i64 0] 66)) w.heap.size (.slice A n c):=(Box.new w (.slice A n c) 45).alloc _;have HA0:Hid (RowF ((w.alloc (.cells #[.slice A n c] 45)).alloc (.cells #[.int .i64 0,.int .i64 0,.int .i64 0,.int .i64 0] 66)) (w.heap.size+1) 66 4 (ints [0,0,0,0])):=q_ (by
  have h:=RowF.of_row (World.rowIs_alloc (w.alloc (.cells #[.slice A n c] 45)) #[.int .i64 0,.int .i64 0,.int .i64 0,.int .i64 0] 66 (ints [0,0,0,0]) (fun i hi=>by simp at hi; match i,hi with | 0,_=>rfl | 1,_=>rfl | 2,_=>rfl | 3,_=>rfl))
  rw [hz0] at h;exact h)
 have HX:=q_ bx0;have HH:=q_ h;have HL:=q_ hl;have HB0:=q_ b0;have cx0:=bx0.1;have hw1:=h.after b0;have hw2:=hl.after b0;clear hz0 b0 bx0 h hl;go_enter Tryzx.func38,Tryz.ntmps38;go_wp2_with fail
 refine (iThr_any _ _ _ zs _ _ _ ls _ (by exact hw1) hn (by exact hw2) hq).mono ?_;rintro e w1 ⟨v1,rfl,ho1,hb1⟩;have HA1:=q_ (HA0.out.after hb1);have HB1:=q_ (below_then HB0.out hb1);obtain ⟨A1,c1,rfl,hcap⟩:=ho1.slice;have hcm:=ownR_cap ho1;have r1:=ho1.recs;clear hb1 ho1 cx0 HA0 HB0 HX hw1 hw2;by_cases hm:thrN zs n ls q=0
 ·have HE:=q_ (endV_f (show lstB zs n ls q=false by simp [lstB,hm]) (-1) (thrL zs n ls q) (thrN zs n ls q))
  have hme:(((thrN zs n ls q:Nat):Int) == 0)=true:=by rw [hm]; rfl
  clear r1 hm;obtain ⟨⟨d0,d1,d2,d3⟩,f0,f1,f2,f3⟩:=row4 HA1.out;go_wp2;refine bodyPost_ret (v:=thrV 0 0 0 0 false) (by simp [thrV,results,Tryz.results38,go_sem, *]) rfl ⟨by rw [HE.out],?_⟩;exact below_set4' HB1.out (Nat.le_succ _) _ _ _ _
 ·have hme:(((thrN zs n ls q:Nat):Int) == 0)=false:=by simp; omega
  have HE:=q_ (endV_t (show lstB zs n ls q=true from decide_eq_true (by omega)) (-1) (thrL zs n ls q) (thrN zs n ls q));have hfew:thrN zs n ls q<=1048576:=by have:=(corn_acc (rowsZ zs n ls q) (rowsN zs n ls q)).few; unfold thrN; omega
  go_wp2_with fail
  refine (bestLeastThrust_any _ _ _ (thrL zs n ls q) _ (by exact r1) (by omega) hfew hcap hcm).mono ?_;rintro e w3 ⟨rfl,hb3⟩;have HA3:=q_ (HA1.out.after hb3);have HB3:=q_ (below_then HB1.out hb3);generalize bstV (-1) (thrL zs n ls q) (thrN zs n ls q - 1) 0=q0 at *
  generalize bstV (-1) (thrL zs n ls q) (thrN zs n ls q - 1) 1=q1 at *
  generalize bstV (-1) (thrL zs n ls q) (thrN zs n ls q - 1) 2=q2 at *
  generalize bstV (-1) (thrL zs n ls q) (thrN zs n ls q - 1) 3=q3 at *
  clear hb3 r1;obtain ⟨⟨d0,d1,d2,d3⟩,f0,f1,f2,f3⟩:=row4 HA3.out;go_wp2;refine bodyPost_ret (v:=thrV q0 q1 q2 q3 true) (by simp [thrV,results,Tryz.results38,go_sem, *]) rfl ⟨by rw [HE.out],?_⟩;exact below_set4' HB3.out (Nat.le_succ _) _ _ _ _
end
end X
section
open Go.RowKit
theorem ownB_below {B base:Nat} {E:TypeId} {a w w':World} {v:Value} {xs:List Int} {o:Obj} (hb:Below B a w) (hB:B<=w.heap.size) (hown:OwnV w base E v xs) (h:B<=base) (hg:(w.alloc o).grownBy w' v.ownBlock):Below B a w' :=
 (hb.alloc hB o).grown hg (by simp; omega) (fun k hk=>Nat.le_trans h (hown.ownLt k hk))
end
section
open Go.RowKit
theorem OwnV.sliceN {w:World} {base:Nat} {E:TypeId} {v:Value} {xs:List Int} (h:OwnV w base E v xs):∃ A l c,v = .slice A l c:=by
 rcases h.form with ⟨rfl,_⟩ | ⟨g,cap,rfl,_⟩ <;> exact ⟨_,_,_,rfl⟩
theorem OwnV.weakenN {w:World} {base base':Nat} {E:TypeId} {v:Value} {xs:List Int} (h:OwnV w base E v xs) (hb:base'<=base):OwnV w base' E v xs:=by
 refine ⟨h.1,?_⟩;rcases h.2 with h2 | ⟨g,cap,cur,h1,h2,h3⟩
 ·exact .inl h2
 ·exact .inr ⟨g,cap,cur,h1,Nat.le_trans hb h2,h3⟩
end
namespace X
open Go.RowKit
def ribS (L M:List (Nat × List Int)) (k:Nat):Bool:=decide (0<(thrN (rowZ L k) (rowN L k) (rowZ M k) (rowN M k):Int))
def failTo (L M:List (Nat × List Int)):Nat->List Int
 | 0 => []
 | k+1=>if ribS L M k=true then failTo L M k else failTo L M k ++ [(k:Int)]
def failZ (L:List (Nat × List Int)) (n:Nat) (M:List (Nat × List Int)) (q:Nat):List Int:=if vaultB L n M q=true then failTo L M n else []
theorem failZ_t {L:List (Nat × List Int)} {n:Nat} {M:List (Nat × List Int)} {q:Nat} (h:vaultB L n M q=true):failZ L n M q=failTo L M n:=by simp [failZ,h]
theorem failZ_f {L:List (Nat × List Int)} {n:Nat} {M:List (Nat × List Int)} {q:Nat} (h:vaultB L n M q=false):failZ L n M q = []:=by simp [failZ,h]
theorem failTo_t {L M:List (Nat × List Int)} {k:Nat} (h:ribS L M k=true):failTo L M (k+1)=failTo L M k:=by simp [failTo,h]
theorem failTo_f {L M:List (Nat × List Int)} {k:Nat} (h:ribS L M k=false):failTo L M (k+1)=failTo L M k ++ [(k:Int)]:=by simp [failTo,h]
theorem failTo_len (L M:List (Nat × List Int)):∀ k,(failTo L M k).length<=k
 | 0=>Nat.le_refl _
 | k+1=>by
  have:=failTo_len L M k;unfold failTo;split
  ·omega
  ·rw [List.length_append]; simp; omega
theorem failTo_all {L M:List (Nat × List Int)}:∀ {k:Nat},failTo L M k = []->∀ i,i<k->ribS L M i=true
 | 0,_,i,hi=>absurd hi (by omega)
 | k+1,h,i,hi=>by
  cases hk:ribS L M k
  ·rw [failTo_f hk] at h; simp at h
  ·rw [failTo_t hk] at h
   by_cases e:i=k
   ·rw [e]; exact hk
   ·exact failTo_all h i (by omega)
theorem failTo_none {L M:List (Nat × List Int)}:∀ {k:Nat},(∀ i,i<k->ribS L M i=true)->failTo L M k = []
 | 0,_=>rfl
 | k+1,h=>by rw [failTo_t (h k (by omega))]; exact failTo_none fun i hi=>h i (by omega)
def vsB (L:List (Nat × List Int)) (n:Nat) (M:List (Nat × List Int)) (q:Nat):Bool:=vaultB L n M q && decide ((failTo L M n).length=0)
theorem vsB_f {L:List (Nat × List Int)} {n:Nat} {M:List (Nat × List Int)} {q:Nat} (h:vaultB L n M q=false):vsB L n M q=false:=by simp [vsB,h]
theorem vsB_t {L:List (Nat × List Int)} {n:Nat} {M:List (Nat × List Int)} {q:Nat} (h:vaultB L n M q=true):vsB L n M q=decide ((failTo L M n).length=0):=by simp [vsB,h]
section
variable (A : Option Addr) (n c : Nat) (L : List (Nat × List Int)) (B : Option Addr) (q d : Nat) (M : List (Nat × List Int)) (w : World) (h : NestAt w w.heap.size 4 A n L) (hn : n <= 1048576) (hr : ∀ i, i < n -> rowN L i <= 1048576) (hl : NestAt w w.heap.size 3 B q M) (hq : q <= 1048576) (hs : ∀ i, i < q -> rowN M i <= 1048576)
include h hn hr hl hq hs
end
end X
namespace X
open Go.RowKit
def hasI (xs:List Int) (x:Int):Nat->Bool
 | 0=>false
 | k+1=>hasI xs x k || decide (nth xs k=x)
theorem hasI_iff (xs:List Int) (x:Int):∀ k,hasI xs x k=true ↔ ∃ i,i<k/\nth xs i=x
 | 0=>by simp [hasI]
 | k+1=>by
  simp only [hasI,Bool.or_eq_true,hasI_iff xs x k,decide_eq_true_eq];constructor
  ·rintro (⟨i,h1,h2⟩ | h)
   ·exact ⟨i,by omega,h2⟩
   ·exact ⟨k,by omega,h⟩
  ·rintro ⟨i,h1,h2⟩
   by_cases e:i=k
   ·subst e; exact .inr h2
   ·exact .inl ⟨i,by omega,h2⟩
theorem has_any (A:Option Addr) (n c:Nat) (xs:List Int) (x:Int) (w:World) (h:IntsAt w w.heap.size A n xs) (hn:n<=1048576) :
  Calls Tryzx.prog 17 #[.slice A n c,.int .i64 x] w fun e w'=>e = .returned (.bool (hasI xs x n))/\w=w':=by
 have H:=q_ h;clear h;go_enter Tryzx.func17,Tryz.ntmps17;go_wp2;go_loopw [5] (fun v5 wr=>∃ k:Nat,v5 = .int .i64 k/\k<=n/\Hid (hasI xs x k=false)/\wr=w) (fun v5 _=>n - (intOf v5).toNat)
 case atStart=>exact ⟨0,rfl,Nat.zero_le _,q_ rfl,rfl⟩
 case round =>
  obtain ⟨k,rfl,hk,HF,rfl⟩:=hrel;by_cases hlt:k<n
  ·obtain ⟨b,off,rfl,hbl,hc⟩:=H.out.2 (by omega)
   have x0:=hc k hlt;have ki:(k:Int)<(n:Int):=by omega
   have k0:(0:Int)<=(k:Int):=by omega
   have ek:IntKind.i64.wrap ((k:Int)+1)=(k:Int)+1:=iW (by omega);have HS:Hid (hasI xs x (k+1)=decide (nth xs k=x)):=q_ (by simp [hasI,HF.out]);have HT:Hid (nth xs k=x->hasI xs x n=true):=q_ (fun e=>(hasI_iff xs x n).2 ⟨k,hlt,e⟩);clear hc;generalize nth xs k=y at *
   by_cases e:y=x
   ·have HY:=q_ (HT.out e)
    go_wp2;go_ret;exact ⟨ret_bool HY.out.symm,by first | rfl | trivial⟩
   ·have HN:Hid (hasI xs x (k+1)=false):=q_ (by rw [HS.out]; exact decide_eq_false e)
    go_wp2;go_roundw
    case rel=>exact ⟨k+1,by go_num,by omega,HN,by first | rfl | trivial⟩
    case measure=>simp [intOf]; omega
  ·obtain rfl:n=k:=by omega
   have nn:¬ (n:Int)<(n:Int):=by omega
   go_wp2;go_ret;exact ⟨ret_bool HF.out.symm,by first | rfl | trivial⟩
end X
namespace X
open Go.RowKit
def lfB (zs:List Int) (n:Nat) (ls:List Int) (q:Nat) (k:Int):Bool:=loadsB zs n ls q && inB k 0 ((n:Int) - 1)
def lfW (zs:List Int) (n:Nat) (ls:List Int) (q:Nat) (k:Int):Int:=if lfB zs n ls q k=true then leftW zs ls q k.toNat else 0
def lfM (zs:List Int) (n:Nat) (ls:List Int) (q:Nat) (k:Int):Int:=if lfB zs n ls q k=true then leftM zs ls q k.toNat else 0
theorem lf_f {zs:List Int} {n:Nat} {ls:List Int} {q:Nat} {k:Int} (h:lfB zs n ls q k=false):lfW zs n ls q k=0/\lfM zs n ls q k=0:=by simp [lfW,lfM,h]
theorem lf_t {zs:List Int} {n:Nat} {ls:List Int} {q k:Nat} (h:lfB zs n ls q (k:Int)=true):lfW zs n ls q (k:Int)=leftW zs ls q k/\lfM zs n ls q (k:Int)=leftM zs ls q k:=by simp [lfW,lfM,h]
theorem lfB_1 {zs:List Int} {n:Nat} {ls:List Int} {q:Nat} (k:Int) (h:loadsB zs n ls q=false):lfB zs n ls q k=false:=by simp [lfB,h]
theorem lfB_2 (zs:List Int) {n:Nat} (ls:List Int) (q:Nat) {k:Int} (h:inB k 0 ((n:Int) - 1)=false):lfB zs n ls q k=false:=by simp [lfB,h]
theorem lfB_t {zs:List Int} {n:Nat} {ls:List Int} {q:Nat} {k:Int} (h:loadsB zs n ls q=true) (h2:inB k 0 ((n:Int) - 1)=true):lfB zs n ls q k=true:=by simp [lfB,h,h2]
theorem lfB_out {zs:List Int} {n:Nat} {ls:List Int} {q:Nat} {k:Int} (h:lfB zs n ls q k=true):loadsB zs n ls q=true/\0<=k/\k<=(n:Int) - 1:=by
 simp only [lfB,Bool.and_eq_true,inB_iff] at h;exact ⟨h.1,h.2.1,h.2.2⟩
theorem rowF_new2 (w:World) (a b:Int) (T:TypeId):RowF (w.alloc (.cells #[.int .i64 a,.int .i64 b] T)) w.heap.size T 2 (ints [a,b]) :=
 RowF.of_row (World.rowIs_alloc w #[.int .i64 a,.int .i64 b] T _ (fun j hj=>by simp at hj; match j,hj with | 0,_=>rfl | 1,_=>rfl))
theorem rowF_set2 {w:World} {g:Nat} {T:TypeId} {a b:Int} (h:RowF w g T 2 (ints [a,b])) (a' b':Int):RowF ((w.setCell ⟨g,0,none⟩ (.int .i64 a')).setCell ⟨g,1,none⟩ (.int .i64 b')) g T 2 (ints [a',b']) :=
 ((h.set 0 (.int .i64 a')).set 1 (.int .i64 b')).congr (fun i hi=>by match i,hi with | 0,_=>rfl | 1,_=>rfl)
structure LeftStart (w wr:World) (v:Value) (a b:Int):Prop where
 box:Box wr w.heap.size v
 res:RowF wr (w.heap.size+1) 139 2 (ints [0,0])
 sum:RowF wr (w.heap.size+2) 139 2 (ints [a,b])
 below:Below w.heap.size w wr
theorem LeftStart.after {w wr w2:World} {v:Value} {a b:Int} (h:LeftStart w wr v a b) (hb:Below wr.heap.size wr w2):LeftStart w w2 v a b:=⟨h.box.after hb,h.res.after hb,h.sum.after hb,h.below.trans (hb.mono h.below.size)⟩
theorem LeftStart.set {w wr:World} {v:Value} {a b:Int} (h:LeftStart w wr v a b) (a' b':Int):LeftStart w ((wr.setCell ⟨w.heap.size+2,0,none⟩ (.int .i64 a')).setCell ⟨w.heap.size+2,1,none⟩ (.int .i64 b')) v a' b' :=
 ⟨⟨(World.cell?_setCell_far _ _ _ _ (by simp)).trans ((World.cell?_setCell_far _ _ _ _ (by simp)).trans h.box.1),by have:=h.box.2; simpa using this⟩,(h.res.set_other (by simp) _).set_other (by simp) _,rowF_set2 h.sum a' b',(h.below.setCell (by simp) _).setCell (by simp) _⟩
theorem leftStart (w:World) (v:Value) (T:TypeId):LeftStart w (((w.alloc (.cells #[v] T)).alloc (.cells #[.int .i64 0,.int .i64 0] 139)).alloc (.cells #[.int .i64 0,.int .i64 0] 139)) v 0 0:=by
 refine ⟨((Box.new w v T).alloc _).alloc _,?_,?_,((bnw _ _).alloc (by simp) _).alloc (by simp; omega) _⟩
 ·have h:=(rowF_new2 (w.alloc (.cells #[v] T)) 0 0 139).alloc (.cells #[.int .i64 0,.int .i64 0] 139)
  rw [World.size_alloc] at h;exact h
 ·have h:=rowF_new2 ((w.alloc (.cells #[v] T)).alloc (.cells #[.int .i64 0,.int .i64 0] 139)) 0 0 139
  rw [World.size_alloc,World.size_alloc] at h;exact h
theorem leftOf_any (A:Option Addr) (n c:Nat) (zs:List Int) (B:Option Addr) (q d:Nat) (ls:List Int) (k:Int) (w:World) (h:RecsAt w w.heap.size 4 A n zs) (hn:n<=1048576) (hl:RecsAt w w.heap.size 3 B q ls) (hq:q<=1048576) :
  Calls Tryzx.prog 100 #[.agg #[.slice A n c],.slice B q d,.int .i64 k] w fun e w'=>e = .returned (.agg #[.int .i64 (lfW zs n ls q k),.int .i64 (lfM zs n ls q k)])/\Below w.heap.size w w':=by
 have ST:=leftStart w (.slice A n c) 45;have h0:=((h.alloc (Nat.le_refl _) (.cells #[.slice A n c] 45)).mono (B':=(w.alloc (.cells #[.slice A n c] 45)).heap.size) (by simp));have h1:=(h0.after ((Below.refl _ _).alloc (Nat.le_refl _) (.cells #[.int .i64 0,.int .i64 0] 139))).after ((Below.refl _ _).alloc (Nat.le_refl _) (.cells #[.int .i64 0,.int .i64 0] 139));have l0:=((hl.alloc (Nat.le_refl _) (.cells #[.slice A n c] 45)).mono (B':=(w.alloc (.cells #[.slice A n c] 45)).heap.size) (by simp));have l1:=(l0.after ((Below.refl _ _).alloc (Nat.le_refl _) (.cells #[.int .i64 0,.int .i64 0] 139))).after ((Below.refl _ _).alloc (Nat.le_refl _) (.cells #[.int .i64 0,.int .i64 0] 139));have HST:=q_ ST;clear h0 l0 h hl ST;cases hL:loadsB zs n ls q
 ·have HF:=q_ (lf_f (lfB_1 k hL))
  go_enter Tryzx.func100,Tryz.ntmps100;go_wp2_with fail
  refine (iLoadsOk_any _ _ _ zs _ _ _ ls _ h1 hn l1 hq).mono ?_;rw [hL];rintro e w1 ⟨rfl,hb1⟩;have HS1:=q_ (HST.out.after hb1);have c0:=HS1.out.sum.cell (i:=0) (by omega);have c1:=HS1.out.sum.cell (i:=1) (by omega);have d0:=HS1.out.res.cell (i:=0) (by omega);have d1:=HS1.out.res.cell (i:=1) (by omega);have f0:=HS1.out.res.frozen 0;have f1:=HS1.out.res.frozen 1;have r0:ints [0,0] 0 = .int .i64 0:=rfl;have r1:ints [0,0] 1 = .int .i64 0:=rfl;rw [r0] at c0 d0;rw [r1] at c1 d1;clear hb1 r0 r1;go_wp2;refine bodyPost_ret (v := .agg #[.int .i64 0,.int .i64 0]) (by simp [results,Tryz.results100,go_sem, *]) rfl ⟨by rw [HF.out.1,HF.out.2],?_⟩;exact (HS1.out.below.setCell (p:=⟨w.heap.size+1,0,none⟩) (by simp) _).setCell (p:=⟨w.heap.size+1,1,none⟩) (by simp) _
 ·obtain ⟨hA,hq6,hLA⟩:=loadsB_out hL
  have hn8:=(archB_out hA).1;have e1:IntKind.i64.wrap ((n:Int) - 1)=(n:Int) - 1:=iW (by omega);clear hA hLA;cases hK:inB k 0 ((n:Int) - 1)
  ·have HF:=q_ (lf_f (lfB_2 zs ls q hK))
   go_enter Tryzx.func100,Tryz.ntmps100;go_wp2_with fail
   refine (iLoadsOk_any _ _ _ zs _ _ _ ls _ h1 hn l1 hq).mono ?_;rw [hL];rintro e w1 ⟨rfl,hb1⟩;have HS1:=q_ (HST.out.after hb1);have c0:=HS1.out.sum.cell (i:=0) (by omega);have c1:=HS1.out.sum.cell (i:=1) (by omega);have d0:=HS1.out.res.cell (i:=0) (by omega);have d1:=HS1.out.res.cell (i:=1) (by omega);have f0:=HS1.out.res.frozen 0;have f1:=HS1.out.res.frozen 1;have r0:ints [0,0] 0 = .int .i64 0:=rfl;have r1:ints [0,0] 1 = .int .i64 0:=rfl;have bx:=HS1.out.box.1;rw [r0] at c0 d0;rw [r1] at c1 d1;clear hb1 r0 r1;go_wp2_with (go_at_call 43; refine (within_any _ _ _ _).mono ?_; rw [hK]; rintro e w' ⟨rfl,rfl⟩);refine bodyPost_ret (v := .agg #[.int .i64 0,.int .i64 0]) (by simp [results,Tryz.results100,go_sem, *]) rfl ⟨by rw [HF.out.1,HF.out.2],?_⟩;exact (HS1.out.below.setCell (p:=⟨w.heap.size+1,0,none⟩) (by simp) _).setCell (p:=⟨w.heap.size+1,1,none⟩) (by simp) _
  ·have hk:=inB_iff.1 hK
   obtain ⟨K,rfl⟩:∃ K:Nat,k=(K:Int):=⟨k.toNat,by omega⟩;have HT:=q_ (lf_t (lfB_t hL hK));obtain ⟨m,rfl⟩:∃ m,n=m+1:=⟨n - 1,by omega⟩;have hKm:K<=m:=by omega
   have HWB:=q_ (leftW_bd zs (loadsB_out hL).2.2 hq6);have HMB:=q_ (leftM_bd zs (loadsB_out hL).2.2 hq6);have HKB:=q_ (fun k=>kwTo_bd zs (loadsB_out hL).2.2 hq6 k (Nat.le_refl q));have HNB:=q_ (fun k=>kmTo_bd zs (loadsB_out hL).2.2 hq6 k (Nat.le_refl q));have hK':inB (K:Int) 0 (m:Int)=true:=inB_t (by omega);clear hk hK;go_enter Tryzx.func100,Tryz.ntmps100;go_wp2_with fail
   refine (iLoadsOk_any _ _ _ zs _ _ _ ls _ h1 hn l1 hq).mono ?_;rw [hL];rintro e w1 ⟨rfl,hb1⟩;have HS1:=q_ (HST.out.after hb1);have bx:=HS1.out.box.1;have h2:=h1.after hb1;have l2:=l1.after hb1;clear hb1;go_wp2_with (go_at_call 43; refine (within_any _ _ _ _).mono ?_; rw [hK']; rintro e w' ⟨rfl,rfl⟩);refine (weightsOf_any _ _ _ zs _ _ _ ls _ h2 l2 hL).mono ?_;rintro e w2 ⟨g,rfl,hg,hrw,hb2⟩;have HS2:=q_ (HS1.out.after hb2);have HRW:=q_ hrw;have hrr:=HS2.out.sum.lt;have hgs:w.heap.size+2<g:=by have:=HS1.out.sum.lt; omega
   have s0:(0:Int)<=(K:Int):=by omega
   have s1:(K:Int)<=((m+1 - 1:Nat):Int):=by omega
   have s2:(K:Int)<=(m:Int):=by omega
   clear hb2 hrw h1 l1 h2 l2 HS1 HST bx hg;rw [Nat.add_sub_cancel] at *
   go_wp2;have HS0:Hid (RowF w2 (w.heap.size+2) 139 2 (ints [leftW zs ls q 0,leftM zs ls q 0])):=HS2.out.sum;go_loopw [30] (fun i wr=>∃ j:Nat,j<=K/\i = .int .i64 j/\Hid (LeftStart w wr (.slice A (m+1) c) (leftW zs ls q j) (leftM zs ls q j))/\Hid (RowF wr g 139 (m*2) (ints (wmL zs ls q m)))) (fun i _=>K - (intOf i).toNat)
   case atStart=>exact ⟨0,Nat.zero_le _,rfl,HS2,HRW⟩
   case round =>
    clear HS2 HRW HS0;obtain ⟨j,hj,rfl,HS,HR⟩:=hrel;by_cases hlt:j<K
    ·have hz:=HS.out.sum.lt
     have hgl:=HR.out.lt;have x0:=HR.out.cell (i:=j*2) (by omega);have x1:=HR.out.cell (i:=j*2+1) (by omega);have hn:=wmL_nth zs ls q (m:=m) (k:=j) (by omega);rw [ints_def,hn.1] at x0;rw [ints_def,hn.2] at x1;have c0:wr.cell? ⟨w.heap.size+2,0,none⟩=some (.int .i64 (leftW zs ls q j)):=HS.out.sum.cell (by omega);have c1:wr.cell? ⟨w.heap.size+2,1,none⟩=some (.int .i64 (leftM zs ls q j)):=HS.out.sum.cell (by omega);have f0:=HS.out.sum.frozen 0;have f1:=HS.out.sum.frozen 1;have HSA:=q_ (HS.out.after ((Below.refl _ _).alloc (Nat.le_refl _) (.cells #[.int .i64 (kwTo zs ls j q),.int .i64 (kmTo zs ls j q)] 139)));have HRA:=q_ (HR.out.alloc (.cells #[.int .i64 (kwTo zs ls j q),.int .i64 (kmTo zs ls j q)] 139));have hw1:=HWB.out j;have hw2:=HMB.out j;have hw3:=HKB.out j;have hw4:=HNB.out j;have HW1:Hid (leftW zs ls q (j+1)=leftW zs ls q j+kwTo zs ls j q):=rfl;have HM1:Hid (leftM zs ls q (j+1)=leftM zs ls q j+kmTo zs ls j q):=rfl;have js:(0:Int)<=(j:Int):=by omega
     have js1:(j:Int)<(K:Int):=by omega
     clear hn;go_wp2;go_roundw
     case rel=>exact ⟨j+1,by omega,by go_num,q_ ((HS.out.set _ _).after (bnw _ _)),q_ (((HR.out.set_other (by simp; omega) _).set_other (by simp; omega) _).alloc _)⟩
     case measure=>simp [intOf]; omega
    ·obtain rfl:K=j:=by omega
     have c0:wr.cell? ⟨w.heap.size+2,0,none⟩=some (.int .i64 (leftW zs ls q K)):=HS.out.sum.cell (by omega);have c1:wr.cell? ⟨w.heap.size+2,1,none⟩=some (.int .i64 (leftM zs ls q K)):=HS.out.sum.cell (by omega);have d0:wr.cell? ⟨w.heap.size+1,0,none⟩=some (.int .i64 0):=HS.out.res.cell (by omega);have d1:wr.cell? ⟨w.heap.size+1,1,none⟩=some (.int .i64 0):=HS.out.res.cell (by omega);have f0:=HS.out.res.frozen 0;have f1:=HS.out.res.frozen 1;go_wp2;refine bodyPost_ret (v := .agg #[.int .i64 (leftW zs ls q K),.int .i64 (leftM zs ls q K)]) (by simp [results,Tryz.results100,go_sem, *]) rfl ⟨by rw [HT.out.1,HT.out.2],?_⟩;exact (HS.out.below.setCell (p:=⟨w.heap.size+1,0,none⟩) (by simp) _).setCell (p:=⟨w.heap.size+1,1,none⟩) (by simp) _
end X
namespace X
open Go.RowKit
theorem run_field_wt (a b:Int) (w:World):(Instr.field 139 (.agg #[.int .i64 a,.int .i64 b]) 0).run Tryzx.prog w = .ok (.int .i64 a) w:=by
 simp [Instr.field,go_sem,asAgg]
theorem lfW_bd (zs:List Int) (n:Nat) (ls:List Int) (q:Nat) (k:Int) : -1400000<=lfW zs n ls q k/\lfW zs n ls q k<=1400000:=by
 cases h:lfB zs n ls q k
 ·rw [(lf_f h).1]; omega
 ·obtain ⟨h1,h2,h3⟩:=lfB_out h
  obtain ⟨K,rfl⟩:∃ K:Nat,k=(K:Int):=⟨k.toNat,by omega⟩;obtain ⟨hA,hq,hl⟩:=loadsB_out h1;have hn:=(archB_out hA).1;have:=leftW_bd zs hl hq K;rw [(lf_t h).1];omega
theorem iWeightLeft_any (A:Option Addr) (n c:Nat) (zs:List Int) (B:Option Addr) (q d:Nat) (ls:List Int) (k:Int) (w:World) (h:RecsAt w w.heap.size 4 A n zs) (hn:n<=1048576) (hl:RecsAt w w.heap.size 3 B q ls) (hq:q<=1048576) :
  Calls Tryzx.prog 74 #[.agg #[.slice A n c],.slice B q d,.int .i64 k] w fun e w'=>e = .returned (.int .i64 (lfW zs n ls q k))/\Below w.heap.size w w':=by
 have b0:Below w.heap.size w (w.alloc (.cells #[.slice A n c] 45)):=bnw _ _;have h1:=h.after b0;have l1:=hl.after b0;go_enter Tryzx.func74,Tryz.ntmps74;go_wp2_with fail
 refine (leftOf_any _ _ _ zs _ _ _ ls _ _ h1 hn l1 hq).mono ?_;rintro e w1 ⟨rfl,hb1⟩;generalize hx:lfW zs n ls q k=x at *
 have HX:=q_ hx;clear hx;have hf:=run_field_wt x (lfM zs n ls q k) w1;go_wp2;go_ret;exact ⟨ret_int HX.out.symm,below_then b0 hb1⟩
theorem iTotalOf_any (A:Option Addr) (n c:Nat) (zs:List Int) (B:Option Addr) (q d:Nat) (ls:List Int) (w:World) (h:RecsAt w w.heap.size 4 A n zs) (hn:n<=1048576) (hl:RecsAt w w.heap.size 3 B q ls) (hq:q<=1048576) :
  Calls Tryzx.prog 46 #[.agg #[.slice A n c],.slice B q d] w fun e w'=>e = .returned (.int .i64 (lfW zs n ls q ((n:Int) - 1)))/\Below w.heap.size w w':=by
 have b0:Below w.heap.size w (w.alloc (.cells #[.slice A n c] 45)):=bnw _ _;have h1:=h.after b0;have l1:=hl.after b0;go_enter Tryzx.func46,Tryz.ntmps46;go_wp2_with fail
 refine (iWeightLeft_any _ _ _ zs _ _ _ ls _ _ h1 hn l1 hq).mono ?_;rintro e w1 ⟨rfl,hb1⟩;generalize hx:lfW zs n ls q ((n:Int) - 1)=x at *
 have HX:=q_ hx;clear hx;go_wp2;go_ret;exact ⟨ret_int HX.out.symm,below_then b0 hb1⟩
theorem sWeightLeft_any (A:Option Addr) (n c:Nat) (zs:List Int) (B:Option Addr) (q d:Nat) (ls:List Int) (k:Int) (w:World) (h:RecsAt w w.heap.size 4 A n zs) (hn:n<=1048576) (hl:RecsAt w w.heap.size 3 B q ls) (hq:q<=1048576) :
  Calls Tryzx.prog 40 #[.agg #[.slice A n c],.slice B q d,.int .i64 k] w fun e w'=>e = .returned (.int .i64 (lfW zs n ls q k))/\Below w.heap.size w w':=by
 have b0:Below w.heap.size w (w.alloc (.cells #[.slice A n c] 45)):=bnw _ _;have bx0:Box (w.alloc (.cells #[.slice A n c] 45)) w.heap.size (.slice A n c):=Box.new _ _ _;have h1:=h.after b0;have l1:=hl.after b0;cases hL:loadsB zs n ls q
 ·have HF:=q_ (lf_f (lfB_1 k hL)).1
  go_enter Tryzx.func40,Tryz.ntmps40;go_wp2_with fail
  refine (sLoadsOk_any _ _ _ zs _ _ _ ls _ h1 hn l1 hq).mono ?_;rw [hL];rintro e w1 ⟨rfl,hb1⟩;go_wp2;go_ret;exact ⟨ret_int HF.out.symm,below_then b0 hb1⟩
 ·cases hK:inB k 0 ((n:Int) - 1)
  ·have HF:=q_ (lf_f (lfB_2 zs ls q hK)).1
   go_enter Tryzx.func40,Tryz.ntmps40;go_wp2_with fail
   refine (sLoadsOk_any _ _ _ zs _ _ _ ls _ h1 hn l1 hq).mono ?_;rw [hL];rintro e w1 ⟨rfl,hb1⟩;have bx1:=(bx0.after hb1).1;go_wp2_with (go_at_call 52; refine (l01In_any _ _ _ _).mono ?_; rw [hK]; rintro e w' ⟨rfl,rfl⟩);go_ret;exact ⟨ret_int HF.out.symm,below_then b0 hb1⟩
  ·have hk:=inB_iff.1 hK
   obtain ⟨K,rfl⟩:∃ K:Nat,k=(K:Int):=⟨k.toNat,by omega⟩;have HT:=q_ (lf_t (lfB_t hL hK)).1;go_enter Tryzx.func40,Tryz.ntmps40;go_wp2_with fail
   refine (sLoadsOk_any _ _ _ zs _ _ _ ls _ h1 hn l1 hq).mono ?_;rw [hL];rintro e w1 ⟨rfl,hb1⟩;have bx1:=(bx0.after hb1).1;have h2:=h1.after hb1;have l2:=l1.after hb1;have B1:=below_then b0 hb1;clear hb1;go_wp2_with (go_at_call 52; refine (l01In_any _ _ _ _).mono ?_; rw [hK]; rintro e w' ⟨rfl,rfl⟩);refine (sLeft_any _ _ _ zs _ _ _ ls _ h2 l2 hL).mono ?_;rintro e w2 ⟨A6,c6,A7,c7,rfl,hi6,hi7,hb2⟩;obtain ⟨b6,o6,rfl,_,hc6⟩:=hi6.2 (by omega);have z6:=hc6 K (by omega);rw [lwL_nth (by omega)] at z6;have k0:(0:Int)<=(K:Int):=by omega
   have k1:(K:Int)<(n:Int):=by omega
   have B2:=below_then B1 hb2;clear hc6 hi7 hb2;go_wp2;go_ret;exact ⟨ret_int HT.out.symm,B2⟩
theorem sTotalOf_any (A:Option Addr) (n c:Nat) (zs:List Int) (B:Option Addr) (q d:Nat) (ls:List Int) (w:World) (h:RecsAt w w.heap.size 4 A n zs) (hn:n<=1048576) (hl:RecsAt w w.heap.size 3 B q ls) (hq:q<=1048576) :
  Calls Tryzx.prog 16 #[.agg #[.slice A n c],.slice B q d] w fun e w'=>e = .returned (.int .i64 (lfW zs n ls q ((n:Int) - 1)))/\Below w.heap.size w w':=by
 have b0:Below w.heap.size w (w.alloc (.cells #[.slice A n c] 45)):=bnw _ _;have h1:=h.after b0;have l1:=hl.after b0;go_enter Tryzx.func16,Tryz.ntmps16;go_wp2_with fail
 refine (sWeightLeft_any _ _ _ zs _ _ _ ls _ _ h1 hn l1 hq).mono ?_;rintro e w1 ⟨rfl,hb1⟩;generalize hx:lfW zs n ls q ((n:Int) - 1)=x at *
 have HX:=q_ hx;clear hx;go_wp2;go_ret;exact ⟨ret_int HX.out.symm,below_then b0 hb1⟩
end X
namespace X
open Go.RowKit
def totV (L M:List (Nat × List Int)) (k:Nat):Int:=lfW (rowZ L k) (rowN L k) (rowZ M k) (rowN M k) ((rowN L k:Int) - 1)
def vwTo (L M:List (Nat × List Int)):Nat->Int
 | 0=>0
 | k+1=>vwTo L M k+totV L M k
theorem totV_bd (L M:List (Nat × List Int)) (k:Nat) : -1400000<=totV L M k/\totV L M k<=1400000:=lfW_bd _ _ _ _ _
theorem vwTo_bd (L M:List (Nat × List Int)):∀ k:Nat,-(1400000*(k:Int))<=vwTo L M k/\vwTo L M k<=1400000*(k:Int)
 | 0=>by simp [vwTo]
 | k+1=>by
  have ih:=vwTo_bd L M k;have:=totV_bd L M k;simp only [vwTo];omega
def vwI (L:List (Nat × List Int)) (n:Nat) (M:List (Nat × List Int)) (q:Nat):Int:=if vaultB L n M q=true then vwTo L M n else 0
theorem vwI_t {L:List (Nat × List Int)} {n:Nat} {M:List (Nat × List Int)} {q:Nat} (h:vaultB L n M q=true):vwI L n M q=vwTo L M n:=by simp [vwI,h]
theorem vwI_f {L:List (Nat × List Int)} {n:Nat} {M:List (Nat × List Int)} {q:Nat} (h:vaultB L n M q=false):vwI L n M q=0:=by simp [vwI,h]
theorem iVaultWeight_any (A:Option Addr) (n c:Nat) (L:List (Nat × List Int)) (B:Option Addr) (q d:Nat) (M:List (Nat × List Int)) (w:World) (h:NestAt w w.heap.size 4 A n L) (hn:n<=1048576) (hr:∀ i,i<n->rowN L i<=1048576) (hl:NestAt w w.heap.size 3 B q M) (hq:q<=1048576) (hs:∀ i,i<q->rowN M i<=1048576) :
  Calls Tryzx.prog 21 #[.agg #[.slice A n c,.slice B q d]] w fun e w'=>e = .returned (.int .i64 (vwI L n M q))/\Below w.heap.size w w':=by
 have b0:Below w.heap.size w (w.alloc (.cells #[.slice A n c,.slice B q d] 31)):=bnw _ _;have bx0:Box2 (w.alloc (.cells #[.slice A n c,.slice B q d] 31)) w.heap.size (.slice A n c) (.slice B q d):=Box2.new _ _ _ _;have h1:=h.after b0;have l1:=hl.after b0;cases hB:vaultB L n M q
 ·have HF:=q_ (vwI_f hB)
  go_enter Tryzx.func21,Tryz.ntmps21;go_wp2_with fail
  refine (iVaultOk_any _ _ _ L _ _ _ M _ h1 hn hr l1 hq hs).mono ?_;rw [hB];rintro e w1 ⟨rfl,hb1⟩;go_wp2;go_ret;exact ⟨ret_int HF.out.symm,below_then b0 hb1⟩
 ·have HT:=q_ (vwI_t hB)
  obtain ⟨hn5,hqn,_⟩:=vaultB_out hB;subst hqn;have H:=q_ h;have HL:=q_ hl;have HR:=q_ hr;have HS:=q_ hs;go_enter Tryzx.func21,Tryz.ntmps21;go_wp2_with fail
  refine (iVaultOk_any _ _ _ L _ _ _ M _ h1 hn hr l1 hq hs).mono ?_;rw [hB];rintro e W1 ⟨rfl,hb1⟩;have BX1:=bx0.after hb1;have B1:=q_ (below_then b0 hb1);have cx0:=BX1.1;have cx1:=BX1.2.1;have BX:=q_ BX1;clear hb1 b0 bx0 h1 l1 h hl hr hs hB BX1;go_wp2;go_loopw [3,12] (fun s i wr=>∃ k:Nat,k<=q/\i = .int .i64 k/\s = .int .i64 (vwTo L M k)/\Hid (Box2 wr w.heap.size (.slice A q c) (.slice B q d))/\Hid (Below w.heap.size w wr)) (fun _ i _=>q - (intOf i).toNat)
  case atStart=>exact ⟨0,Nat.zero_le _,rfl,rfl,BX,B1⟩
  case round =>
   clear BX B1 cx0 cx1;obtain ⟨k,hk,rfl,rfl,HX,HB⟩:=hrel;by_cases hlt:k<q
   ·have hb:=HB.out
    obtain ⟨b,off,rfl,hbB,hc⟩:=H.out.2 (by omega);obtain ⟨b',off',rfl,hbB',hc'⟩:=HL.out.2 (by omega);obtain ⟨Ak,ck,hx,hrec,_,_⟩:=hc k hlt;obtain ⟨Bk,dk,hy,hrec',_,_⟩:=hc' k hlt;have x0:wr.cell? ⟨b,off+k,none⟩=some (.slice Ak (rowN L k) ck):=(hb.cell (by exact hbB)).trans hx;have y0:wr.cell? ⟨b',off'+k,none⟩=some (.slice Bk (rowN M k) dk):=(hb.cell (by exact hbB')).trans hy;have hba:Below wr.heap.size wr (wr.alloc (.cells #[.slice Ak (rowN L k) ck] 45)):=bnw _ _;have r1:=((hrec.below hb).mono hb.size).after hba;have r2:=((hrec'.below hb).mono hb.size).after hba;have hrk:=HR.out k hlt;have hsk:=HS.out k hlt;have hz:=hb.size;have ki:(k:Int)<(q:Int):=by omega
    have k0:(0:Int)<=(k:Int):=by omega
    have HBA:=q_ (hb.alloc hz (.cells #[.slice Ak (rowN L k) ck] 45));have HXA:=q_ (HX.out.after hba);have bn:(wr.alloc (.cells #[.slice Ak (rowN L k) ck] 45)).cell? ⟨wr.heap.size,0,none⟩=some (.slice Ak (rowN L k) ck):=cell_new1 _ _ _;have v1:=HXA.out.2.1;have vl:=HXA.out.2.2;have ya:(wr.alloc (.cells #[.slice Ak (rowN L k) ck] 45)).cell? ⟨b',off'+k,none⟩=some (.slice Bk (rowN M k) dk):=(hba.cell (p:=⟨b',off'+k,none⟩) (by show b'<wr.heap.size; omega)).trans y0
    have cx0:=HX.out.1;have hb'l:b'<wr.heap.size:=by omega
    have hvb:=vwTo_bd L M k;have htb:=totV_bd L M k;have es:IntKind.i64.wrap (vwTo L M k+lfW (rowZ L k) (rowN L k) (rowZ M k) (rowN M k) ((rowN L k:Int) - 1))=vwTo L M (k+1):=IntWalk.i64_in (vwTo L M k+totV L M k) (by omega);clear hc hc' hx hy hrec hrec' hb hvb htb;go_wp2;go_region_held3 (fun w'=>w'.cell? ⟨w.heap.size,1,none⟩=some (.slice (some ⟨b',off',none⟩) q d)/\w'.cell? ⟨b',off'+k,none⟩=some (.slice Bk (rowN M k) dk)/\w'.cell? ⟨wr.heap.size,0,none⟩=some (.slice Ak (rowN L k) ck)) (first | exact ⟨v1,ya,bn⟩ | exact ⟨(hcc _ _ (by simp; omega)).trans v1,(hcc _ _ (by simp; omega)).trans ya,(hcc _ _ (by simp)).trans bn⟩)
     ((go_at_call 46; refine (iTotalOf_any _ _ _ (rowZ L k) _ _ _ (rowZ M k) _ (by exact r1) hrk (by exact r2) hsk).mono ?_; rintro e w1 ⟨rfl,hb1⟩; obtain ⟨hcc,hff⟩:=bcell hb1))
    have HB2:=q_ (HBA.out.drew.trans (hb1.mono (by simp; omega)))
    have HX2:Hid (Box2 w1 w.heap.size (.slice (some ⟨b,off,none⟩) q c) (.slice (some ⟨b',off',none⟩) q d)):=(show Box2 (wr.alloc _).drew _ _ _ from HXA.out).after hb1;clear hcc hff hb1;go_wp2;go_roundw
    case rel=>exact ⟨k+1,by omega,by go_num,by rfl,HX2,HB2⟩
    case measure=>simp [intOf]; omega
   ·obtain rfl:q=k:=by omega
    go_wp2;go_ret;exact ⟨ret_int HT.out.symm,HB.out⟩
end X
namespace X
open Go.RowKit
theorem fail_mem (L M:List (Nat × List Int)) (x:Int):∀ n,x ∈ failTo L M n ↔ ∃ i,i<n/\x=(i:Int)/\ribS L M i=false
 | 0=>by simp [failTo]
 | n+1=>by
  cases hr:ribS L M n
  ·rw [failTo_f hr,List.mem_append,fail_mem L M x n,List.mem_singleton]
   constructor
   ·rintro (⟨i,h1,h2,h3⟩ | rfl)
    ·exact ⟨i,by omega,h2,h3⟩
    ·exact ⟨n,by omega,rfl,hr⟩
   ·rintro ⟨i,h1,h2,h3⟩
    by_cases e:i=n
    ·subst e; exact .inr h2
    ·exact .inl ⟨i,by omega,h2,h3⟩
  ·rw [failTo_t hr,fail_mem L M x n]
   constructor
   ·rintro ⟨i,h1,h2,h3⟩
    exact ⟨i,by omega,h2,h3⟩
   ·rintro ⟨i,h1,h2,h3⟩
    by_cases e:i=n
    ·subst e; rw [hr] at h3; cases h3
    ·exact ⟨i,by omega,h2,h3⟩
theorem has_fail {L M:List (Nat × List Int)} {n i:Nat} (hi:i<n):hasI (failTo L M n) (i:Int) (failTo L M n).length = !(ribS L M i):=by
 have h1:=hasI_iff (failTo L M n) (i:Int) (failTo L M n).length;have h2:=fail_mem L M (i:Int) n;have h3:(∃ j,j<(failTo L M n).length/\nth (failTo L M n) j=(i:Int)) ↔ (i:Int) ∈ failTo L M n:=by
  constructor
  ·rintro ⟨j,hj,e⟩
   rw [nth_get _ _ hj] at e;rw [<- e];exact List.getElem_mem hj
  ·intro h
   obtain ⟨j,hj,e⟩:=List.getElem_of_mem h;exact ⟨j,hj,by rw [nth_get _ _ hj]; exact e⟩
 cases hr:ribS L M i
 ·exact h1.2 (h3.2 (h2.2 ⟨i,hi,rfl,hr⟩))
 ·cases hh:hasI (failTo L M n) (i:Int) (failTo L M n).length
  ·rfl
  ·obtain ⟨j,hj,e,hf⟩:=h2.1 (h3.1 (h1.1 hh))
   obtain rfl:i=j:=by omega
   rw [hr] at hf; cases hf
theorem ldW_app {ls t:List Int} {k:Nat}:∀ i,i*3<=ls.length->ldW (ls ++ t) k i=ldW ls k i
 | 0,_=>rfl
 | i+1,h=>by
  simp only [ldW];rw [ldW_app i (by omega),nth_app_lt (by omega),nth_app_lt (by omega)]
theorem kw_push {zs ls:List Int} {q st:Nat} {b c:Int} (hl:ls.length=q*3) (k:Nat):kwTo zs (ls ++ [(st:Int),b,c]) k (q+1)=kwTo zs ls k q+if st=k then b else 0:=by
 have e0:nth (ls ++ [(st:Int),b,c]) (q*3)=(st:Int):=by have:=nth_app_ge (L:=ls) (a := [(st:Int),b,c]) (i:=0); rw [hl] at this; exact this
 have e1:nth (ls ++ [(st:Int),b,c]) (q*3+1)=b:=by have:=nth_app_ge (L:=ls) (a := [(st:Int),b,c]) (i:=1); rw [hl] at this; exact this
 have e2:=ldW_app (ls:=ls) (t := [(st:Int),b,c]) (k:=k) q (by omega);simp only [kwTo,ldW,e0,e1,e2];by_cases h:st=k
 ·subst h; simp; omega
 ·have:¬ (st:Int)=(k:Int):=by omega
  simp [h,this]
theorem left_push {zs ls:List Int} {q st:Nat} {b c:Int} (hl:ls.length=q*3):∀ K,leftW zs (ls ++ [(st:Int),b,c]) (q+1) K=leftW zs ls q K+if st<K then b else 0
 | 0=>by simp [leftW]
 | K+1=>by
  simp only [leftW];rw [left_push hl K,kw_push hl K];by_cases h:st<K
  ·have h1:¬ st=K:=by omega
   have h2:st<K+1:=by omega
   simp only [h,h1,h2,if_true,if_false]; omega
  ·by_cases h1:st=K
   ·subst h1
    simp; omega
   ·have h2:¬ st<K+1:=by omega
    simp only [h,h1,h2,if_false]; omega
section
variable {L M : List (Nat × List Int)} {n : Nat}
theorem vgood_rib {i:Nat} (h:VGood L M i):ribB L M i=true:=loadsB_t h.1 (by have:=h.2.1; omega) h.2.2
theorem vgood_vault (hn:1<=n/\n<=3) (h:∀ i,i<n->VGood L M i):vaultB L n M n=true:=vaultB_t (inB_t (by omega)) rfl (fun i hi=>vgood_rib (h i hi))
theorem share_wq (hn:1<=n/\n<=3):0<=Int.tdiv 90 (n:Int)/\Int.tdiv 90 (n:Int)<=90:=by
 have h:n=1 ∨ n=2 ∨ n=3:=by omega
 rcases h with rfl | rfl | rfl <;> decide
theorem share_sh (hn:1<=n/\n<=3):0<=Int.tdiv 90 (n:Int)*(n:Int)/\Int.tdiv 90 (n:Int)*(n:Int)<=270:=by
 have h:n=1 ∨ n=2 ∨ n=3:=by omega
 rcases h with rfl | rfl | rfl <;> decide
theorem share_row {i:Nat} (hi:i<n) (hn:1<=n/\n<=3) (h:VGood L M i) (hl:(rowZ M i).length=rowN M i*3) :
  ribB L (shNew L M n 90 3) i=true/\totV L (shNew L M n 90 3) i=totV L M i+Int.tdiv 90 (n:Int):=by
 obtain ⟨e1,e2⟩:=shTo_lt (L:=L) (M:=M) (wq:=Int.tdiv 90 (n:Int)) (x:=3) (k:=n) hi hi;have ha:=(archB_out h.1).1;have hs:stoneU (rowZ L i) (rowN L i) 3<=rowN L i - 2:=stU_le _ _;have hw:=share_wq hn;have hv:allTo (loadAt (rowZ (shNew L M n 90 3) i) (rowN L i)) (rowN (shNew L M n 90 3) i):=by
  show allTo (loadAt (rowZ (shTo L M n (Int.tdiv 90 (n:Int)) 3 n) i) (rowN L i)) (rowN (shTo L M n (Int.tdiv 90 (n:Int)) 3 n) i)
  rw [e1,e2];exact loads_push hl h.2.2 (by omega) (by omega) (by omega)
 have hr:loadsB (rowZ L i) (rowN L i) (rowZ (shNew L M n 90 3) i) (rowN (shNew L M n 90 3) i)=true:=loadsB_t h.1 (by show rowN (shTo L M n (Int.tdiv 90 (n:Int)) 3 n) i<=6; rw [e1]; have:=h.2.1; omega) hv
 refine ⟨hr,?_⟩;have hK:((rowN L i:Int) - 1)=((rowN L i - 1:Nat):Int):=by omega
 unfold totV;rw [hK,(lf_t (lfB_t hr (inB_t (by omega)))).1,(lf_t (lfB_t (vgood_rib h) (inB_t (by omega)))).1];show leftW _ (rowZ (shTo L M n (Int.tdiv 90 (n:Int)) 3 n) i) (rowN (shTo L M n (Int.tdiv 90 (n:Int)) 3 n) i) _=_
 rw [e1,e2,left_push hl,if_pos (by omega)]
theorem share_sum (hn:1<=n/\n<=3) (h:∀ i,i<n->VGood L M i) (hl:∀ i,i<n->(rowZ M i).length=rowN M i*3):∀ k,k<=n->vwTo L (shNew L M n 90 3) k=vwTo L M k+Int.tdiv 90 (n:Int)*(k:Int)
 | 0,_=>by simp [vwTo]
 | k+1,hk=>by
  simp only [vwTo];rw [share_sum hn h hl k (by omega),(share_row (by omega) hn (h k (by omega)) (hl k (by omega))).2];have e:Int.tdiv 90 (n:Int)*((k+1:Nat):Int)=Int.tdiv 90 (n:Int)*(k:Int)+Int.tdiv 90 (n:Int):=by
   rw [Int.natCast_add,Int.mul_add]; simp
  rw [e]; omega
structure ShareOk (L M:List (Nat × List Int)) (n:Nat):Prop where
 ok:vaultB L n M n=true
 sb:shB L n M n 90 3=true
 sm:shM L n M n 90 3=shNew L M n 90 3
 ok2:vaultB L n (shNew L M n 90 3) n=true
 sum:vwTo L (shNew L M n 90 3) n=vwTo L M n+Int.tdiv 90 (n:Int)*(n:Int)
 few:∀ i,i<n->rowN (shNew L M n 90 3) i<=7
 len:(shNew L M n 90 3).length=n
theorem share_ok (hn:1<=n/\n<=3) (h:∀ i,i<n->VGood L M i) (hl:∀ i,i<n->(rowZ M i).length=rowN M i*3):ShareOk L M n:=by
 have h1:=vgood_vault hn h;have h2:vaultB L n (shNew L M n 90 3) n=true:=vaultB_t (inB_t (by omega)) rfl (fun i hi=>(share_row hi hn (h i hi) (hl i hi)).1);have h3:=sh_t (wt:=90) (x:=3) h1 (inB_t (by omega)) h2;refine ⟨h1,h3.1,h3.2,h2,share_sum hn h hl n (Nat.le_refl _),fun i hi => ?_,shTo_len _ _ _ _ _ _⟩;have e:=(shTo_lt (L:=L) (M:=M) (wq:=Int.tdiv 90 (n:Int)) (x:=3) (k:=n) hi hi).1;show rowN (shTo L M n (Int.tdiv 90 (n:Int)) 3 n) i<=7
 have:=(h i hi).2.1;omega
end
end X
namespace X
open Go.RowKit
theorem big_any (A:Option Addr) (n c:Nat) (w:World):Calls Tryzx.prog 12 #[.slice A n c] w fun e w'=>e = .returned (.bool (decide ((1048576:Int)<(n:Int))))/\w=w':=by
 go_enter Tryzx.func12,Tryz.ntmps12;go_wp2;go_ret;exact ⟨rfl,rfl⟩
end X
namespace X
open Go.RowKit
theorem iStd_any (A:Option Addr) (n c:Nat) (zs:List Int) (B:Option Addr) (q d:Nat) (ls:List Int) (w:World) (h:RecsAt w w.heap.size 4 A n zs) (hn:n<=1048576) (hl:RecsAt w w.heap.size 3 B q ls) (hq:q<=1048576) :
  Calls Tryzx.prog 37 #[.agg #[.slice A n c],.slice B q d] w fun e w'=>e = .returned (.bool (decide (0<(thrN zs n ls q:Int))))/\Below w.heap.size w w':=by
 have b0:Below w.heap.size w (w.alloc (.cells #[.slice A n c] 45)):=bnw _ _;have h1:=h.after b0;have l1:=hl.after b0;have HB0:=q_ b0;clear b0 h hl;go_enter Tryzx.func37,Tryz.ntmps37;go_wp2_with fail
 refine (iThr_any _ _ _ zs _ _ _ ls _ h1 hn l1 hq).mono ?_;rintro e w2 ⟨v2,rfl,ho2,hb2⟩;obtain ⟨A2,c2,rfl,_⟩:=ho2.slice;have HB2:=q_ (HB0.out.trans (hb2.mono HB0.out.size));clear hb2 ho2;obtain ⟨N,hN⟩:∃ N,thrN zs n ls q=N:=⟨_,rfl⟩;have HN:Hid (decide (0<N)=decide (0<(thrN zs n ls q:Int))):=q_ (by rw [hN]; simp)
 rw [hN];clear hN;go_wp2;go_ret;exact ⟨ret_bool2 HN.out,HB2.out⟩
end X
end Go.Proofs.YtjcgklifabcfkaaGreat
