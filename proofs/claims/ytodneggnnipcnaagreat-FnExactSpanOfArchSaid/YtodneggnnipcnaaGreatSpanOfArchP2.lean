/-
  Texts that the law stands on, part 2.
-/
import Derived.Test.YtodneggnnipcnaaGreatSpanOfArchP1
import Derived.Test.YtodneggnnipcnaaGreatH10
import Derived.Test.YtodneggnnipcnaaGreatH15
import Derived.Test.YtodneggnnipcnaaGreatH18
import Derived.Test.YtodneggnnipcnaaGreatH23
import Derived.Test.YtodneggnnipcnaaGreatH24
set_option maxRecDepth 100000
set_option linter.unusedVariables false
set_option linter.unusedSimpArgs false
namespace Go.Proofs.YtodneggnnipcnaaGreat
namespace X
open Go.RowKit
def endV (ok:Bool) (r:Int) (L:List Int) (m:Nat):Value:=if ok=true then thrV (bstV r L (m - 1) 0) (bstV r L (m - 1) 1) (bstV r L (m - 1) 2) (bstV r L (m - 1) 3) true else thrV 0 0 0 0 false
theorem endV_f {ok:Bool} (h:ok=false) (r:Int) (L:List Int) (m:Nat):endV ok r L m=thrV 0 0 0 0 false:=by subst h; rfl
theorem endV_t {ok:Bool} (h:ok=true) (r:Int) (L:List Int) (m:Nat):endV ok r L m=thrV (bstV r L (m - 1) 0) (bstV r L (m - 1) 1) (bstV r L (m - 1) 2) (bstV r L (m - 1) 3) true:=by subst h; rfl
def EndPost (w:World) (ok:Bool) (r:Int) (L:List Int) (m:Nat) (e:Ending) (w':World):Prop:=e = .returned (endV ok r L m)∧Below w.heap.size w w'
noncomputable def grtB (zs:List Int) (n:Nat) (ls:List Int) (q:Nat):Bool:=decide (0<thrN zs n ls q) && !strB zs n
def lstB (zs:List Int) (n:Nat) (ls:List Int) (q:Nat):Bool:=decide (0<thrN zs n ls q)
theorem grt_1 {zs ls:List Int} {n q:Nat} (h:thrN zs n ls q=0):grtB zs n ls q=false:=by simp [grtB,h]
theorem grt_2 {zs ls:List Int} {n q:Nat} (h:strB zs n=true):grtB zs n ls q=false:=by simp [grtB,h]
theorem grt_3 {zs ls:List Int} {n q:Nat} (h:strB zs n=false):grtB zs n ls q=decide (0<thrN zs n ls q):=by simp [grtB,h]
theorem below_set4' {w wr:World} {B g:Nat} (h:Below B w wr) (hg:B≤g) (a b c d:Value):Below B w ((((wr.setCell ⟨g,0,none⟩ a).setCell ⟨g,1,none⟩ b).setCell ⟨g,2,none⟩ c).setCell ⟨g,3,none⟩ d):=(((h.setCell (p:=⟨g,0,none⟩) hg _).setCell (p:=⟨g,1,none⟩) hg _).setCell (p:=⟨g,2,none⟩) hg _).setCell (p:=⟨g,3,none⟩) hg _
section
variable (A : Option Addr) (n c : Nat) (zs : List Int) (B : Option Addr) (q d : Nat) (ls : List Int) (w : World) (h : RecsAt w w.heap.size 4 A n zs) (hn : n ≤ 1048576) (hl : RecsAt w w.heap.size 3 B q ls) (hq : q ≤ 1048576)
include h hn hl hq
set_option maxRecDepth 100000 in
set_option maxHeartbeats 3200000 in
theorem sEndT_any:Calls Tryzx.prog 62 #[.agg #[.slice A n c],.slice B q d,.bool true] w (EndPost w (decide (0<thrN zs n ls q)) 1 (thrL zs n ls q) (thrN zs n ls q)):=by
 have hz0:(w.alloc (.cells #[.slice A n c] 32)).heap.size=w.heap.size+1:=by simp
 have b0:Below w.heap.size w ((w.alloc (.cells #[.slice A n c] 32)).alloc (.cells #[.int .i64 0,.int .i64 0,.int .i64 0,.int .i64 0] 40)):=((Below.refl _ _).alloc (Nat.le_refl _) _).alloc (by simp) _;have bx0:Box ((w.alloc (.cells #[.slice A n c] 32)).alloc (.cells #[.int .i64 0,.int .i64 0,.int .i64 0,.int .i64 0] 40)) w.heap.size (.slice A n c):=(Box.new w (.slice A n c) 32).alloc _;have HA0:Hid (RowF ((w.alloc (.cells #[.slice A n c] 32)).alloc (.cells #[.int .i64 0,.int .i64 0,.int .i64 0,.int .i64 0] 40)) (w.heap.size+1) 40 4 (ints [0,0,0,0])):=Lib.hid (by
  have h:=RowF.of_row (World.rowIs_alloc (w.alloc (.cells #[.slice A n c] 32)) #[.int .i64 0,.int .i64 0,.int .i64 0,.int .i64 0] 40 (ints [0,0,0,0]) (fun i hi=>by simp at hi; match i,hi with | 0,_=>rfl | 1,_=>rfl | 2,_=>rfl | 3,_=>rfl))
  rw [hz0] at h;exact h)
 have HX:=Lib.hid bx0;have HH:=Lib.hid h;have HL:=Lib.hid hl;have HB0:=Lib.hid b0;have cx0:=bx0.1;have hw1:=h.after b0;have hw2:=hl.after b0;clear hz0 b0 bx0 h hl;go_enter Tryzx.func62,Tryz.ntmps62;go_wp2_with fail
 refine (sThr_any _ _ _ zs _ _ _ ls _ (by exact hw1) hn (by exact hw2) hq).mono ?_;rintro e w1 ⟨v1,rfl,ho1,hb1⟩;have HA1:=Lib.hid (HA0.out.after hb1);have HB1:=Lib.hid (below_then HB0.out hb1);obtain ⟨A1,c1,rfl,hcap⟩:=ho1.slice;have r1:=ho1.recs;have hfew:thrN zs n ls q≤8000:=by have:=(corn_acc (rowsZ zs n ls q) (rowsN zs n ls q)).few; unfold thrN; omega
 generalize thrN zs n ls q=m at *
 generalize thrL zs n ls q=L at *
 clear hb1 ho1 hw1 hw2 cx0 HA0 HB0 HX;by_cases hm:m=0
 ·subst hm
  have HE:=Lib.hid (endV_f (ok:=decide (0<0)) (by decide) 1 L 0);clear r1;obtain ⟨⟨d0,d1,d2,d3⟩,f0,f1,f2,f3⟩:=row4 HA1.out;go_wp2;refine bodyPost_ret (v:=thrV 0 0 0 0 false) (by simp [thrV,results,Tryz.results62,go_sem, *]) rfl ⟨by rw [HE.out],?_⟩;exact below_set4' HB1.out (Nat.le_succ _) _ _ _ _
 ·obtain ⟨j,rfl⟩:∃ j,m=j+1:=⟨m - 1,by omega⟩
  have HE:=Lib.hid (endV_t (ok:=decide (0<j+1)) (decide_eq_true (by omega)) 1 L (j+1));obtain ⟨b,off,rfl,hbB,hc⟩:=r1.2 (by omega);have x0:w1.cell? ⟨b,off,none⟩=some (.int .i64 (nth L 0)):=hc 0 (by omega);have x1:w1.cell? ⟨b,off+1,none⟩=some (.int .i64 (nth L 1)):=hc 1 (by omega);have x2:w1.cell? ⟨b,off+2,none⟩=some (.int .i64 (nth L 2)):=hc 2 (by omega);have x3:w1.cell? ⟨b,off+3,none⟩=some (.int .i64 (nth L 3)):=hc 3 (by omega);have HC:=Lib.hid hc;have hne:(((j+1:Nat):Int) == 0)=false:=by simp; omega
  have hne2:(((j:Int)+1) == 0)=false:=by simp; omega
  have HR1:Hid (RowF (w1.alloc (.cells #[.int .i64 (nth L 0),.int .i64 (nth L 1),.int .i64 (nth L 2),.int .i64 (nth L 3)] 40)) w1.heap.size 40 4 (ints (bst4 1 L 0))):=Lib.hid (by
   unfold bst4;rw [bstV_0,bstV_0,bstV_0,bstV_0];exact RowF.of_row (World.rowIs_alloc w1 #[.int .i64 (nth L 0),.int .i64 (nth L 1),.int .i64 (nth L 2),.int .i64 (nth L 3)] 40 (ints [nth L 0,nth L 1,nth L 2,nth L 3]) (fun i hi=>by simp at hi; match i,hi with | 0,_=>rfl | 1,_=>rfl | 2,_=>rfl | 3,_=>rfl)))
  have HG1:Hid (Below w1.heap.size w1 (w1.alloc (.cells #[.int .i64 (nth L 0),.int .i64 (nth L 1),.int .i64 (nth L 2),.int .i64 (nth L 3)] 40))):=Lib.hid ((Below.refl _ _).alloc (Nat.le_refl _) _);have hj0:(0:Int)<(j:Int)+1:=by omega
  clear r1 hc hm;go_wp2;go_loopw [10] (fun v10 wr=>∃ k:Nat,v10 = .int .i64 ((k:Int)+1)∧k≤j∧Hid (RowF wr w1.heap.size 40 4 (ints (bst4 1 L k)))∧Hid (Below w1.heap.size w1 wr)) (fun v10 _=>j+1 - (intOf v10).toNat)
  case atStart=>exact ⟨0,by go_num,Nat.zero_le _,HR1,HG1⟩
  case round =>
   clear HR1 HG1 x0 x1 x2 x3;obtain ⟨k,rfl,hk,HQ,HG⟩:=hrel;by_cases hlt:k<j
   ·have y0:wr.cell? ⟨b,off+(k+1)*4,none⟩=some (.int .i64 (nth L ((k+1)*4))):=(HG.out.cell (by exact hbB)).trans (HC.out ((k+1)*4) (by omega))
    have y1:wr.cell? ⟨b,off+(k+1)*4+1,none⟩=some (.int .i64 (nth L ((k+1)*4+1))):=by
     have:=(HG.out.cell (p:=⟨b,off+((k+1)*4+1),none⟩) hbB).trans (HC.out ((k+1)*4+1) (by omega));rwa [← Nat.add_assoc] at this
    have y2:wr.cell? ⟨b,off+(k+1)*4+2,none⟩=some (.int .i64 (nth L ((k+1)*4+2))):=by
     have:=(HG.out.cell (p:=⟨b,off+((k+1)*4+2),none⟩) hbB).trans (HC.out ((k+1)*4+2) (by omega));rwa [← Nat.add_assoc] at this
    have y3:wr.cell? ⟨b,off+(k+1)*4+3,none⟩=some (.int .i64 (nth L ((k+1)*4+3))):=by
     have:=(HG.out.cell (p:=⟨b,off+((k+1)*4+3),none⟩) hbB).trans (HC.out ((k+1)*4+3) (by omega));rwa [← Nat.add_assoc] at this
    obtain ⟨⟨c0,c1,c2,c3⟩,_⟩:=row4 (a:=bstV 1 L k 0) (b:=bstV 1 L k 1) (c:=bstV 1 L k 2) (d:=bstV 1 L k 3) HQ.out;have TT:Hid (better 1 L k=1→bst4 1 L (k+1) = [nth L ((k+1)*4),nth L ((k+1)*4+1),nth L ((k+1)*4+2),nth L ((k+1)*4+3)]):=Lib.hid (fun h=>by unfold bst4; rw [bstV_t h,bstV_t h,bstV_t h,bstV_t h]; rfl)
    have TF:Hid (¬ better 1 L k=1→bst4 1 L (k+1)=bst4 1 L k):=Lib.hid (fun h=>by unfold bst4; rw [bstV_f h,bstV_f h,bstV_f h,bstV_f h]);unfold better at TT TF;have hz:=HG.out.size;have hgl:=HQ.out.lt;have i1:IntKind.i64.wrap ((k:Int)+1+1)=(k:Int)+1+1:=IntWalk.i64_in _ (by omega);have ik:(k:Int)+1<((j+1:Nat):Int):=by omega
    have ik2:(k:Int)+1<(j:Int)+1:=by omega
    have ip:(0:Int)≤(k:Int)+1:=by omega
    have it:((k:Int)+1).toNat=k+1:=by omega
    generalize nth L ((k+1)*4)=p0 at *
    generalize nth L ((k+1)*4+1)=p1 at *
    generalize nth L ((k+1)*4+2)=p2 at *
    generalize nth L ((k+1)*4+3)=p3 at *
    generalize hq0:bstV 1 L k 0=q0 at *
    generalize hq1:bstV 1 L k 1=q1 at *
    generalize hq2:bstV 1 L k 2=q2 at *
    generalize hq3:bstV 1 L k 3=q3 at *
    go_wp2_with fail
    go_region_held3 (fun w'=>(w'.cell? ⟨b,off+(k+1)*4,none⟩=some (.int .i64 p0)∧w'.cell? ⟨b,off+(k+1)*4+1,none⟩=some (.int .i64 p1)∧w'.cell? ⟨b,off+(k+1)*4+2,none⟩=some (.int .i64 p2)∧w'.cell? ⟨b,off+(k+1)*4+3,none⟩=some (.int .i64 p3))∧(w'.cell? ⟨w1.heap.size,0,none⟩=some (.int .i64 q0)∧w'.cell? ⟨w1.heap.size,1,none⟩=some (.int .i64 q1)∧w'.cell? ⟨w1.heap.size,2,none⟩=some (.int .i64 q2)∧w'.cell? ⟨w1.heap.size,3,none⟩=some (.int .i64 q3))) (first | exact ⟨⟨y0,y1,y2,y3⟩,⟨c0,c1,c2,c3⟩⟩ | exact hk2) ((go_at_call 88; refine (sCmpT_any p0 p1 p2 p3 q0 q1 q2 q3 _).mono ?_; rintro e w2 ⟨rfl,hbx⟩; have hb2:=below_undrew hbx; have hk2:(w2.cell? ⟨b,off+(k+1)*4,none⟩=some (.int .i64 p0)∧w2.cell? ⟨b,off+(k+1)*4+1,none⟩=some (.int .i64 p1)∧w2.cell? ⟨b,off+(k+1)*4+2,none⟩=some (.int .i64 p2)∧w2.cell? ⟨b,off+(k+1)*4+3,none⟩=some (.int .i64 p3))∧(w2.cell? ⟨w1.heap.size,0,none⟩=some (.int .i64 q0)∧w2.cell? ⟨w1.heap.size,1,none⟩=some (.int .i64 q1)∧w2.cell? ⟨w1.heap.size,2,none⟩=some (.int .i64 q2)∧w2.cell? ⟨w1.heap.size,3,none⟩=some (.int .i64 q3)):=⟨⟨(hb2.cell (p:=⟨b,_,none⟩) (Nat.lt_of_lt_of_le hbB hz)).trans y0,(hb2.cell (p:=⟨b,_,none⟩) (Nat.lt_of_lt_of_le hbB hz)).trans y1,(hb2.cell (p:=⟨b,_,none⟩) (Nat.lt_of_lt_of_le hbB hz)).trans y2,(hb2.cell (p:=⟨b,_,none⟩) (Nat.lt_of_lt_of_le hbB hz)).trans y3⟩,⟨(hb2.cell (p:=⟨w1.heap.size,_,none⟩) hgl).trans c0,(hb2.cell (p:=⟨w1.heap.size,_,none⟩) hgl).trans c1,(hb2.cell (p:=⟨w1.heap.size,_,none⟩) hgl).trans c2,(hb2.cell (p:=⟨w1.heap.size,_,none⟩) hgl).trans c3⟩⟩));have HG2:=Lib.hid (HG.out.trans (hb2.mono hz));have HQ2:=Lib.hid (HQ.out.after hb2);obtain ⟨⟨y0',y1',y2',y3'⟩,⟨c0',c1',c2',c3'⟩⟩:=hk2;clear hb2 hbx HG HQ y0 y1 y2 y3 c0 c1 c2 c3;generalize hcm:cmpT p0 p1 p2 p3 q0 q1 q2 q3=cm at *
    by_cases hbt:cm=1
    ·have HF:=Lib.hid (TT.out hbt)
     subst hbt;obtain ⟨_,g0,g1,g2,g3⟩:=row4 (a:=bstV 1 L k 0) (b:=bstV 1 L k 1) (c:=bstV 1 L k 2) (d:=bstV 1 L k 3) HQ2.out;have HX3:=Lib.hid (((((HQ2.out.set 0 (.int .i64 p0)).set 1 (.int .i64 p1)).set 2 (.int .i64 p2)).set 3 (.int .i64 p3)).congr (f':=ints [p0,p1,p2,p3]) (fun i hi=>by match i,hi with | 0,_=>rfl | 1,_=>rfl | 2,_=>rfl | 3,_=>rfl));have HG3:=Lib.hid (below_set4' HG2.out (Nat.le_refl _) (.int .i64 p0) (.int .i64 p1) (.int .i64 p2) (.int .i64 p3));go_wp2;go_roundw
     case rel=>exact ⟨k+1,by go_num,by omega,by rw [HF.out]; exact HX3,HG3⟩
     case measure=>simp [intOf]; omega
    ·have HF:=Lib.hid (TF.out hbt)
     have hbe:(cm == 1)=false:=by simp [hbt]
     clear hbt y0' y1' y2' y3' c0' c1' c2' c3';go_wp2;go_roundw
     case rel=>exact ⟨k+1,by go_num,by omega,by rw [HF.out]; exact HQ2,HG2⟩
     case measure=>simp [intOf]; omega
   ·obtain rfl:k=j:=by omega
    have ik:¬ (k:Int)+1<((k+1:Nat):Int):=by omega
    have ik2:¬ (k:Int)+1<(k:Int)+1:=by omega
    have HA2:=Lib.hid (HA1.out.after HG.out);have HB2:=Lib.hid (below_then HB1.out HG.out);obtain ⟨⟨c0,c1,c2,c3⟩,_⟩:=row4 (a:=bstV 1 L k 0) (b:=bstV 1 L k 1) (c:=bstV 1 L k 2) (d:=bstV 1 L k 3) HQ.out;obtain ⟨⟨d0,d1,d2,d3⟩,f0,f1,f2,f3⟩:=row4 HA2.out;go_wp2;refine bodyPost_ret (v:=thrV (bstV 1 L k 0) (bstV 1 L k 1) (bstV 1 L k 2) (bstV 1 L k 3) true) (by simp [thrV,results,Tryz.results62,go_sem, *]) rfl ⟨by first | rfl | (rw [HE.out]; rfl),?_⟩
    exact below_set4' HB2.out (Nat.le_succ _) _ _ _ _
set_option maxRecDepth 100000 in
set_option maxHeartbeats 3200000 in
theorem sEndF_any:Calls Tryzx.prog 62 #[.agg #[.slice A n c],.slice B q d,.bool false] w (EndPost w (decide (0<thrN zs n ls q)) (-1) (thrL zs n ls q) (thrN zs n ls q)):=by
 have hz0:(w.alloc (.cells #[.slice A n c] 32)).heap.size=w.heap.size+1:=by simp
 have b0:Below w.heap.size w ((w.alloc (.cells #[.slice A n c] 32)).alloc (.cells #[.int .i64 0,.int .i64 0,.int .i64 0,.int .i64 0] 40)):=((Below.refl _ _).alloc (Nat.le_refl _) _).alloc (by simp) _;have bx0:Box ((w.alloc (.cells #[.slice A n c] 32)).alloc (.cells #[.int .i64 0,.int .i64 0,.int .i64 0,.int .i64 0] 40)) w.heap.size (.slice A n c):=(Box.new w (.slice A n c) 32).alloc _;have HA0:Hid (RowF ((w.alloc (.cells #[.slice A n c] 32)).alloc (.cells #[.int .i64 0,.int .i64 0,.int .i64 0,.int .i64 0] 40)) (w.heap.size+1) 40 4 (ints [0,0,0,0])):=Lib.hid (by
  have h:=RowF.of_row (World.rowIs_alloc (w.alloc (.cells #[.slice A n c] 32)) #[.int .i64 0,.int .i64 0,.int .i64 0,.int .i64 0] 40 (ints [0,0,0,0]) (fun i hi=>by simp at hi; match i,hi with | 0,_=>rfl | 1,_=>rfl | 2,_=>rfl | 3,_=>rfl))
  rw [hz0] at h;exact h)
 have HX:=Lib.hid bx0;have HH:=Lib.hid h;have HL:=Lib.hid hl;have HB0:=Lib.hid b0;have cx0:=bx0.1;have hw1:=h.after b0;have hw2:=hl.after b0;clear hz0 b0 bx0 h hl;go_enter Tryzx.func62,Tryz.ntmps62;go_wp2_with fail
 refine (sThr_any _ _ _ zs _ _ _ ls _ (by exact hw1) hn (by exact hw2) hq).mono ?_;rintro e w1 ⟨v1,rfl,ho1,hb1⟩;have HA1:=Lib.hid (HA0.out.after hb1);have HB1:=Lib.hid (below_then HB0.out hb1);obtain ⟨A1,c1,rfl,hcap⟩:=ho1.slice;have r1:=ho1.recs;have hfew:thrN zs n ls q≤8000:=by have:=(corn_acc (rowsZ zs n ls q) (rowsN zs n ls q)).few; unfold thrN; omega
 generalize thrN zs n ls q=m at *
 generalize thrL zs n ls q=L at *
 clear hb1 ho1 hw1 hw2 cx0 HA0 HB0 HX;by_cases hm:m=0
 ·subst hm
  have HE:=Lib.hid (endV_f (ok:=decide (0<0)) (by decide) (-1) L 0);clear r1;obtain ⟨⟨d0,d1,d2,d3⟩,f0,f1,f2,f3⟩:=row4 HA1.out;go_wp2;refine bodyPost_ret (v:=thrV 0 0 0 0 false) (by simp [thrV,results,Tryz.results62,go_sem, *]) rfl ⟨by rw [HE.out],?_⟩;exact below_set4' HB1.out (Nat.le_succ _) _ _ _ _
 ·obtain ⟨j,rfl⟩:∃ j,m=j+1:=⟨m - 1,by omega⟩
  have HE:=Lib.hid (endV_t (ok:=decide (0<j+1)) (decide_eq_true (by omega)) (-1) L (j+1));obtain ⟨b,off,rfl,hbB,hc⟩:=r1.2 (by omega);have x0:w1.cell? ⟨b,off,none⟩=some (.int .i64 (nth L 0)):=hc 0 (by omega);have x1:w1.cell? ⟨b,off+1,none⟩=some (.int .i64 (nth L 1)):=hc 1 (by omega);have x2:w1.cell? ⟨b,off+2,none⟩=some (.int .i64 (nth L 2)):=hc 2 (by omega);have x3:w1.cell? ⟨b,off+3,none⟩=some (.int .i64 (nth L 3)):=hc 3 (by omega);have HC:=Lib.hid hc;have hne:(((j+1:Nat):Int) == 0)=false:=by simp; omega
  have hne2:(((j:Int)+1) == 0)=false:=by simp; omega
  have HR1:Hid (RowF (w1.alloc (.cells #[.int .i64 (nth L 0),.int .i64 (nth L 1),.int .i64 (nth L 2),.int .i64 (nth L 3)] 40)) w1.heap.size 40 4 (ints (bst4 (-1) L 0))):=Lib.hid (by
   unfold bst4;rw [bstV_0,bstV_0,bstV_0,bstV_0];exact RowF.of_row (World.rowIs_alloc w1 #[.int .i64 (nth L 0),.int .i64 (nth L 1),.int .i64 (nth L 2),.int .i64 (nth L 3)] 40 (ints [nth L 0,nth L 1,nth L 2,nth L 3]) (fun i hi=>by simp at hi; match i,hi with | 0,_=>rfl | 1,_=>rfl | 2,_=>rfl | 3,_=>rfl)))
  have HG1:Hid (Below w1.heap.size w1 (w1.alloc (.cells #[.int .i64 (nth L 0),.int .i64 (nth L 1),.int .i64 (nth L 2),.int .i64 (nth L 3)] 40))):=Lib.hid ((Below.refl _ _).alloc (Nat.le_refl _) _);have hj0:(0:Int)<(j:Int)+1:=by omega
  clear r1 hc hm;go_wp2;go_loopw [10] (fun v10 wr=>∃ k:Nat,v10 = .int .i64 ((k:Int)+1)∧k≤j∧Hid (RowF wr w1.heap.size 40 4 (ints (bst4 (-1) L k)))∧Hid (Below w1.heap.size w1 wr)) (fun v10 _=>j+1 - (intOf v10).toNat)
  case atStart=>exact ⟨0,by go_num,Nat.zero_le _,HR1,HG1⟩
  case round =>
   clear HR1 HG1 x0 x1 x2 x3;obtain ⟨k,rfl,hk,HQ,HG⟩:=hrel;by_cases hlt:k<j
   ·have y0:wr.cell? ⟨b,off+(k+1)*4,none⟩=some (.int .i64 (nth L ((k+1)*4))):=(HG.out.cell (by exact hbB)).trans (HC.out ((k+1)*4) (by omega))
    have y1:wr.cell? ⟨b,off+(k+1)*4+1,none⟩=some (.int .i64 (nth L ((k+1)*4+1))):=by
     have:=(HG.out.cell (p:=⟨b,off+((k+1)*4+1),none⟩) hbB).trans (HC.out ((k+1)*4+1) (by omega));rwa [← Nat.add_assoc] at this
    have y2:wr.cell? ⟨b,off+(k+1)*4+2,none⟩=some (.int .i64 (nth L ((k+1)*4+2))):=by
     have:=(HG.out.cell (p:=⟨b,off+((k+1)*4+2),none⟩) hbB).trans (HC.out ((k+1)*4+2) (by omega));rwa [← Nat.add_assoc] at this
    have y3:wr.cell? ⟨b,off+(k+1)*4+3,none⟩=some (.int .i64 (nth L ((k+1)*4+3))):=by
     have:=(HG.out.cell (p:=⟨b,off+((k+1)*4+3),none⟩) hbB).trans (HC.out ((k+1)*4+3) (by omega));rwa [← Nat.add_assoc] at this
    obtain ⟨⟨c0,c1,c2,c3⟩,_⟩:=row4 (a:=bstV (-1) L k 0) (b:=bstV (-1) L k 1) (c:=bstV (-1) L k 2) (d:=bstV (-1) L k 3) HQ.out;have TT:Hid (better (-1) L k=(-1)→bst4 (-1) L (k+1) = [nth L ((k+1)*4),nth L ((k+1)*4+1),nth L ((k+1)*4+2),nth L ((k+1)*4+3)]):=Lib.hid (fun h=>by unfold bst4; rw [bstV_t h,bstV_t h,bstV_t h,bstV_t h]; rfl)
    have TF:Hid (¬ better (-1) L k=(-1)→bst4 (-1) L (k+1)=bst4 (-1) L k):=Lib.hid (fun h=>by unfold bst4; rw [bstV_f h,bstV_f h,bstV_f h,bstV_f h]);unfold better at TT TF;have hz:=HG.out.size;have hgl:=HQ.out.lt;have i1:IntKind.i64.wrap ((k:Int)+1+1)=(k:Int)+1+1:=IntWalk.i64_in _ (by omega);have ik:(k:Int)+1<((j+1:Nat):Int):=by omega
    have ik2:(k:Int)+1<(j:Int)+1:=by omega
    have ip:(0:Int)≤(k:Int)+1:=by omega
    have it:((k:Int)+1).toNat=k+1:=by omega
    generalize nth L ((k+1)*4)=p0 at *
    generalize nth L ((k+1)*4+1)=p1 at *
    generalize nth L ((k+1)*4+2)=p2 at *
    generalize nth L ((k+1)*4+3)=p3 at *
    generalize hq0:bstV (-1) L k 0=q0 at *
    generalize hq1:bstV (-1) L k 1=q1 at *
    generalize hq2:bstV (-1) L k 2=q2 at *
    generalize hq3:bstV (-1) L k 3=q3 at *
    go_wp2_with fail
    go_region_held3 (fun w'=>(w'.cell? ⟨b,off+(k+1)*4,none⟩=some (.int .i64 p0)∧w'.cell? ⟨b,off+(k+1)*4+1,none⟩=some (.int .i64 p1)∧w'.cell? ⟨b,off+(k+1)*4+2,none⟩=some (.int .i64 p2)∧w'.cell? ⟨b,off+(k+1)*4+3,none⟩=some (.int .i64 p3))∧(w'.cell? ⟨w1.heap.size,0,none⟩=some (.int .i64 q0)∧w'.cell? ⟨w1.heap.size,1,none⟩=some (.int .i64 q1)∧w'.cell? ⟨w1.heap.size,2,none⟩=some (.int .i64 q2)∧w'.cell? ⟨w1.heap.size,3,none⟩=some (.int .i64 q3))) (first | exact ⟨⟨y0,y1,y2,y3⟩,⟨c0,c1,c2,c3⟩⟩ | exact hk2) ((go_at_call 88; refine (sCmpT_any p0 p1 p2 p3 q0 q1 q2 q3 _).mono ?_; rintro e w2 ⟨rfl,hbx⟩; have hb2:=below_undrew hbx; have hk2:(w2.cell? ⟨b,off+(k+1)*4,none⟩=some (.int .i64 p0)∧w2.cell? ⟨b,off+(k+1)*4+1,none⟩=some (.int .i64 p1)∧w2.cell? ⟨b,off+(k+1)*4+2,none⟩=some (.int .i64 p2)∧w2.cell? ⟨b,off+(k+1)*4+3,none⟩=some (.int .i64 p3))∧(w2.cell? ⟨w1.heap.size,0,none⟩=some (.int .i64 q0)∧w2.cell? ⟨w1.heap.size,1,none⟩=some (.int .i64 q1)∧w2.cell? ⟨w1.heap.size,2,none⟩=some (.int .i64 q2)∧w2.cell? ⟨w1.heap.size,3,none⟩=some (.int .i64 q3)):=⟨⟨(hb2.cell (p:=⟨b,_,none⟩) (Nat.lt_of_lt_of_le hbB hz)).trans y0,(hb2.cell (p:=⟨b,_,none⟩) (Nat.lt_of_lt_of_le hbB hz)).trans y1,(hb2.cell (p:=⟨b,_,none⟩) (Nat.lt_of_lt_of_le hbB hz)).trans y2,(hb2.cell (p:=⟨b,_,none⟩) (Nat.lt_of_lt_of_le hbB hz)).trans y3⟩,⟨(hb2.cell (p:=⟨w1.heap.size,_,none⟩) hgl).trans c0,(hb2.cell (p:=⟨w1.heap.size,_,none⟩) hgl).trans c1,(hb2.cell (p:=⟨w1.heap.size,_,none⟩) hgl).trans c2,(hb2.cell (p:=⟨w1.heap.size,_,none⟩) hgl).trans c3⟩⟩));have HG2:=Lib.hid (HG.out.trans (hb2.mono hz));have HQ2:=Lib.hid (HQ.out.after hb2);obtain ⟨⟨y0',y1',y2',y3'⟩,⟨c0',c1',c2',c3'⟩⟩:=hk2;clear hb2 hbx HG HQ y0 y1 y2 y3 c0 c1 c2 c3;generalize hcm:cmpT p0 p1 p2 p3 q0 q1 q2 q3=cm at *
    by_cases hbt:cm=(-1)
    ·have HF:=Lib.hid (TT.out hbt)
     subst hbt;obtain ⟨_,g0,g1,g2,g3⟩:=row4 (a:=bstV (-1) L k 0) (b:=bstV (-1) L k 1) (c:=bstV (-1) L k 2) (d:=bstV (-1) L k 3) HQ2.out;have HX3:=Lib.hid (((((HQ2.out.set 0 (.int .i64 p0)).set 1 (.int .i64 p1)).set 2 (.int .i64 p2)).set 3 (.int .i64 p3)).congr (f':=ints [p0,p1,p2,p3]) (fun i hi=>by match i,hi with | 0,_=>rfl | 1,_=>rfl | 2,_=>rfl | 3,_=>rfl));have HG3:=Lib.hid (below_set4' HG2.out (Nat.le_refl _) (.int .i64 p0) (.int .i64 p1) (.int .i64 p2) (.int .i64 p3));go_wp2;go_roundw
     case rel=>exact ⟨k+1,by go_num,by omega,by rw [HF.out]; exact HX3,HG3⟩
     case measure=>simp [intOf]; omega
    ·have HF:=Lib.hid (TF.out hbt)
     have hbe:(cm == (-1))=false:=by simp [hbt]
     clear hbt y0' y1' y2' y3' c0' c1' c2' c3';go_wp2;go_roundw
     case rel=>exact ⟨k+1,by go_num,by omega,by rw [HF.out]; exact HQ2,HG2⟩
     case measure=>simp [intOf]; omega
   ·obtain rfl:k=j:=by omega
    have ik:¬ (k:Int)+1<((k+1:Nat):Int):=by omega
    have ik2:¬ (k:Int)+1<(k:Int)+1:=by omega
    have HA2:=Lib.hid (HA1.out.after HG.out);have HB2:=Lib.hid (below_then HB1.out HG.out);obtain ⟨⟨c0,c1,c2,c3⟩,_⟩:=row4 (a:=bstV (-1) L k 0) (b:=bstV (-1) L k 1) (c:=bstV (-1) L k 2) (d:=bstV (-1) L k 3) HQ.out;obtain ⟨⟨d0,d1,d2,d3⟩,f0,f1,f2,f3⟩:=row4 HA2.out;go_wp2;refine bodyPost_ret (v:=thrV (bstV (-1) L k 0) (bstV (-1) L k 1) (bstV (-1) L k 2) (bstV (-1) L k 3) true) (by simp [thrV,results,Tryz.results62,go_sem, *]) rfl ⟨by first | rfl | (rw [HE.out]; rfl),?_⟩
    exact below_set4' HB2.out (Nat.le_succ _) _ _ _ _
set_option maxRecDepth 100000 in
set_option maxHeartbeats 3200000 in
theorem sGrt_any:Calls Tryzx.prog 36 #[.agg #[.slice A n c],.slice B q d] w (EndPost w (grtB zs n ls q) 1 (thrL zs n ls q) (thrN zs n ls q)):=by
 have hz0:(w.alloc (.cells #[.slice A n c] 32)).heap.size=w.heap.size+1:=by simp
 have b0:Below w.heap.size w ((w.alloc (.cells #[.slice A n c] 32)).alloc (.cells #[.int .i64 0,.int .i64 0,.int .i64 0,.int .i64 0] 40)):=((Below.refl _ _).alloc (Nat.le_refl _) _).alloc (by simp) _;have bx0:Box ((w.alloc (.cells #[.slice A n c] 32)).alloc (.cells #[.int .i64 0,.int .i64 0,.int .i64 0,.int .i64 0] 40)) w.heap.size (.slice A n c):=(Box.new w (.slice A n c) 32).alloc _;have HA0:Hid (RowF ((w.alloc (.cells #[.slice A n c] 32)).alloc (.cells #[.int .i64 0,.int .i64 0,.int .i64 0,.int .i64 0] 40)) (w.heap.size+1) 40 4 (ints [0,0,0,0])):=Lib.hid (by
  have h:=RowF.of_row (World.rowIs_alloc (w.alloc (.cells #[.slice A n c] 32)) #[.int .i64 0,.int .i64 0,.int .i64 0,.int .i64 0] 40 (ints [0,0,0,0]) (fun i hi=>by simp at hi; match i,hi with | 0,_=>rfl | 1,_=>rfl | 2,_=>rfl | 3,_=>rfl))
  rw [hz0] at h;exact h)
 have HX:=Lib.hid bx0;have HH:=Lib.hid h;have HL:=Lib.hid hl;have HB0:=Lib.hid b0;have cx0:=bx0.1;have hw1:=h.after b0;have hw2:=hl.after b0;clear hz0 b0 bx0 h hl;go_enter Tryzx.func36,Tryz.ntmps36;go_wp2_with fail
 refine (sIsStraight_any _ _ _ zs _ (by exact hw1) hn).mono ?_;cases hS:strB zs n
 ·rintro e w1 ⟨rfl,hb1⟩
  have HA1:=Lib.hid (HA0.out.after hb1);have HB1:=Lib.hid (below_then HB0.out hb1);have cx1:=(HX.out.after hb1).1;have hr1:=hw1.after hb1;have hr2:=hw2.after hb1;have HG:=Lib.hid (grt_3 (ls:=ls) (q:=q) hS);clear hb1 cx0 HA0 HB0 HX hw1 hw2;go_wp2_with fail
  refine (sEndT_any _ _ _ zs _ _ _ ls _ (by exact hr1) hn (by exact hr2) hq).mono ?_;rintro e w2 ⟨rfl,hb2⟩;rw [← HG.out];have HA2:=Lib.hid (HA1.out.after hb2);have HB2:=Lib.hid (below_then HB1.out hb2);clear hb2 cx1 hr1 hr2;cases hok:grtB zs n ls q
  ·have HE:=Lib.hid (endV_f hok 1 (thrL zs n ls q) (thrN zs n ls q))
   have HE2:=Lib.hid (endV_f (ok:=false) rfl 1 (thrL zs n ls q) (thrN zs n ls q));rw [HE2.out];unfold thrV;obtain ⟨⟨d0,d1,d2,d3⟩,f0,f1,f2,f3⟩:=row4 HA2.out;go_wp2;refine bodyPost_ret (v:=thrV 0 0 0 0 false) (by simp [thrV,results,Tryz.results36,go_sem, *]) rfl ⟨by rw [HE.out],?_⟩;exact below_set4' HB2.out (Nat.le_succ _) _ _ _ _
  ·have HE:=Lib.hid (endV_t hok 1 (thrL zs n ls q) (thrN zs n ls q))
   have HE2:=Lib.hid (endV_t (ok:=true) rfl 1 (thrL zs n ls q) (thrN zs n ls q));rw [HE2.out];generalize bstV 1 (thrL zs n ls q) (thrN zs n ls q - 1) 0=q0 at *
   generalize bstV 1 (thrL zs n ls q) (thrN zs n ls q - 1) 1=q1 at *
   generalize bstV 1 (thrL zs n ls q) (thrN zs n ls q - 1) 2=q2 at *
   generalize bstV 1 (thrL zs n ls q) (thrN zs n ls q - 1) 3=q3 at *
   unfold thrV;obtain ⟨⟨d0,d1,d2,d3⟩,f0,f1,f2,f3⟩:=row4 HA2.out;go_wp2;refine bodyPost_ret (v:=thrV q0 q1 q2 q3 true) (by simp [thrV,results,Tryz.results36,go_sem, *]) rfl ⟨by rw [HE.out],?_⟩;exact below_set4' HB2.out (Nat.le_succ _) _ _ _ _
 ·rintro e w1 ⟨rfl,hb1⟩
  have HA1:=Lib.hid (HA0.out.after hb1);have HB1:=Lib.hid (below_then HB0.out hb1);have HE:=Lib.hid (endV_f (grt_2 (ls:=ls) (q:=q) hS) 1 (thrL zs n ls q) (thrN zs n ls q));clear hb1 cx0 HA0 HB0 HX hw1 hw2;obtain ⟨⟨d0,d1,d2,d3⟩,f0,f1,f2,f3⟩:=row4 HA1.out;go_wp2;refine bodyPost_ret (v:=thrV 0 0 0 0 false) (by simp [thrV,results,Tryz.results36,go_sem, *]) rfl ⟨by rw [HE.out],?_⟩;exact below_set4' HB1.out (Nat.le_succ _) _ _ _ _
set_option maxRecDepth 100000 in
set_option maxHeartbeats 3200000 in
theorem iGrt_any:Calls Tryzx.prog 41 #[.agg #[.slice A n c],.slice B q d] w (EndPost w (grtB zs n ls q) 1 (thrL zs n ls q) (thrN zs n ls q)):=by
 have hz0:(w.alloc (.cells #[.slice A n c] 32)).heap.size=w.heap.size+1:=by simp
 have b0:Below w.heap.size w ((w.alloc (.cells #[.slice A n c] 32)).alloc (.cells #[.int .i64 0,.int .i64 0,.int .i64 0,.int .i64 0] 40)):=((Below.refl _ _).alloc (Nat.le_refl _) _).alloc (by simp) _;have bx0:Box ((w.alloc (.cells #[.slice A n c] 32)).alloc (.cells #[.int .i64 0,.int .i64 0,.int .i64 0,.int .i64 0] 40)) w.heap.size (.slice A n c):=(Box.new w (.slice A n c) 32).alloc _;have HA0:Hid (RowF ((w.alloc (.cells #[.slice A n c] 32)).alloc (.cells #[.int .i64 0,.int .i64 0,.int .i64 0,.int .i64 0] 40)) (w.heap.size+1) 40 4 (ints [0,0,0,0])):=Lib.hid (by
  have h:=RowF.of_row (World.rowIs_alloc (w.alloc (.cells #[.slice A n c] 32)) #[.int .i64 0,.int .i64 0,.int .i64 0,.int .i64 0] 40 (ints [0,0,0,0]) (fun i hi=>by simp at hi; match i,hi with | 0,_=>rfl | 1,_=>rfl | 2,_=>rfl | 3,_=>rfl))
  rw [hz0] at h;exact h)
 have HX:=Lib.hid bx0;have HH:=Lib.hid h;have HL:=Lib.hid hl;have HB0:=Lib.hid b0;have cx0:=bx0.1;have hw1:=h.after b0;have hw2:=hl.after b0;clear hz0 b0 bx0 h hl;go_enter Tryzx.func41,Tryz.ntmps41;go_wp2_with fail
 refine (iThr_any _ _ _ zs _ _ _ ls _ (by exact hw1) hn (by exact hw2) hq).mono ?_;rintro e w1 ⟨v1,rfl,ho1,hb1⟩;have HA1:=Lib.hid (HA0.out.after hb1);have HB1:=Lib.hid (below_then HB0.out hb1);have cx1:=(HX.out.after hb1).1;have hr1:=hw1.after hb1;have HX1:=Lib.hid (HX.out.after hb1);obtain ⟨A1,c1,rfl,hcap⟩:=ho1.slice;have hcm:=ho1.cap;have r1:=ho1.recs;clear hb1 ho1 cx0 HA0 HB0 HX hw1 hw2;by_cases hm:thrN zs n ls q=0
 ·have HE:=Lib.hid (endV_f (grt_1 (zs:=zs) (n:=n) (ls:=ls) (q:=q) hm) 1 (thrL zs n ls q) (thrN zs n ls q))
  have hme:(((thrN zs n ls q:Nat):Int) == 0)=true:=by rw [hm]; rfl
  clear r1 cx1 hr1 hm;obtain ⟨⟨d0,d1,d2,d3⟩,f0,f1,f2,f3⟩:=row4 HA1.out;go_wp2;refine bodyPost_ret (v:=thrV 0 0 0 0 false) (by simp [thrV,results,Tryz.results41,go_sem, *]) rfl ⟨by rw [HE.out],?_⟩;exact below_set4' HB1.out (Nat.le_succ _) _ _ _ _
 ·have hme:(((thrN zs n ls q:Nat):Int) == 0)=false:=by simp; omega
  go_wp2_with fail
  refine (iIsStraight_any _ _ _ zs _ (by exact hr1) hn).mono ?_;cases hS:strB zs n
  ·have HE:=Lib.hid (endV_t (show grtB zs n ls q=true by rw [grt_3 hS]; exact decide_eq_true (by omega)) 1 (thrL zs n ls q) (thrN zs n ls q))
   rintro e w2 ⟨rfl,hb2⟩;have HA2:=Lib.hid (HA1.out.after hb2);have HB2:=Lib.hid (below_then HB1.out hb2);have r2:=r1.after hb2;have hfew:thrN zs n ls q≤1048576:=by have:=(corn_acc (rowsZ zs n ls q) (rowsN zs n ls q)).few; unfold thrN; omega
   clear hb2 cx1 hr1 r1;go_wp2_with fail
   refine (bestGreatestThrust_any _ _ _ (thrL zs n ls q) _ (by exact r2) (by omega) hfew hcap hcm).mono ?_;rintro e w3 ⟨rfl,hb3⟩;have HA3:=Lib.hid (HA2.out.after hb3);have HB3:=Lib.hid (below_then HB2.out hb3);generalize bstV 1 (thrL zs n ls q) (thrN zs n ls q - 1) 0=q0 at *
   generalize bstV 1 (thrL zs n ls q) (thrN zs n ls q - 1) 1=q1 at *
   generalize bstV 1 (thrL zs n ls q) (thrN zs n ls q - 1) 2=q2 at *
   generalize bstV 1 (thrL zs n ls q) (thrN zs n ls q - 1) 3=q3 at *
   clear hb3 r2;obtain ⟨⟨d0,d1,d2,d3⟩,f0,f1,f2,f3⟩:=row4 HA3.out;go_wp2;refine bodyPost_ret (v:=thrV q0 q1 q2 q3 true) (by simp [thrV,results,Tryz.results41,go_sem, *]) rfl ⟨by rw [HE.out],?_⟩;exact below_set4' HB3.out (Nat.le_succ _) _ _ _ _
  ·have HE:=Lib.hid (endV_f (grt_2 (ls:=ls) (q:=q) hS) 1 (thrL zs n ls q) (thrN zs n ls q))
   rintro e w2 ⟨rfl,hb2⟩;have HA2:=Lib.hid (HA1.out.after hb2);have HB2:=Lib.hid (below_then HB1.out hb2);clear hb2 cx1 hr1 r1;obtain ⟨⟨d0,d1,d2,d3⟩,f0,f1,f2,f3⟩:=row4 HA2.out;go_wp2;refine bodyPost_ret (v:=thrV 0 0 0 0 false) (by simp [thrV,results,Tryz.results41,go_sem, *]) rfl ⟨by rw [HE.out],?_⟩;exact below_set4' HB2.out (Nat.le_succ _) _ _ _ _
set_option maxRecDepth 100000 in
set_option maxHeartbeats 3200000 in
theorem sLst_any:Calls Tryzx.prog 35 #[.agg #[.slice A n c],.slice B q d] w (EndPost w (lstB zs n ls q) (-1) (thrL zs n ls q) (thrN zs n ls q)):=by
 have hz0:(w.alloc (.cells #[.slice A n c] 32)).heap.size=w.heap.size+1:=by simp
 have b0:Below w.heap.size w ((w.alloc (.cells #[.slice A n c] 32)).alloc (.cells #[.int .i64 0,.int .i64 0,.int .i64 0,.int .i64 0] 40)):=((Below.refl _ _).alloc (Nat.le_refl _) _).alloc (by simp) _;have bx0:Box ((w.alloc (.cells #[.slice A n c] 32)).alloc (.cells #[.int .i64 0,.int .i64 0,.int .i64 0,.int .i64 0] 40)) w.heap.size (.slice A n c):=(Box.new w (.slice A n c) 32).alloc _;have HA0:Hid (RowF ((w.alloc (.cells #[.slice A n c] 32)).alloc (.cells #[.int .i64 0,.int .i64 0,.int .i64 0,.int .i64 0] 40)) (w.heap.size+1) 40 4 (ints [0,0,0,0])):=Lib.hid (by
  have h:=RowF.of_row (World.rowIs_alloc (w.alloc (.cells #[.slice A n c] 32)) #[.int .i64 0,.int .i64 0,.int .i64 0,.int .i64 0] 40 (ints [0,0,0,0]) (fun i hi=>by simp at hi; match i,hi with | 0,_=>rfl | 1,_=>rfl | 2,_=>rfl | 3,_=>rfl))
  rw [hz0] at h;exact h)
 have HX:=Lib.hid bx0;have HH:=Lib.hid h;have HL:=Lib.hid hl;have HB0:=Lib.hid b0;have cx0:=bx0.1;have hw1:=h.after b0;have hw2:=hl.after b0;clear hz0 b0 bx0 h hl;go_enter Tryzx.func35,Tryz.ntmps35;go_wp2_with fail
 refine (sEndF_any _ _ _ zs _ _ _ ls _ (by exact hw1) hn (by exact hw2) hq).mono ?_;rintro e w2 ⟨rfl,hb2⟩;have HG:Hid (lstB zs n ls q=decide (0<thrN zs n ls q)):=rfl;rw [← HG.out];have HA2:=Lib.hid (HA0.out.after hb2);have HB2:=Lib.hid (below_then HB0.out hb2);clear hb2 cx0 HA0 HB0 HX hw1 hw2;cases hok:lstB zs n ls q
 ·have HE:=Lib.hid (endV_f hok (-1) (thrL zs n ls q) (thrN zs n ls q))
  have HE2:=Lib.hid (endV_f (ok:=false) rfl (-1) (thrL zs n ls q) (thrN zs n ls q));rw [HE2.out];unfold thrV;obtain ⟨⟨d0,d1,d2,d3⟩,f0,f1,f2,f3⟩:=row4 HA2.out;go_wp2;refine bodyPost_ret (v:=thrV 0 0 0 0 false) (by simp [thrV,results,Tryz.results35,go_sem, *]) rfl ⟨by first | rfl | rw [HE.out],?_⟩;exact below_set4' HB2.out (Nat.le_succ _) _ _ _ _
 ·have HE:=Lib.hid (endV_t hok (-1) (thrL zs n ls q) (thrN zs n ls q))
  have HE2:=Lib.hid (endV_t (ok:=true) rfl (-1) (thrL zs n ls q) (thrN zs n ls q));rw [HE2.out];generalize bstV (-1) (thrL zs n ls q) (thrN zs n ls q - 1) 0=q0 at *
  generalize bstV (-1) (thrL zs n ls q) (thrN zs n ls q - 1) 1=q1 at *
  generalize bstV (-1) (thrL zs n ls q) (thrN zs n ls q - 1) 2=q2 at *
  generalize bstV (-1) (thrL zs n ls q) (thrN zs n ls q - 1) 3=q3 at *
  unfold thrV;obtain ⟨⟨d0,d1,d2,d3⟩,f0,f1,f2,f3⟩:=row4 HA2.out;go_wp2;refine bodyPost_ret (v:=thrV q0 q1 q2 q3 true) (by simp [thrV,results,Tryz.results35,go_sem, *]) rfl ⟨by first | (rw [HE.out]; done) | (rw [HE2.out]; done) | exact HE2.out.symm ▸ rfl,?_⟩
  exact below_set4' HB2.out (Nat.le_succ _) _ _ _ _
set_option maxRecDepth 100000 in
set_option maxHeartbeats 3200000 in
theorem iLst_any:Calls Tryzx.prog 40 #[.agg #[.slice A n c],.slice B q d] w (EndPost w (lstB zs n ls q) (-1) (thrL zs n ls q) (thrN zs n ls q)):=by
 have hz0:(w.alloc (.cells #[.slice A n c] 32)).heap.size=w.heap.size+1:=by simp
 have b0:Below w.heap.size w ((w.alloc (.cells #[.slice A n c] 32)).alloc (.cells #[.int .i64 0,.int .i64 0,.int .i64 0,.int .i64 0] 40)):=((Below.refl _ _).alloc (Nat.le_refl _) _).alloc (by simp) _;have bx0:Box ((w.alloc (.cells #[.slice A n c] 32)).alloc (.cells #[.int .i64 0,.int .i64 0,.int .i64 0,.int .i64 0] 40)) w.heap.size (.slice A n c):=(Box.new w (.slice A n c) 32).alloc _;have HA0:Hid (RowF ((w.alloc (.cells #[.slice A n c] 32)).alloc (.cells #[.int .i64 0,.int .i64 0,.int .i64 0,.int .i64 0] 40)) (w.heap.size+1) 40 4 (ints [0,0,0,0])):=Lib.hid (by
  have h:=RowF.of_row (World.rowIs_alloc (w.alloc (.cells #[.slice A n c] 32)) #[.int .i64 0,.int .i64 0,.int .i64 0,.int .i64 0] 40 (ints [0,0,0,0]) (fun i hi=>by simp at hi; match i,hi with | 0,_=>rfl | 1,_=>rfl | 2,_=>rfl | 3,_=>rfl))
  rw [hz0] at h;exact h)
 have HX:=Lib.hid bx0;have HH:=Lib.hid h;have HL:=Lib.hid hl;have HB0:=Lib.hid b0;have cx0:=bx0.1;have hw1:=h.after b0;have hw2:=hl.after b0;clear hz0 b0 bx0 h hl;go_enter Tryzx.func40,Tryz.ntmps40;go_wp2_with fail
 refine (iThr_any _ _ _ zs _ _ _ ls _ (by exact hw1) hn (by exact hw2) hq).mono ?_;rintro e w1 ⟨v1,rfl,ho1,hb1⟩;have HA1:=Lib.hid (HA0.out.after hb1);have HB1:=Lib.hid (below_then HB0.out hb1);obtain ⟨A1,c1,rfl,hcap⟩:=ho1.slice;have hcm:=ho1.cap;have r1:=ho1.recs;clear hb1 ho1 cx0 HA0 HB0 HX hw1 hw2;by_cases hm:thrN zs n ls q=0
 ·have HE:=Lib.hid (endV_f (show lstB zs n ls q=false by simp [lstB,hm]) (-1) (thrL zs n ls q) (thrN zs n ls q))
  have hme:(((thrN zs n ls q:Nat):Int) == 0)=true:=by rw [hm]; rfl
  clear r1 hm;obtain ⟨⟨d0,d1,d2,d3⟩,f0,f1,f2,f3⟩:=row4 HA1.out;go_wp2;refine bodyPost_ret (v:=thrV 0 0 0 0 false) (by simp [thrV,results,Tryz.results40,go_sem, *]) rfl ⟨by rw [HE.out],?_⟩;exact below_set4' HB1.out (Nat.le_succ _) _ _ _ _
 ·have hme:(((thrN zs n ls q:Nat):Int) == 0)=false:=by simp; omega
  have HE:=Lib.hid (endV_t (show lstB zs n ls q=true from decide_eq_true (by omega)) (-1) (thrL zs n ls q) (thrN zs n ls q));have hfew:thrN zs n ls q≤1048576:=by have:=(corn_acc (rowsZ zs n ls q) (rowsN zs n ls q)).few; unfold thrN; omega
  go_wp2_with fail
  refine (bestLeastThrust_any _ _ _ (thrL zs n ls q) _ (by exact r1) (by omega) hfew hcap hcm).mono ?_;rintro e w3 ⟨rfl,hb3⟩;have HA3:=Lib.hid (HA1.out.after hb3);have HB3:=Lib.hid (below_then HB1.out hb3);generalize bstV (-1) (thrL zs n ls q) (thrN zs n ls q - 1) 0=q0 at *
  generalize bstV (-1) (thrL zs n ls q) (thrN zs n ls q - 1) 1=q1 at *
  generalize bstV (-1) (thrL zs n ls q) (thrN zs n ls q - 1) 2=q2 at *
  generalize bstV (-1) (thrL zs n ls q) (thrN zs n ls q - 1) 3=q3 at *
  clear hb3 r1;obtain ⟨⟨d0,d1,d2,d3⟩,f0,f1,f2,f3⟩:=row4 HA3.out;go_wp2;refine bodyPost_ret (v:=thrV q0 q1 q2 q3 true) (by simp [thrV,results,Tryz.results40,go_sem, *]) rfl ⟨by rw [HE.out],?_⟩;exact below_set4' HB3.out (Nat.le_succ _) _ _ _ _
end
end X
namespace X
open Go.RowKit
def ThrAll (acc:List Int):Prop:=∃ q,acc.length=q*4∧∀ j,j<q→thrB (nth acc (j*4)) (nth acc (j*4+1)) (nth acc (j*4+2)) (nth acc (j*4+3))=true
theorem nth_left {xs ys:List Int} {j:Nat} (h:j<xs.length):nth (xs ++ ys) j=nth xs j:=by
 rw [nth_get _ _ (by rw [List.length_append]; omega),nth_get _ _ h,List.getElem_append_left h]
theorem nth_right {xs ys:List Int} {j:Nat} (h:j<ys.length):nth (xs ++ ys) (xs.length+j)=nth ys j:=by
 rw [nth_get _ _ (by rw [List.length_append]; omega),nth_get _ _ h,List.getElem_append_right (by omega)]
 congr 1
 omega
theorem crStep_thr {rs:List Int} {n i k m:Nat} {acc:List Int} (h:ThrAll acc):ThrAll (crStep rs n i k m acc):=by
 unfold crStep;split
 ·rename_i hc
  simp only [Bool.and_eq_true] at hc;have ht:=cr_thr rs hc.1;obtain ⟨q,hl,ha⟩:=h;refine ⟨q+1,by rw [List.length_append,hl]; simp; omega,fun j hj => ?_⟩
  by_cases e:j<q
  ·rw [nth_left (by omega),nth_left (by omega),nth_left (by omega),nth_left (by omega)]
   exact ha j e
  ·obtain rfl:j=q:=by omega
   have e0:j*4=acc.length+0:=by omega
   rw [e0,Nat.add_assoc,Nat.add_assoc,Nat.add_assoc,nth_right (by simp),nth_right (by simp),nth_right (by simp),nth_right (by simp)];exact ht
 ·exact h
theorem foldN_thr {f:Nat→List Int→List Int} (hf:∀ j a,ThrAll a→ThrAll (f j a)) {a:List Int} (h:ThrAll a):∀ t,ThrAll (foldN f t a)
 | 0=>h
 | t+1=>hf t _ (foldN_thr hf h t)
theorem cornL_thr (rs:List Int) (n:Nat):ThrAll (cornL rs n):=by
 have h0:ThrAll []:=⟨0,rfl,fun j hj=>absurd hj (by omega)⟩;cases e:cornB rs n
 ·rw [cornL_f e]; exact h0
 ·rw [cornL_t e]
  exact foldN_thr (fun i a ha=>foldN_thr (fun j a ha=>foldN_thr (fun j a ha=>crStep_thr ha) ha _) ha _) h0 _
theorem bstK_le (r:Int) (xs:List Int):∀ k,bstK r xs k≤k
 | 0=>Nat.le_refl _
 | k+1=>by
  have:=bstK_le r xs k;unfold bstK;split <;> omega
theorem bst_thr {rs:List Int} {n:Nat} (r:Int) (h:0<cornN rs n):thrB (bstV r (cornL rs n) (cornN rs n - 1) 0) (bstV r (cornL rs n) (cornN rs n - 1) 1) (bstV r (cornL rs n) (cornN rs n - 1) 2) (bstV r (cornL rs n) (cornN rs n - 1) 3)=true:=by
 obtain ⟨q,hl,ha⟩:=cornL_thr rs n;have hk:=bstK_le r (cornL rs n) (cornN rs n - 1);have hq:cornN rs n=q:=by unfold cornN; omega
 exact ha _ (by omega)
end X
namespace X
open Go.RowKit
theorem end_thr (ok:Bool) (r:Int) (zs:List Int) (n:Nat) (ls:List Int) (q:Nat) (h:ok=true→0<thrN zs n ls q):∃ q0 q1 q2 q3 bb,endV ok r (thrL zs n ls q) (thrN zs n ls q) = .tuple #[.agg #[.int .i64 q0,.int .i64 q1,.int .i64 q2,.int .i64 q3],.bool bb]∧(bb=true→thrB q0 q1 q2 q3=true):=by
 cases ok
 ·exact ⟨0,0,0,0,false,rfl,fun h=>by cases h⟩
 ·exact ⟨_,_,_,_,true,rfl,fun _=>bst_thr r (h rfl)⟩
theorem lst_pos {zs ls:List Int} {n q:Nat} (h:lstB zs n ls q=true):0<thrN zs n ls q:=of_decide_eq_true h
theorem grt_pos {zs ls:List Int} {n q:Nat} (h:grtB zs n ls q=true):0<thrN zs n ls q:=by
 unfold grtB at h;rw [Bool.and_eq_true] at h;exact of_decide_eq_true h.1
theorem spdiv_bd {a g:Int} (h:okG a) (hg:1≤g):IntKind.i64.wrap (a.tdiv g)=a.tdiv g:=by
 unfold okG at h;have h1:(a.tdiv g).natAbs≤a.natAbs:=by rw [Int.natAbs_tdiv]; exact Nat.div_le_self _ _
 exact IntWalk.i64_in _ (by omega)
theorem sprV_at {w w':World} {V v:Value} {e:Ending} (hE:V=v) (h:e = .returned V∧Below w.heap.size w w'):e = .returned v∧Below w.heap.size w w':=⟨h.1.trans (congrArg _ hE),h.2⟩
end X
section
open Go.RowKit
def spanB (zs:List Int) (i:Nat):Bool:=inB (nth zs (i*3)) 0 10000 && (inB (nth zs (i*3+1)) (nth zs (i*3)) 10000 && inB (nth zs (i*3+2)) 0 10000)
theorem spanB_1 {zs:List Int} {i:Nat} (h:inB (nth zs (i*3)) 0 10000=false):spanB zs i=false:=by simp [spanB,h]
theorem spanB_2 {zs:List Int} {i:Nat} (h:inB (nth zs (i*3+1)) (nth zs (i*3)) 10000=false):spanB zs i=false:=by simp [spanB,h]
theorem spanB_3 {zs:List Int} {i:Nat} (h:inB (nth zs (i*3+2)) 0 10000=false):spanB zs i=false:=by simp [spanB,h]
theorem spanB_t {zs:List Int} {i:Nat} (h1:inB (nth zs (i*3)) 0 10000=true) (h2:inB (nth zs (i*3+1)) (nth zs (i*3)) 10000=true) (h3:inB (nth zs (i*3+2)) 0 10000=true):spanB zs i=true:=by simp [spanB,h1,h2,h3]
def spansTo (zs:List Int) (k:Nat):Prop:=∀ i,i<k→spanB zs i=true
theorem spansTo_0 (zs:List Int):spansTo zs 0:=fun i hi=>absurd hi (by omega)
theorem spansTo_step {zs:List Int} {k:Nat} (h:spansTo zs k) (e:spanB zs k=true):spansTo zs (k+1):=by
 intro i hi;by_cases hik:i=k
 ·subst hik; exact e
 ·exact h i (by omega)
def spansB (zs:List Int) (n:Nat):Bool:=inB (n:Int) 1 10 && (List.range n).all (spanB zs)
theorem spansB_t {zs:List Int} {n:Nat} (h1:inB (n:Int) 1 10=true) (h2:spansTo zs n):spansB zs n=true:=by
 have:(List.range n).all (spanB zs)=true:=by
  rw [List.all_eq_true];intro i hi;exact h2 i (by simpa using hi)
 simp [spansB,h1,this]
theorem spansB_f1 {zs:List Int} {n:Nat} (h1:inB (n:Int) 1 10=false):spansB zs n=false:=by simp [spansB,h1]
theorem spansB_f2 {zs:List Int} {n k:Nat} (hk:k<n) (h:spanB zs k=false):spansB zs n=false:=by
 have:(List.range n).all (spanB zs)=false:=by
  rw [List.all_eq_false];exact ⟨k,by simpa using hk,by simp [h]⟩
 simp [spansB,this]
def rng (zs:List Int) (n:Nat):Nat→Int × Int
 | 0=>(nth zs ((n - 1)*3),nth zs ((n - 1)*3+1))
 | d+1=>(max (nth zs ((n - 2 - d)*3)) ((rng zs n d).1 - nth zs ((n - 2 - d)*3+2)),min (nth zs ((n - 2 - d)*3+1)) ((rng zs n d).2+nth zs ((n - 2 - d)*3+2)))
def okTo (zs:List Int) (n k:Nat):Prop:=∀ d,d<k→(rng zs n d).1≤(rng zs n d).2
instance (zs : List Int) (n k : Nat) : Decidable (okTo zs n k) := inferInstanceAs (Decidable (∀ d, d < k → (rng zs n d).1 ≤ (rng zs n d).2))
end
namespace X
open Go.RowKit
set_option maxHeartbeats 800000 in
theorem sSpansOk_any (A:Option Addr) (n c:Nat) (zs:List Int) (w:World) (h:RecsAt w w.heap.size 3 A n zs) (hn:n≤1048576) :
  Calls Tryzx.prog 47 #[.slice A n c] w fun e w'=>e = .returned (.bool (spansB zs n))∧Below w.heap.size w w':=by
 have H:=Lib.hid h;clear h
 ·go_enter Tryzx.func47,Tryz.ntmps47
  go_wp2;go_loopw [3] (fun i wr=>∃ k:Nat,k≤n∧i = .int .i64 k∧spansTo zs k∧Below w.heap.size w wr) (fun i _=>n - (intOf i).toNat)
  case atStart=>exact ⟨0,Nat.zero_le _,rfl,spansTo_0 _,Below.refl _ _⟩
  case round =>
   obtain ⟨k,hk,rfl,hag,hb⟩:=hrel;have HB:=Lib.hid hb;by_cases hlt:k<n
   ·obtain ⟨b,off,rfl,hbB,hc⟩:=H.out.2 (by omega)
    have hx0:wr.cell? ⟨b,off+k*3,none⟩=some (.int .i64 (nth zs (k*3))):=(hb.cell (by exact hbB)).trans (hc (k*3) (by omega));have hx1:wr.cell? ⟨b,off+k*3+1,none⟩=some (.int .i64 (nth zs (k*3+1))):=(hb.cell (by exact hbB)).trans (by have:=hc (k*3+1) (by omega); rwa [← Nat.add_assoc] at this)
    have hx2:wr.cell? ⟨b,off+k*3+2,none⟩=some (.int .i64 (nth zs (k*3+2))):=(hb.cell (by exact hbB)).trans (by have:=hc (k*3+2) (by omega); rwa [← Nat.add_assoc] at this)
    clear hc hb;cases h1:inB (nth zs (k*3)) 0 10000
    ·have HF:=Lib.hid (spansB_f2 hlt (spanB_1 h1))
     go_wp2_with (go_at_call 79; refine (l01In_any _ _ _ _).mono ?_; rintro e w' ⟨rfl,rfl⟩);go_ret;exact ⟨ret_bool HF.out.symm,HB.out.alloc HB.out.size _⟩
    cases h2:inB (nth zs (k*3+1)) (nth zs (k*3)) 10000
    ·have HF:=Lib.hid (spansB_f2 hlt (spanB_2 h2))
     go_wp2_with (go_at_call 79; refine (l01In_any _ _ _ _).mono ?_; rintro e w' ⟨rfl,rfl⟩);go_ret;exact ⟨ret_bool HF.out.symm,HB.out.alloc HB.out.size _⟩
    cases h3:inB (nth zs (k*3+2)) 0 10000
    ·have HF:=Lib.hid (spansB_f2 hlt (spanB_3 h3))
     go_wp2_with (go_at_call 79; refine (l01In_any _ _ _ _).mono ?_; rintro e w' ⟨rfl,rfl⟩);go_ret;exact ⟨ret_bool HF.out.symm,HB.out.alloc HB.out.size _⟩
    have HS:=Lib.hid (spansTo_step hag (spanB_t h1 h2 h3));go_wp2_with (go_at_call 79; refine (l01In_any _ _ _ _).mono ?_; rintro e w' ⟨rfl,rfl⟩);go_roundw
    case rel=>exact ⟨k+1,by omega,by go_num,HS.out,HB.out.alloc HB.out.size _⟩
    case measure=>simp [intOf]; omega
   ·have hkn:k=n:=by omega
    subst hkn;clear hb;cases hB:inB (k:Int) 1 10
    ·have HF:=Lib.hid (spansB_f1 (zs:=zs) hB)
     go_wp2_with (go_at_call 79; refine (l01In_any _ _ _ _).mono ?_; rintro e w' ⟨rfl,rfl⟩);go_ret;exact ⟨ret_bool HF.out.symm,HB.out⟩
    ·have HF:=Lib.hid (spansB_t hB hag)
     go_wp2_with (go_at_call 79; refine (l01In_any _ _ _ _).mono ?_; rintro e w' ⟨rfl,rfl⟩);go_ret;exact ⟨ret_bool HF.out.symm,HB.out⟩
set_option maxHeartbeats 800000 in
theorem iSpansOk_any (A:Option Addr) (n c:Nat) (zs:List Int) (w:World) (h:RecsAt w w.heap.size 3 A n zs) (hn:n≤1048576) :
  Calls Tryzx.prog 49 #[.slice A n c] w fun e w'=>e = .returned (.bool (spansB zs n))∧Below w.heap.size w w':=by
 have H:=Lib.hid h;clear h;cases hB:inB (n:Int) 1 10
 ·have HF:=Lib.hid (spansB_f1 (zs:=zs) hB)
  go_enter Tryzx.func49,Tryz.ntmps49;go_wp2_with (go_at_call 80; refine (within_any _ _ _ _).mono ?_; rintro e w' ⟨rfl,rfl⟩);go_ret;exact ⟨ret_bool HF.out.symm,Below.refl _ _⟩
 ·go_enter Tryzx.func49,Tryz.ntmps49
  go_wp2_with (go_at_call 80; refine (within_any _ _ _ _).mono ?_; rintro e w' ⟨rfl,rfl⟩);go_loopw [11] (fun i wr=>∃ k:Nat,k≤n∧i = .int .i64 k∧spansTo zs k∧Below w.heap.size w wr) (fun i _=>n - (intOf i).toNat)
  case atStart=>exact ⟨0,Nat.zero_le _,rfl,spansTo_0 _,Below.refl _ _⟩
  case round =>
   obtain ⟨k,hk,rfl,hag,hb⟩:=hrel;have HB:=Lib.hid hb;by_cases hlt:k<n
   ·obtain ⟨b,off,rfl,hbB,hc⟩:=H.out.2 (by omega)
    have hx0:wr.cell? ⟨b,off+k*3,none⟩=some (.int .i64 (nth zs (k*3))):=(hb.cell (by exact hbB)).trans (hc (k*3) (by omega));have hx1:wr.cell? ⟨b,off+k*3+1,none⟩=some (.int .i64 (nth zs (k*3+1))):=(hb.cell (by exact hbB)).trans (by have:=hc (k*3+1) (by omega); rwa [← Nat.add_assoc] at this)
    have hx2:wr.cell? ⟨b,off+k*3+2,none⟩=some (.int .i64 (nth zs (k*3+2))):=(hb.cell (by exact hbB)).trans (by have:=hc (k*3+2) (by omega); rwa [← Nat.add_assoc] at this)
    clear hc hb;cases h1:inB (nth zs (k*3)) 0 10000
    ·have HF:=Lib.hid (spansB_f2 hlt (spanB_1 h1))
     go_wp2_with (go_at_call 80; refine (within_any _ _ _ _).mono ?_; rintro e w' ⟨rfl,rfl⟩);go_ret;exact ⟨ret_bool HF.out.symm,HB.out.alloc HB.out.size _⟩
    cases h2:inB (nth zs (k*3+1)) (nth zs (k*3)) 10000
    ·have HF:=Lib.hid (spansB_f2 hlt (spanB_2 h2))
     go_wp2_with (go_at_call 80; refine (within_any _ _ _ _).mono ?_; rintro e w' ⟨rfl,rfl⟩);go_ret;exact ⟨ret_bool HF.out.symm,HB.out.alloc HB.out.size _⟩
    cases h3:inB (nth zs (k*3+2)) 0 10000
    ·have HF:=Lib.hid (spansB_f2 hlt (spanB_3 h3))
     go_wp2_with (go_at_call 80; refine (within_any _ _ _ _).mono ?_; rintro e w' ⟨rfl,rfl⟩);go_ret;exact ⟨ret_bool HF.out.symm,HB.out.alloc HB.out.size _⟩
    have HS:=Lib.hid (spansTo_step hag (spanB_t h1 h2 h3));go_wp2_with (go_at_call 80; refine (within_any _ _ _ _).mono ?_; rintro e w' ⟨rfl,rfl⟩);go_roundw
    case rel=>exact ⟨k+1,by omega,by go_num,HS.out,HB.out.alloc HB.out.size _⟩
    case measure=>simp [intOf]; omega
   ·have hkn:k=n:=by omega
    subst hkn;clear hb;have HF:=Lib.hid (spansB_t hB hag);go_wp2;go_ret;exact ⟨ret_bool HF.out.symm,HB.out⟩
end X
end Go.Proofs.YtodneggnnipcnaaGreat
