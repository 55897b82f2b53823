/-
  Texts that the law stands on, part 5.
-/
import Derived.Test.YtjcgklifabcfkaaGreatVaultPushP2
import Derived.Test.YtjcgklifabcfkaaGreatVaultPushP4
import Derived.Test.YtjcgklifabcfkaaGreatM9
set_option maxRecDepth 100000
set_option linter.unusedVariables false
set_option linter.unusedSimpArgs false
namespace Go.Proofs.YtjcgklifabcfkaaGreat
namespace X
open Go.RowKit
theorem ret_bool2 {a b:Bool} (h:a=b):Ending.returned (.bool a)=Ending.returned (.bool b):=by rw [h]
set_option maxRecDepth 100000 in
set_option maxHeartbeats 1600000 in
theorem sStd_any (A:Option Addr) (n c:Nat) (zs:List Int) (B:Option Addr) (q d:Nat) (ls:List Int) (w:World) (h:RecsAt w w.heap.size 4 A n zs) (hn:n≤1048576) (hl:RecsAt w w.heap.size 3 B q ls) (hq:q≤1048576) :
  Calls Tryzx.prog 18 #[.agg #[.slice A n c],.slice B q d] w fun e w'=>e = .returned (.bool (decide (0<(thrN zs n ls q:Int))))∧Below w.heap.size w w':=by
 have b0:Below w.heap.size w (w.alloc (.cells #[.slice A n c] 45)):=(Below.refl _ _).alloc (Nat.le_refl _) _;have h1:=h.after b0;have l1:=hl.after b0;have HB0:=Lib.hid b0;clear b0 h hl;go_enter Tryzx.func18,Tryz.ntmps18;go_wp2_with fail
 refine (sThr_any _ _ _ zs _ _ _ ls _ h1 hn l1 hq).mono ?_;rintro e w2 ⟨v2,rfl,ho2,hb2⟩;obtain ⟨A2,c2,rfl,_⟩:=ho2.slice;have HB2:=Lib.hid (HB0.out.trans (hb2.mono HB0.out.size));clear hb2 ho2;obtain ⟨N,hN⟩:∃ N,thrN zs n ls q=N:=⟨_,rfl⟩;have HN:Hid (decide (0<N)=decide (0<(thrN zs n ls q:Int))):=Lib.hid (by rw [hN]; simp)
 rw [hN];clear hN;go_wp2;go_ret;exact ⟨ret_bool2 HN.out,HB2.out⟩
end X
namespace X
open Go.RowKit
theorem ownR_cap {w:World} {base:Nat} {E:TypeId} {K n:Nat} {A:Option Addr} {c:Nat} {xs:List Int} (h:OwnR w base E K (.slice A n c) n xs):c≤9223372036854775807:=by
 rcases h.1.2 with ⟨h1,_⟩ | ⟨g,cap,cur,h1,_,_,_,h5,_⟩
 ·simp at h1; omega
 ·simp at h1
  unfold maxLen at h5;omega
def endV (ok:Bool) (r:Int) (L:List Int) (m:Nat):Value:=if ok=true then thrV (bstV r L (m - 1) 0) (bstV r L (m - 1) 1) (bstV r L (m - 1) 2) (bstV r L (m - 1) 3) true else thrV 0 0 0 0 false
theorem endV_f {ok:Bool} (h:ok=false) (r:Int) (L:List Int) (m:Nat):endV ok r L m=thrV 0 0 0 0 false:=by subst h; rfl
theorem endV_t {ok:Bool} (h:ok=true) (r:Int) (L:List Int) (m:Nat):endV ok r L m=thrV (bstV r L (m - 1) 0) (bstV r L (m - 1) 1) (bstV r L (m - 1) 2) (bstV r L (m - 1) 3) true:=by subst h; rfl
theorem endV_ex (ok:Bool) (r:Int) (L:List Int) (m:Nat):∃ q0 q1 q2 q3 bb,endV ok r L m = .tuple #[.agg #[.int .i64 q0,.int .i64 q1,.int .i64 q2,.int .i64 q3],.bool bb]:=by
 cases ok
 ·exact ⟨0,0,0,0,false,rfl⟩
 ·exact ⟨_,_,_,_,true,rfl⟩
def EndPost (w:World) (ok:Bool) (r:Int) (L:List Int) (m:Nat) (e:Ending) (w':World):Prop:=e = .returned (endV ok r L m)∧Below w.heap.size w w'
def lstB (zs:List Int) (n:Nat) (ls:List Int) (q:Nat):Bool:=decide (0<thrN zs n ls q)
theorem below_set4' {w wr:World} {B g:Nat} (h:Below B w wr) (hg:B≤g) (a b c d:Value):Below B w ((((wr.setCell ⟨g,0,none⟩ a).setCell ⟨g,1,none⟩ b).setCell ⟨g,2,none⟩ c).setCell ⟨g,3,none⟩ d):=(((h.setCell (p:=⟨g,0,none⟩) hg _).setCell (p:=⟨g,1,none⟩) hg _).setCell (p:=⟨g,2,none⟩) hg _).setCell (p:=⟨g,3,none⟩) hg _
section
variable (A : Option Addr) (n c : Nat) (zs : List Int) (B : Option Addr) (q d : Nat) (ls : List Int) (w : World) (h : RecsAt w w.heap.size 4 A n zs) (hn : n ≤ 1048576) (hl : RecsAt w w.heap.size 3 B q ls) (hq : q ≤ 1048576)
include h hn hl hq
set_option maxRecDepth 100000 in
set_option maxHeartbeats 3200000 in
theorem sEndF_any:Calls Tryzx.prog 77 #[.agg #[.slice A n c],.slice B q d,.bool false] w (EndPost w (decide (0<thrN zs n ls q)) (-1) (thrL zs n ls q) (thrN zs n ls q)):=by
 have hz0:(w.alloc (.cells #[.slice A n c] 45)).heap.size=w.heap.size+1:=by simp
 have b0:Below w.heap.size w ((w.alloc (.cells #[.slice A n c] 45)).alloc (.cells #[.int .i64 0,.int .i64 0,.int .i64 0,.int .i64 0] 66)):=((Below.refl _ _).alloc (Nat.le_refl _) _).alloc (by simp) _;have bx0:Box ((w.alloc (.cells #[.slice A n c] 45)).alloc (.cells #[.int .i64 0,.int .i64 0,.int .i64 0,.int .i64 0] 66)) w.heap.size (.slice A n c):=(Box.new w (.slice A n c) 45).alloc _;have HA0:Hid (RowF ((w.alloc (.cells #[.slice A n c] 45)).alloc (.cells #[.int .i64 0,.int .i64 0,.int .i64 0,.int .i64 0] 66)) (w.heap.size+1) 66 4 (ints [0,0,0,0])):=Lib.hid (by
  have h:=RowF.of_row (World.rowIs_alloc (w.alloc (.cells #[.slice A n c] 45)) #[.int .i64 0,.int .i64 0,.int .i64 0,.int .i64 0] 66 (ints [0,0,0,0]) (fun i hi=>by simp at hi; match i,hi with | 0,_=>rfl | 1,_=>rfl | 2,_=>rfl | 3,_=>rfl))
  rw [hz0] at h;exact h)
 have HX:=Lib.hid bx0;have HH:=Lib.hid h;have HL:=Lib.hid hl;have HB0:=Lib.hid b0;have cx0:=bx0.1;have hw1:=h.after b0;have hw2:=hl.after b0;clear hz0 b0 bx0 h hl;go_enter Tryzx.func77,Tryz.ntmps77;go_wp2_with fail
 refine (sThr_any _ _ _ zs _ _ _ ls _ (by exact hw1) hn (by exact hw2) hq).mono ?_;rintro e w1 ⟨v1,rfl,ho1,hb1⟩;have HA1:=Lib.hid (HA0.out.after hb1);have HB1:=Lib.hid (below_then HB0.out hb1);obtain ⟨A1,c1,rfl,hcap⟩:=ho1.slice;have r1:=ho1.recs;have hfew:thrN zs n ls q≤8000:=by have:=(corn_acc (rowsZ zs n ls q) (rowsN zs n ls q)).few; unfold thrN; omega
 generalize thrN zs n ls q=m at *
 generalize thrL zs n ls q=L at *
 clear hb1 ho1 hw1 hw2 cx0 HA0 HB0 HX;by_cases hm:m=0
 ·subst hm
  have HE:=Lib.hid (endV_f (ok:=decide (0<0)) (by decide) (-1) L 0);clear r1;obtain ⟨⟨d0,d1,d2,d3⟩,f0,f1,f2,f3⟩:=row4 HA1.out;go_wp2;refine bodyPost_ret (v:=thrV 0 0 0 0 false) (by simp [thrV,results,Tryz.results77,go_sem, *]) rfl ⟨by rw [HE.out],?_⟩;exact below_set4' HB1.out (Nat.le_succ _) _ _ _ _
 ·obtain ⟨j,rfl⟩:∃ j,m=j+1:=⟨m - 1,by omega⟩
  have HE:=Lib.hid (endV_t (ok:=decide (0<j+1)) (decide_eq_true (by omega)) (-1) L (j+1));obtain ⟨b,off,rfl,hbB,hc⟩:=r1.2 (by omega);have x0:w1.cell? ⟨b,off,none⟩=some (.int .i64 (nth L 0)):=hc 0 (by omega);have x1:w1.cell? ⟨b,off+1,none⟩=some (.int .i64 (nth L 1)):=hc 1 (by omega);have x2:w1.cell? ⟨b,off+2,none⟩=some (.int .i64 (nth L 2)):=hc 2 (by omega);have x3:w1.cell? ⟨b,off+3,none⟩=some (.int .i64 (nth L 3)):=hc 3 (by omega);have HC:=Lib.hid hc;have hne:(((j+1:Nat):Int) == 0)=false:=by simp; omega
  have hne2:(((j:Int)+1) == 0)=false:=by simp; omega
  have HR1:Hid (RowF (w1.alloc (.cells #[.int .i64 (nth L 0),.int .i64 (nth L 1),.int .i64 (nth L 2),.int .i64 (nth L 3)] 66)) w1.heap.size 66 4 (ints (bst4 (-1) L 0))):=Lib.hid (by
   unfold bst4;rw [bstV_0,bstV_0,bstV_0,bstV_0];exact RowF.of_row (World.rowIs_alloc w1 #[.int .i64 (nth L 0),.int .i64 (nth L 1),.int .i64 (nth L 2),.int .i64 (nth L 3)] 66 (ints [nth L 0,nth L 1,nth L 2,nth L 3]) (fun i hi=>by simp at hi; match i,hi with | 0,_=>rfl | 1,_=>rfl | 2,_=>rfl | 3,_=>rfl)))
  have HG1:Hid (Below w1.heap.size w1 (w1.alloc (.cells #[.int .i64 (nth L 0),.int .i64 (nth L 1),.int .i64 (nth L 2),.int .i64 (nth L 3)] 66))):=Lib.hid ((Below.refl _ _).alloc (Nat.le_refl _) _);have hj0:(0:Int)<(j:Int)+1:=by omega
  clear r1 hc hm;go_wp2;go_loopw [10] (fun v10 wr=>∃ k:Nat,v10 = .int .i64 ((k:Int)+1)∧k≤j∧Hid (RowF wr w1.heap.size 66 4 (ints (bst4 (-1) L k)))∧Hid (Below w1.heap.size w1 wr)) (fun v10 _=>j+1 - (intOf v10).toNat)
  case atStart=>exact ⟨0,by go_num,Nat.zero_le _,HR1,HG1⟩
  case round =>
   clear HR1 HG1 x0 x1 x2 x3;obtain ⟨k,rfl,hk,HQ,HG⟩:=hrel;by_cases hlt:k<j
   ·have y0:wr.cell? ⟨b,off+(k+1)*4,none⟩=some (.int .i64 (nth L ((k+1)*4))):=(HG.out.cell (by exact hbB)).trans (HC.out ((k+1)*4) (by omega))
    have y1:wr.cell? ⟨b,off+(k+1)*4+1,none⟩=some (.int .i64 (nth L ((k+1)*4+1))):=by
     have:=(HG.out.cell (p:=⟨b,off+((k+1)*4+1),none⟩) hbB).trans (HC.out ((k+1)*4+1) (by omega));rwa [← Nat.add_assoc] at this
    have y2:wr.cell? ⟨b,off+(k+1)*4+2,none⟩=some (.int .i64 (nth L ((k+1)*4+2))):=by
     have:=(HG.out.cell (p:=⟨b,off+((k+1)*4+2),none⟩) hbB).trans (HC.out ((k+1)*4+2) (by omega));rwa [← Nat.add_assoc] at this
    have y3:wr.cell? ⟨b,off+(k+1)*4+3,none⟩=some (.int .i64 (nth L ((k+1)*4+3))):=by
     have:=(HG.out.cell (p:=⟨b,off+((k+1)*4+3),none⟩) hbB).trans (HC.out ((k+1)*4+3) (by omega));rwa [← Nat.add_assoc] at this
    obtain ⟨⟨c0,c1,c2,c3⟩,_⟩:=row4 (a:=bstV (-1) L k 0) (b:=bstV (-1) L k 1) (c:=bstV (-1) L k 2) (d:=bstV (-1) L k 3) HQ.out;have TT:Hid (better (-1) L k=(-1)→bst4 (-1) L (k+1) = [nth L ((k+1)*4),nth L ((k+1)*4+1),nth L ((k+1)*4+2),nth L ((k+1)*4+3)]):=Lib.hid (fun h=>by unfold bst4; rw [bstV_t h,bstV_t h,bstV_t h,bstV_t h]; rfl)
    have TF:Hid (¬ better (-1) L k=(-1)→bst4 (-1) L (k+1)=bst4 (-1) L k):=Lib.hid (fun h=>by unfold bst4; rw [bstV_f h,bstV_f h,bstV_f h,bstV_f h]);unfold better at TT TF;have hz:=HG.out.size;have hgl:=HQ.out.lt;have i1:IntKind.i64.wrap ((k:Int)+1+1)=(k:Int)+1+1:=IntWalk.i64_in _ (by omega);have ik:(k:Int)+1<((j+1:Nat):Int):=by omega
    have ik2:(k:Int)+1<(j:Int)+1:=by omega
    have ip:(0:Int)≤(k:Int)+1:=by omega
    have it:((k:Int)+1).toNat=k+1:=by omega
    generalize nth L ((k+1)*4)=p0 at *
    generalize nth L ((k+1)*4+1)=p1 at *
    generalize nth L ((k+1)*4+2)=p2 at *
    generalize nth L ((k+1)*4+3)=p3 at *
    generalize hq0:bstV (-1) L k 0=q0 at *
    generalize hq1:bstV (-1) L k 1=q1 at *
    generalize hq2:bstV (-1) L k 2=q2 at *
    generalize hq3:bstV (-1) L k 3=q3 at *
    go_wp2_with fail
    go_region_held3 (fun w'=>(w'.cell? ⟨b,off+(k+1)*4,none⟩=some (.int .i64 p0)∧w'.cell? ⟨b,off+(k+1)*4+1,none⟩=some (.int .i64 p1)∧w'.cell? ⟨b,off+(k+1)*4+2,none⟩=some (.int .i64 p2)∧w'.cell? ⟨b,off+(k+1)*4+3,none⟩=some (.int .i64 p3))∧(w'.cell? ⟨w1.heap.size,0,none⟩=some (.int .i64 q0)∧w'.cell? ⟨w1.heap.size,1,none⟩=some (.int .i64 q1)∧w'.cell? ⟨w1.heap.size,2,none⟩=some (.int .i64 q2)∧w'.cell? ⟨w1.heap.size,3,none⟩=some (.int .i64 q3))) (first | exact ⟨⟨y0,y1,y2,y3⟩,⟨c0,c1,c2,c3⟩⟩ | exact hk2) ((go_at_call 101; refine (sCmpT_any p0 p1 p2 p3 q0 q1 q2 q3 _).mono ?_; rintro e w2 ⟨rfl,hbx⟩; have hb2:=below_undrew hbx; have hk2:(w2.cell? ⟨b,off+(k+1)*4,none⟩=some (.int .i64 p0)∧w2.cell? ⟨b,off+(k+1)*4+1,none⟩=some (.int .i64 p1)∧w2.cell? ⟨b,off+(k+1)*4+2,none⟩=some (.int .i64 p2)∧w2.cell? ⟨b,off+(k+1)*4+3,none⟩=some (.int .i64 p3))∧(w2.cell? ⟨w1.heap.size,0,none⟩=some (.int .i64 q0)∧w2.cell? ⟨w1.heap.size,1,none⟩=some (.int .i64 q1)∧w2.cell? ⟨w1.heap.size,2,none⟩=some (.int .i64 q2)∧w2.cell? ⟨w1.heap.size,3,none⟩=some (.int .i64 q3)):=⟨⟨(hb2.cell (p:=⟨b,_,none⟩) (Nat.lt_of_lt_of_le hbB hz)).trans y0,(hb2.cell (p:=⟨b,_,none⟩) (Nat.lt_of_lt_of_le hbB hz)).trans y1,(hb2.cell (p:=⟨b,_,none⟩) (Nat.lt_of_lt_of_le hbB hz)).trans y2,(hb2.cell (p:=⟨b,_,none⟩) (Nat.lt_of_lt_of_le hbB hz)).trans y3⟩,⟨(hb2.cell (p:=⟨w1.heap.size,_,none⟩) hgl).trans c0,(hb2.cell (p:=⟨w1.heap.size,_,none⟩) hgl).trans c1,(hb2.cell (p:=⟨w1.heap.size,_,none⟩) hgl).trans c2,(hb2.cell (p:=⟨w1.heap.size,_,none⟩) hgl).trans c3⟩⟩));have HG2:=Lib.hid (HG.out.trans (hb2.mono hz));have HQ2:=Lib.hid (HQ.out.after hb2);obtain ⟨⟨y0',y1',y2',y3'⟩,⟨c0',c1',c2',c3'⟩⟩:=hk2;clear hb2 hbx HG HQ y0 y1 y2 y3 c0 c1 c2 c3;generalize hcm:cmpT p0 p1 p2 p3 q0 q1 q2 q3=cm at *
    by_cases hbt:cm=(-1)
    ·have HF:=Lib.hid (TT.out hbt)
     subst hbt;obtain ⟨_,g0,g1,g2,g3⟩:=row4 (a:=bstV (-1) L k 0) (b:=bstV (-1) L k 1) (c:=bstV (-1) L k 2) (d:=bstV (-1) L k 3) HQ2.out;have HX3:=Lib.hid (((((HQ2.out.set 0 (.int .i64 p0)).set 1 (.int .i64 p1)).set 2 (.int .i64 p2)).set 3 (.int .i64 p3)).congr (f':=ints [p0,p1,p2,p3]) (fun i hi=>by match i,hi with | 0,_=>rfl | 1,_=>rfl | 2,_=>rfl | 3,_=>rfl));have HG3:=Lib.hid (below_set4' HG2.out (Nat.le_refl _) (.int .i64 p0) (.int .i64 p1) (.int .i64 p2) (.int .i64 p3));go_wp2;go_roundw
     case rel=>exact ⟨k+1,by go_num,by omega,by rw [HF.out]; exact HX3,HG3⟩
     case measure=>simp [intOf]; omega
    ·have HF:=Lib.hid (TF.out hbt)
     have hbe:(cm == (-1))=false:=by simp [hbt]
     clear hbt y0' y1' y2' y3' c0' c1' c2' c3';go_wp2;go_roundw
     case rel=>exact ⟨k+1,by go_num,by omega,by rw [HF.out]; exact HQ2,HG2⟩
     case measure=>simp [intOf]; omega
   ·obtain rfl:k=j:=by omega
    have ik:¬ (k:Int)+1<((k+1:Nat):Int):=by omega
    have ik2:¬ (k:Int)+1<(k:Int)+1:=by omega
    have HA2:=Lib.hid (HA1.out.after HG.out);have HB2:=Lib.hid (below_then HB1.out HG.out);obtain ⟨⟨c0,c1,c2,c3⟩,_⟩:=row4 (a:=bstV (-1) L k 0) (b:=bstV (-1) L k 1) (c:=bstV (-1) L k 2) (d:=bstV (-1) L k 3) HQ.out;obtain ⟨⟨d0,d1,d2,d3⟩,f0,f1,f2,f3⟩:=row4 HA2.out;go_wp2;refine bodyPost_ret (v:=thrV (bstV (-1) L k 0) (bstV (-1) L k 1) (bstV (-1) L k 2) (bstV (-1) L k 3) true) (by simp [thrV,results,Tryz.results77,go_sem, *]) rfl ⟨by first | rfl | (rw [HE.out]; rfl),?_⟩
    exact below_set4' HB2.out (Nat.le_succ _) _ _ _ _
set_option maxRecDepth 100000 in
set_option maxHeartbeats 3200000 in
theorem sLst_any:Calls Tryzx.prog 49 #[.agg #[.slice A n c],.slice B q d] w (EndPost w (lstB zs n ls q) (-1) (thrL zs n ls q) (thrN zs n ls q)):=by
 have hz0:(w.alloc (.cells #[.slice A n c] 45)).heap.size=w.heap.size+1:=by simp
 have b0:Below w.heap.size w ((w.alloc (.cells #[.slice A n c] 45)).alloc (.cells #[.int .i64 0,.int .i64 0,.int .i64 0,.int .i64 0] 66)):=((Below.refl _ _).alloc (Nat.le_refl _) _).alloc (by simp) _;have bx0:Box ((w.alloc (.cells #[.slice A n c] 45)).alloc (.cells #[.int .i64 0,.int .i64 0,.int .i64 0,.int .i64 0] 66)) w.heap.size (.slice A n c):=(Box.new w (.slice A n c) 45).alloc _;have HA0:Hid (RowF ((w.alloc (.cells #[.slice A n c] 45)).alloc (.cells #[.int .i64 0,.int .i64 0,.int .i64 0,.int .i64 0] 66)) (w.heap.size+1) 66 4 (ints [0,0,0,0])):=Lib.hid (by
  have h:=RowF.of_row (World.rowIs_alloc (w.alloc (.cells #[.slice A n c] 45)) #[.int .i64 0,.int .i64 0,.int .i64 0,.int .i64 0] 66 (ints [0,0,0,0]) (fun i hi=>by simp at hi; match i,hi with | 0,_=>rfl | 1,_=>rfl | 2,_=>rfl | 3,_=>rfl))
  rw [hz0] at h;exact h)
 have HX:=Lib.hid bx0;have HH:=Lib.hid h;have HL:=Lib.hid hl;have HB0:=Lib.hid b0;have cx0:=bx0.1;have hw1:=h.after b0;have hw2:=hl.after b0;clear hz0 b0 bx0 h hl;go_enter Tryzx.func49,Tryz.ntmps49;go_wp2_with fail
 refine (sEndF_any _ _ _ zs _ _ _ ls _ (by exact hw1) hn (by exact hw2) hq).mono ?_;rintro e w2 ⟨rfl,hb2⟩;have HG:Hid (lstB zs n ls q=decide (0<thrN zs n ls q)):=rfl;rw [← HG.out];have HA2:=Lib.hid (HA0.out.after hb2);have HB2:=Lib.hid (below_then HB0.out hb2);clear hb2 cx0 HA0 HB0 HX hw1 hw2;cases hok:lstB zs n ls q
 ·have HE:=Lib.hid (endV_f hok (-1) (thrL zs n ls q) (thrN zs n ls q))
  have HE2:=Lib.hid (endV_f (ok:=false) rfl (-1) (thrL zs n ls q) (thrN zs n ls q));rw [HE2.out];unfold thrV;obtain ⟨⟨d0,d1,d2,d3⟩,f0,f1,f2,f3⟩:=row4 HA2.out;go_wp2;refine bodyPost_ret (v:=thrV 0 0 0 0 false) (by simp [thrV,results,Tryz.results49,go_sem, *]) rfl ⟨by first | rfl | rw [HE.out],?_⟩;exact below_set4' HB2.out (Nat.le_succ _) _ _ _ _
 ·have HE:=Lib.hid (endV_t hok (-1) (thrL zs n ls q) (thrN zs n ls q))
  have HE2:=Lib.hid (endV_t (ok:=true) rfl (-1) (thrL zs n ls q) (thrN zs n ls q));rw [HE2.out];generalize bstV (-1) (thrL zs n ls q) (thrN zs n ls q - 1) 0=q0 at *
  generalize bstV (-1) (thrL zs n ls q) (thrN zs n ls q - 1) 1=q1 at *
  generalize bstV (-1) (thrL zs n ls q) (thrN zs n ls q - 1) 2=q2 at *
  generalize bstV (-1) (thrL zs n ls q) (thrN zs n ls q - 1) 3=q3 at *
  unfold thrV;obtain ⟨⟨d0,d1,d2,d3⟩,f0,f1,f2,f3⟩:=row4 HA2.out;go_wp2;refine bodyPost_ret (v:=thrV q0 q1 q2 q3 true) (by simp [thrV,results,Tryz.results49,go_sem, *]) rfl ⟨by first | (rw [HE.out]; done) | (rw [HE2.out]; done) | exact HE2.out.symm ▸ rfl,?_⟩
  exact below_set4' HB2.out (Nat.le_succ _) _ _ _ _
set_option maxRecDepth 100000 in
set_option maxHeartbeats 3200000 in
theorem iLst_any:Calls Tryzx.prog 38 #[.agg #[.slice A n c],.slice B q d] w (EndPost w (lstB zs n ls q) (-1) (thrL zs n ls q) (thrN zs n ls q)):=by
 have hz0:(w.alloc (.cells #[.slice A n c] 45)).heap.size=w.heap.size+1:=by simp
 have b0:Below w.heap.size w ((w.alloc (.cells #[.slice A n c] 45)).alloc (.cells #[.int .i64 0,.int .i64 0,.int .i64 0,.int .i64 0] 66)):=((Below.refl _ _).alloc (Nat.le_refl _) _).alloc (by simp) _;have bx0:Box ((w.alloc (.cells #[.slice A n c] 45)).alloc (.cells #[.int .i64 0,.int .i64 0,.int .i64 0,.int .i64 0] 66)) w.heap.size (.slice A n c):=(Box.new w (.slice A n c) 45).alloc _;have HA0:Hid (RowF ((w.alloc (.cells #[.slice A n c] 45)).alloc (.cells #[.int .i64 0,.int .i64 0,.int .i64 0,.int .i64 0] 66)) (w.heap.size+1) 66 4 (ints [0,0,0,0])):=Lib.hid (by
  have h:=RowF.of_row (World.rowIs_alloc (w.alloc (.cells #[.slice A n c] 45)) #[.int .i64 0,.int .i64 0,.int .i64 0,.int .i64 0] 66 (ints [0,0,0,0]) (fun i hi=>by simp at hi; match i,hi with | 0,_=>rfl | 1,_=>rfl | 2,_=>rfl | 3,_=>rfl))
  rw [hz0] at h;exact h)
 have HX:=Lib.hid bx0;have HH:=Lib.hid h;have HL:=Lib.hid hl;have HB0:=Lib.hid b0;have cx0:=bx0.1;have hw1:=h.after b0;have hw2:=hl.after b0;clear hz0 b0 bx0 h hl;go_enter Tryzx.func38,Tryz.ntmps38;go_wp2_with fail
 refine (iThr_any _ _ _ zs _ _ _ ls _ (by exact hw1) hn (by exact hw2) hq).mono ?_;rintro e w1 ⟨v1,rfl,ho1,hb1⟩;have HA1:=Lib.hid (HA0.out.after hb1);have HB1:=Lib.hid (below_then HB0.out hb1);obtain ⟨A1,c1,rfl,hcap⟩:=ho1.slice;have hcm:=ownR_cap ho1;have r1:=ho1.recs;clear hb1 ho1 cx0 HA0 HB0 HX hw1 hw2;by_cases hm:thrN zs n ls q=0
 ·have HE:=Lib.hid (endV_f (show lstB zs n ls q=false by simp [lstB,hm]) (-1) (thrL zs n ls q) (thrN zs n ls q))
  have hme:(((thrN zs n ls q:Nat):Int) == 0)=true:=by rw [hm]; rfl
  clear r1 hm;obtain ⟨⟨d0,d1,d2,d3⟩,f0,f1,f2,f3⟩:=row4 HA1.out;go_wp2;refine bodyPost_ret (v:=thrV 0 0 0 0 false) (by simp [thrV,results,Tryz.results38,go_sem, *]) rfl ⟨by rw [HE.out],?_⟩;exact below_set4' HB1.out (Nat.le_succ _) _ _ _ _
 ·have hme:(((thrN zs n ls q:Nat):Int) == 0)=false:=by simp; omega
  have HE:=Lib.hid (endV_t (show lstB zs n ls q=true from decide_eq_true (by omega)) (-1) (thrL zs n ls q) (thrN zs n ls q));have hfew:thrN zs n ls q≤1048576:=by have:=(corn_acc (rowsZ zs n ls q) (rowsN zs n ls q)).few; unfold thrN; omega
  go_wp2_with fail
  refine (bestLeastThrust_any _ _ _ (thrL zs n ls q) _ (by exact r1) (by omega) hfew hcap hcm).mono ?_;rintro e w3 ⟨rfl,hb3⟩;have HA3:=Lib.hid (HA1.out.after hb3);have HB3:=Lib.hid (below_then HB1.out hb3);generalize bstV (-1) (thrL zs n ls q) (thrN zs n ls q - 1) 0=q0 at *
  generalize bstV (-1) (thrL zs n ls q) (thrN zs n ls q - 1) 1=q1 at *
  generalize bstV (-1) (thrL zs n ls q) (thrN zs n ls q - 1) 2=q2 at *
  generalize bstV (-1) (thrL zs n ls q) (thrN zs n ls q - 1) 3=q3 at *
  clear hb3 r1;obtain ⟨⟨d0,d1,d2,d3⟩,f0,f1,f2,f3⟩:=row4 HA3.out;go_wp2;refine bodyPost_ret (v:=thrV q0 q1 q2 q3 true) (by simp [thrV,results,Tryz.results38,go_sem, *]) rfl ⟨by rw [HE.out],?_⟩;exact below_set4' HB3.out (Nat.le_succ _) _ _ _ _
end
end X
section
open Go.RowKit
theorem ownB_below {B base:Nat} {E:TypeId} {a w w':World} {v:Value} {xs:List Int} {o:Obj} (hb:Below B a w) (hB:B≤w.heap.size) (hown:OwnV w base E v xs) (h:B≤base) (hg:(w.alloc o).grownBy w' v.ownBlock):Below B a w' :=
 (hb.alloc hB o).grown hg (by simp; omega) (fun k hk=>Nat.le_trans h (hown.ownLt k hk))
end
section
open Go.RowKit
theorem OwnV.sliceN {w:World} {base:Nat} {E:TypeId} {v:Value} {xs:List Int} (h:OwnV w base E v xs):∃ A l c,v = .slice A l c:=by
 rcases h.form with ⟨rfl,_⟩ | ⟨g,cap,rfl,_⟩ <;> exact ⟨_,_,_,rfl⟩
theorem OwnV.weakenN {w:World} {base base':Nat} {E:TypeId} {v:Value} {xs:List Int} (h:OwnV w base E v xs) (hb:base'≤base):OwnV w base' E v xs:=by
 refine ⟨h.1,?_⟩;rcases h.2 with h2 | ⟨g,cap,cur,h1,h2,h3⟩
 ·exact .inl h2
 ·exact .inr ⟨g,cap,cur,h1,Nat.le_trans hb h2,h3⟩
end
end Go.Proofs.YtjcgklifabcfkaaGreat
