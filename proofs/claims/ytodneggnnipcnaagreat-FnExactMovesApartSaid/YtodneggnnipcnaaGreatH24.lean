/-
  Texts that the law stands on, part 24.
-/
import Derived.Test.YtodneggnnipcnaaGreatH1
import Derived.Test.YtodneggnnipcnaaGreatH11
import Derived.Test.YtodneggnnipcnaaGreatH17
import Derived.Test.YtodneggnnipcnaaGreatH23
import Derived.Deep.RegionLaw
set_option maxRecDepth 100000
set_option linter.unusedVariables false
set_option linter.unusedSimpArgs false
namespace Go.Proofs.YtodneggnnipcnaaGreat
namespace X
open Go.RowKit
theorem archB_pts {zs:List Int} {n:Nat} (h:archB zs n=true):∀ m,m<n→ptB (nth zs (m*4)) (nth zs (m*4+1))=true∧ptB (nth zs (m*4+2)) (nth zs (m*4+3))=true:=by
 obtain ⟨hn,hp⟩:=archB_out h;intro m hm;by_cases e:m+1<n
 ·have h1:=hp m (by omega)
  simp only [pairB,Bool.and_eq_true] at h1;have h2:=(stoneB_out h1.1).2.1;exact ⟨h2 0 (by omega),h2 3 (by omega)⟩
 ·obtain ⟨k,rfl⟩:∃ k,m=k+1:=⟨m - 1,by omega⟩
  have h1:=hp k (by omega);simp only [pairB,Bool.and_eq_true] at h1;have h2:=(stoneB_out h1.1).2.1;exact ⟨h2 1 (by omega),h2 2 (by omega)⟩
theorem archB_x {zs:List Int} {n:Nat} (h:archB zs n=true):2≤n∧pX zs 0<pX zs 2:=by
 obtain ⟨hn,hp⟩:=archB_out h;have h1:=hp 0 (by omega);simp only [pairB,Bool.and_eq_true,decide_eq_true_eq] at h1;exact ⟨by omega,h1.2⟩
theorem dX_eq (zs:List Int) (i o:Nat):dX zs i o=nth zs (i*4) - nth zs (o*4+2):=by
 unfold dX pX;rw [show 2*i*2=i*4 by omega,show (2*o+1)*2=o*4+2 by omega]
theorem dY_eq (zs:List Int) (i o:Nat):dY zs i o=nth zs (i*4+1) - nth zs (o*4+3):=by
 unfold dY pY;rw [show 2*i*2+1=i*4+1 by omega,show (2*o+1)*2+1=o*4+3 by omega]
open Classical in
noncomputable def strB (zs:List Int) (n:Nat):Bool:=archB zs n && decide (StrI zs n)
theorem strB_f1 {zs:List Int} {n:Nat} (h:archB zs n=false):strB zs n=false:=by simp [strB,h]
theorem strB_f2 {zs:List Int} {n:Nat} (h:¬ StrI zs n):strB zs n=false:=by simp [strB,h]
theorem strB_t {zs:List Int} {n:Nat} (h:archB zs n=true) (h2:StrI zs n):strB zs n=true:=by simp [strB,h,h2]
theorem infoSlope:(Tryzx.prog.info? 130).map (fun i=>(i.zero,i.size,i.bytes))=some (some (.agg #[.int .i64 0,.int .i64 0]),2,16):=by kernel_rfl
structure StrRel (W1:World) (zs:List Int) (n t:Nat) (v3 v4:Value) (wr:World):Prop where
 low:OwnR wr W1.heap.size 130 2 v3 (lowN zs n t) (lowTo zs n t)
 high:OwnR wr W1.heap.size 130 2 v4 (highN zs n t) (highTo zs n t)
 apart:ApartV v3 v4
 good:noBad zs n t
 below:Below W1.heap.size W1 wr
theorem StrRel.alloc {W1:World} {zs:List Int} {n t:Nat} {v3 v4:Value} {wr:World} (h:StrRel W1 zs n t v3 v4 wr) (o:Obj):StrRel W1 zs n t v3 v4 (wr.alloc o):=⟨h.low.alloc o,h.high.alloc o,h.apart,h.good,h.below.alloc h.below.size o⟩
theorem StrRel.drewN {W1:World} {zs:List Int} {n t:Nat} {v3 v4:Value} {wr:World} (h:StrRel W1 zs n t v3 v4 wr) (k:Nat):StrRel W1 zs n t v3 v4 (wr.drewN k):=⟨h.low,h.high,h.apart,h.good,below_drewN h.below k⟩
theorem noBad_step {zs:List Int} {n t:Nat} (h:noBad zs n t) (e:dX zs (t / n) (t % n)=0→dY zs (t / n) (t % n)≤0):noBad zs n (t+1):=by
 intro s hs;by_cases hst:s=t
 ·subst hst; exact e
 ·exact h s (by omega)
theorem cell_newP (w:World) (a b:Int) (T:TypeId):∀ i,i<1*2→(w.alloc (.cells #[.int .i64 a,.int .i64 b] T)).cell? ⟨w.heap.size,i,none⟩=some (.int .i64 (nth [a,b] i)):=by
 intro i hi;exact World.rowIs.cell (World.rowIs_alloc w #[.int .i64 a,.int .i64 b] T (ints [a,b]) (fun i hi=>by simp at hi; match i,hi with | 0,_=>rfl | 1,_=>rfl)) (by simpa using hi)
theorem d_bd {zs:List Int} {n:Nat} (hA:archB zs n=true) {s:Nat} (hs:s<n*n):slB (dY zs (s / n) (s % n)) (dX zs (s / n) (s % n))∧slB (-dY zs (s / n) (s % n)) (-dX zs (s / n) (s % n)):=by
 have hp:=pair_of hs;have h1:=archB_pts hA _ hp.1;have h2:=archB_pts hA _ hp.2;rw [ptB_iff,ptB_iff] at h1 h2;have e1:=dX_eq zs (s / n) (s % n);have e2:=dY_eq zs (s / n) (s % n);unfold slB;omega
theorem low_ok {zs:List Int} {n:Nat} (hA:archB zs n=true):∀ j,j<lowN zs n (n*n)→slOk (lowTo zs n (n*n)) j:=by
 intro j hj;obtain ⟨s,hs,_,h2,h3⟩:=low_from (zs:=zs) (n:=n) (n*n) j hj;unfold slOk;rw [h2,h3];exact (d_bd hA hs).1
theorem high_ok {zs:List Int} {n:Nat} (hA:archB zs n=true):∀ j,j<highN zs n (n*n)→slOk (highTo zs n (n*n)) j:=by
 intro j hj;obtain ⟨s,hs,_,h2,h3⟩:=high_from (zs:=zs) (n:=n) (n*n) j hj;unfold slOk;rw [h2,h3];exact (d_bd hA hs).2
set_option maxRecDepth 100000 in
set_option maxHeartbeats 3200000 in
theorem iIsStraight_any (A:Option Addr) (n c:Nat) (zs:List Int) (w:World) (h:RecsAt w w.heap.size 4 A n zs) (hn:n≤1048576) :
  Calls Tryzx.prog 69 #[.agg #[.slice A n c]] w fun e w'=>e = .returned (.bool (strB zs n))∧Below w.heap.size w w':=by
 have b0:Below w.heap.size w (w.alloc (.cells #[.slice A n c] 32)):=(Below.refl _ _).alloc (Nat.le_refl _) _;have h1:=h.after b0;have bx0:Box (w.alloc (.cells #[.slice A n c] 32)) w.heap.size (.slice A n c):=Box.new _ _ _;cases hA:archB zs n
 ·have HF:=Lib.hid (strB_f1 hA)
  go_enter Tryzx.func69,Tryz.ntmps69;go_wp2_with fail
  refine (iArchOk_any _ _ _ zs _ h1 hn).mono ?_;rw [hA];rintro e w1 ⟨rfl,hb1⟩;go_wp2;go_ret;exact ⟨ret_bool HF.out.symm,below_then b0 hb1⟩
 ·have hn8:=(archB_out hA).1
  have HPT:=Lib.hid (archB_pts hA);have HT:=Lib.hid (fun h2=>strB_t hA h2);obtain ⟨b,off,rfl,hbB,hcell⟩:=h.2 (by omega);have HC:=Lib.hid hcell;clear hcell;go_enter Tryzx.func69,Tryz.ntmps69;go_wp2_with fail
  refine (iArchOk_any _ _ _ zs _ h1 hn).mono ?_;rw [hA];rintro e W1 ⟨rfl,hb1⟩;have bx1:=bx0.after hb1;have cx1:=bx1.1;have hgl1:=bx1.2;have B1:=Lib.hid (below_then b0 hb1);have hbl:b<W1.heap.size:=by have:=B1.out.size; omega
  have HC1:Hid (∀ j,j<n→W1.cell? ⟨b,off+j*4,none⟩=some (.int .i64 (nth zs (j*4)))∧W1.cell? ⟨b,off+j*4+1,none⟩=some (.int .i64 (nth zs (j*4+1)))∧W1.cell? ⟨b,off+j*4+2,none⟩=some (.int .i64 (nth zs (j*4+2)))∧W1.cell? ⟨b,off+j*4+3,none⟩=some (.int .i64 (nth zs (j*4+3)))) :=
   fun j hj=>jtCells (fun i hi=>(B1.out.cell (by exact hbB)).trans (HC.out i hi)) hj
  have HS0:Hid (StrRel W1 zs n (0*n) (.slice none 0 0) (.slice none 0 0) W1):=by
   rw [Nat.zero_mul];exact ⟨OwnR.nil _ _ _ _,OwnR.nil _ _ _ _,ApartV.nil _,fun s hs=>absurd hs (by omega),Below.refl _ _⟩
  have HA':=Lib.hid hA;clear hb1 b0 h1 bx0 h HC hA bx1;go_wp2;go_loopw [3,4,19] (fun v3 v4 i wr=>∃ k:Nat,k≤n∧i = .int .i64 k∧Hid (StrRel W1 zs n (k*n) v3 v4 wr)) (fun _ _ i _=>n - (intOf i).toNat)
  case atStart=>exact ⟨0,Nat.zero_le _,rfl,HS0⟩
  case round =>
   clear HS0;obtain ⟨i,hi,rfl,HS⟩:=hrel;obtain ⟨wo,rfl⟩:∃ wo:World,wo=wr:=⟨_,rfl⟩;by_cases hlt:i<n
   ·have hz:=HS.out.below.size
    have hq:=HC1.out i hlt;have x0:wo.cell? ⟨b,off+i*4,none⟩=some (.int .i64 (nth zs (i*4))):=(HS.out.below.cell (by exact hbl)).trans hq.1;have x1:wo.cell? ⟨b,off+i*4+1,none⟩=some (.int .i64 (nth zs (i*4+1))):=(HS.out.below.cell (by exact hbl)).trans hq.2.1;have x2:wo.cell? ⟨b,off+i*4+2,none⟩=some (.int .i64 (nth zs (i*4+2))):=(HS.out.below.cell (by exact hbl)).trans hq.2.2.1;have x3:wo.cell? ⟨b,off+i*4+3,none⟩=some (.int .i64 (nth zs (i*4+3))):=(HS.out.below.cell (by exact hbl)).trans hq.2.2.2;have cxr:wo.cell? ⟨w.heap.size,0,none⟩=some (.slice (some ⟨b,off,none⟩) n c):=(HS.out.below.cell (by exact hgl1)).trans cx1;have hgr:w.heap.size<wo.heap.size:=by omega
    have HSI:Hid (StrRel W1 zs n (i*n+0) u3 u4 (wo.alloc (.cells #[.int .i64 (nth zs (i*4)),.int .i64 (nth zs (i*4+1)),.int .i64 (nth zs (i*4+2)),.int .i64 (nth zs (i*4+3))] 100))):=HS.out.alloc _;have HRI:=Lib.hid (RowF.of_row (World.rowIs_alloc wo #[.int .i64 (nth zs (i*4)),.int .i64 (nth zs (i*4+1)),.int .i64 (nth zs (i*4+2)),.int .i64 (nth zs (i*4+3))] 100 (ints [nth zs (i*4),nth zs (i*4+1),nth zs (i*4+2),nth zs (i*4+3)]) (fun j hj=>by simp at hj; match j,hj with | 0,_=>rfl | 1,_=>rfl | 2,_=>rfl | 3,_=>rfl)))
    clear hq;go_wp2;go_loopw [3,4,26] (fun v3 v4 o wr=>∃ k:Nat,k≤n∧o = .int .i64 k∧Hid (StrRel W1 zs n (i*n+k) v3 v4 wr)∧Hid (RowF wr wo.heap.size 100 4 (ints [nth zs (i*4),nth zs (i*4+1),nth zs (i*4+2),nth zs (i*4+3)]))) (fun _ _ o _=>n - (intOf o).toNat)
    case atStart=>exact ⟨0,Nat.zero_le _,rfl,HSI,HRI⟩
    case round =>
     clear HSI HRI x0 x1 x2 x3 cxr HS;obtain ⟨o,ho,rfl,HSO,HRO⟩:=hrel;by_cases hlo:o<n
     ·have hq:=HC1.out o hlo
      have y0:wr.cell? ⟨b,off+o*4,none⟩=some (.int .i64 (nth zs (o*4))):=(HSO.out.below.cell (by exact hbl)).trans hq.1;have y1:wr.cell? ⟨b,off+o*4+1,none⟩=some (.int .i64 (nth zs (o*4+1))):=(HSO.out.below.cell (by exact hbl)).trans hq.2.1;have y2:wr.cell? ⟨b,off+o*4+2,none⟩=some (.int .i64 (nth zs (o*4+2))):=(HSO.out.below.cell (by exact hbl)).trans hq.2.2.1;have y3:wr.cell? ⟨b,off+o*4+3,none⟩=some (.int .i64 (nth zs (o*4+3))):=(HSO.out.below.cell (by exact hbl)).trans hq.2.2.2;have hgo:=HRO.out.lt;have j0:wr.cell? ⟨wo.heap.size,0,none⟩=some (.int .i64 (nth zs (i*4))):=HRO.out.cell (by omega);have j1:wr.cell? ⟨wo.heap.size,1,none⟩=some (.int .i64 (nth zs (i*4+1))):=HRO.out.cell (by omega);have hzr:=HSO.out.below.size;have hdm:=divmod (n:=n) (i:=i) (o:=o) hlo;have HSA:Hid (StrRel W1 zs n (i*n+o) u3 u4 (wr.alloc (.cells #[.int .i64 (nth zs (o*4)),.int .i64 (nth zs (o*4+1)),.int .i64 (nth zs (o*4+2)),.int .i64 (nth zs (o*4+3))] 100))):=HSO.out.alloc _;have HRA:=Lib.hid (HRO.out.alloc (.cells #[.int .i64 (nth zs (o*4)),.int .i64 (nth zs (o*4+1)),.int .i64 (nth zs (o*4+2)),.int .i64 (nth zs (o*4+3))] 100));have hpi:=HPT.out i hlt;have hpo:=HPT.out o hlo;rw [ptB_iff,ptB_iff] at hpi hpo;have hll:=lowN_le (zs:=zs) (n:=n) (i*n+o);have hhl:=highN_le (zs:=zs) (n:=n) (i*n+o);have hio:i*n+o<n*n:=pair_lt hlt hlo;have hnn:n*n≤64:=by have:=Nat.mul_le_mul hn8.2 hn8.2; omega
      have edx:dX zs i o=nth zs (i*4) - nth zs (o*4+2):=dX_eq zs i o;have edy:dY zs i o=nth zs (i*4+1) - nth zs (o*4+3):=dY_eq zs i o;have bdx : -120≤dX zs i o∧dX zs i o≤120:=by omega
      have bdy : -120≤dY zs i o∧dY zs i o≤120:=by omega
      have HDX:=Lib.hid edx;have HDY:=Lib.hid edy;have s1:IntKind.i64.wrap (nth zs (i*4) - nth zs (o*4+2))=dX zs i o:=by rw [← HDX.out]; exact IntWalk.i64_in _ (by omega)
      have s2:IntKind.i64.wrap (nth zs (i*4+1) - nth zs (o*4+3))=dY zs i o:=by rw [← HDY.out]; exact IntWalk.i64_in _ (by omega)
      have TL:Hid (0<dX zs i o→lowTo zs n (i*n+o) ++ [dY zs i o,dX zs i o]=lowTo zs n (i*n+(o+1))∧lowN zs n (i*n+o)+1=lowN zs n (i*n+(o+1))):=fun hp=>by
       rw [show i*n+(o+1)=i*n+o+1 by omega];simp only [lowTo,lowN,hdm.1,hdm.2,hp,if_true];exact ⟨trivial,trivial⟩
      have TL':Hid (¬ 0<dX zs i o→lowTo zs n (i*n+(o+1))=lowTo zs n (i*n+o)∧lowN zs n (i*n+(o+1))=lowN zs n (i*n+o)):=fun hp=>by
       rw [show i*n+(o+1)=i*n+o+1 by omega];simp only [lowTo,lowN,hdm.1,hdm.2,hp,if_false];exact ⟨trivial,trivial⟩
      have TH:Hid (dX zs i o<0→highTo zs n (i*n+o) ++ [-dY zs i o,-dX zs i o]=highTo zs n (i*n+(o+1))∧highN zs n (i*n+o)+1=highN zs n (i*n+(o+1))):=fun hp=>by
       rw [show i*n+(o+1)=i*n+o+1 by omega];simp only [highTo,highN,hdm.1,hdm.2,hp,if_true];exact ⟨trivial,trivial⟩
      have TH':Hid (¬ dX zs i o<0→highTo zs n (i*n+(o+1))=highTo zs n (i*n+o)∧highN zs n (i*n+(o+1))=highN zs n (i*n+o)):=fun hp=>by
       rw [show i*n+(o+1)=i*n+o+1 by omega];simp only [highTo,highN,hdm.1,hdm.2,hp,if_false];exact ⟨trivial,trivial⟩
      have TG:Hid ((dX zs i o=0→dY zs i o≤0)→noBad zs n (i*n+(o+1))):=fun e=>by
       rw [show i*n+(o+1)=i*n+o+1 by omega];exact noBad_step HSO.out.good (by rw [hdm.1,hdm.2]; exact e)
      have TB:Hid (dX zs i o=0→0<dY zs i o→strB zs n=false):=fun e1 e2=>strB_f2 (not_strI_bad hio (by rw [hdm.1,hdm.2]; exact e1) (by rw [hdm.1,hdm.2]; exact e2))
      clear hq hdm edx edy HSO HRO;generalize dX zs i o=D at *
      generalize dY zs i o=G at *
      by_cases hp:0<D
      ·have HG:∀ i,i<1*2→((wr.alloc (.cells #[.int .i64 (nth zs (o*4)),.int .i64 (nth zs (o*4+1)),.int .i64 (nth zs (o*4+2)),.int .i64 (nth zs (o*4+3))] 100)).alloc (.cells #[.int .i64 (G),.int .i64 (D)] 130)).cell? ⟨wr.heap.size+1,i,none⟩=some (.int .i64 (nth [G,D] i)):=fun i hi=>by
        have:=cell_newP (wr.alloc (.cells #[.int .i64 (nth zs (o*4)),.int .i64 (nth zs (o*4+1)),.int .i64 (nth zs (o*4+2)),.int .i64 (nth zs (o*4+3))] 100)) (G) (D) 130 i hi;rw [World.size_alloc] at this;exact this
       have HGH:=Lib.hid HG;clear HG;go_wp2;go_quiet (fail)
       go_wp2_with (at_builtin; refine wpList_appR2 _ rfl (.tmp 47) (.tmp 51) 128 rfl W1.heap.size 130 2 16 #[.int .i64 0,.int .i64 0] Tryzx.underlying128 infoSlope rfl (by decide) (by decide) _ (lowN zs n (i*n+o)) (lowTo zs n (i*n+o)) rfl (by exact HSA.out.low.alloc _) (wr.heap.size+1) 1 1 [G,D] rfl rfl (by exact HGH.out) (by omega) W1.heap.size W1 (by exact below_drewN (HSA.out.below.alloc HSA.out.below.size _) _) (Nat.le_refl _) (by have:=HSA.out.below.size; simp at this; simp; omega) _ rfl _ _ _ (by exact HSA.out.high.alloc _) HSA.out.apart ?_ (by omega); intro g' cap' w3 hown3 hb3 hoth3 hap3 hrow3);have HR3:Hid (RowF w3 wo.heap.size 100 4 (ints [nth zs (i*4),nth zs (i*4+1),nth zs (i*4+2),nth zs (i*4+3)])):=hrow3 _ _ _ _ (by decide) (by exact HRA.out.alloc _);have HS3:Hid (StrRel W1 zs n (i*n+(o+1)) (.slice (some ⟨g',0,none⟩) (lowN zs n (i*n+o)+1) cap') u4 w3):=by
        have t1:=TL.out hp;have t2:=TH'.out (by omega);refine ⟨?_,?_,hap3,TG.out (fun e=>by omega),hb3⟩
        ·rw [← t1.1,← t1.2]; exact hown3
        ·rw [t2.1,t2.2]; exact hoth3
       go_wp2;go_roundw
       case rel=>exact ⟨o+1,by omega,by go_num,HS3,HR3⟩
       case measure=>simp [intOf]; omega
      by_cases hg:D<0
      ·have hp':¬ 0<D:=hp
       have n1:IntKind.i64.wrap (-G) = -G:=IntWalk.i64_in _ (by omega);have n2:IntKind.i64.wrap (-D) = -D:=IntWalk.i64_in _ (by omega);have HG:∀ i,i<1*2→((wr.alloc (.cells #[.int .i64 (nth zs (o*4)),.int .i64 (nth zs (o*4+1)),.int .i64 (nth zs (o*4+2)),.int .i64 (nth zs (o*4+3))] 100)).alloc (.cells #[.int .i64 (-G),.int .i64 (-D)] 130)).cell? ⟨wr.heap.size+1,i,none⟩=some (.int .i64 (nth [-G,-D] i)):=fun i hi=>by
        have:=cell_newP (wr.alloc (.cells #[.int .i64 (nth zs (o*4)),.int .i64 (nth zs (o*4+1)),.int .i64 (nth zs (o*4+2)),.int .i64 (nth zs (o*4+3))] 100)) (-G) (-D) 130 i hi;rw [World.size_alloc] at this;exact this
       have HGH:=Lib.hid HG;clear HG;go_wp2;go_quiet (fail)
       go_wp2_with (at_builtin; refine wpList_appR2 _ rfl (.tmp 56) (.tmp 62) 128 rfl W1.heap.size 130 2 16 #[.int .i64 0,.int .i64 0] Tryzx.underlying128 infoSlope rfl (by decide) (by decide) _ (highN zs n (i*n+o)) (highTo zs n (i*n+o)) rfl (by exact HSA.out.high.alloc _) (wr.heap.size+1) 1 1 [-G,-D] rfl rfl (by exact HGH.out) (by omega) W1.heap.size W1 (by exact below_drewN (HSA.out.below.alloc HSA.out.below.size _) _) (Nat.le_refl _) (by have:=HSA.out.below.size; simp at this; simp; omega) _ rfl _ _ _ (by exact HSA.out.low.alloc _) HSA.out.apart.symm ?_ (by omega); intro g' cap' w3 hown3 hb3 hoth3 hap3 hrow3);have HR3:Hid (RowF w3 wo.heap.size 100 4 (ints [nth zs (i*4),nth zs (i*4+1),nth zs (i*4+2),nth zs (i*4+3)])):=hrow3 _ _ _ _ (by decide) (by exact HRA.out.alloc _);have HS3:Hid (StrRel W1 zs n (i*n+(o+1)) u3 (.slice (some ⟨g',0,none⟩) (highN zs n (i*n+o)+1) cap') w3):=by
        have t1:=TH.out hg;have t2:=TL'.out (by omega);refine ⟨?_,?_,hap3.symm,TG.out (fun e=>by omega),hb3⟩
        ·rw [t2.1,t2.2]; exact hoth3
        ·rw [← t1.1,← t1.2]; exact hown3
       go_wp2;go_roundw
       case rel=>exact ⟨o+1,by omega,by go_num,HS3,HR3⟩
       case measure=>simp [intOf]; omega
      have hz0:D=0:=by omega
      by_cases hG:0<G
      ·have HF:=Lib.hid (TB.out hz0 hG)
       clear hz0;go_wp2;go_quiet (fail)
       go_wp2;go_ret;exact ⟨ret_bool HF.out.symm,B1.out.trans ((below_drewN HSA.out.below _).mono B1.out.size)⟩
      ·have HS3:Hid (StrRel W1 zs n (i*n+(o+1)) u3 u4 (wr.alloc (.cells #[.int .i64 (nth zs (o*4)),.int .i64 (nth zs (o*4+1)),.int .i64 (nth zs (o*4+2)),.int .i64 (nth zs (o*4+3))] 100))):=by
        have t1:=TL'.out hp;have t2:=TH'.out hg;refine ⟨?_,?_,HSA.out.apart,TG.out (fun _=>by omega),HSA.out.below⟩
        ·rw [t1.1,t1.2]; exact HSA.out.low
        ·rw [t2.1,t2.2]; exact HSA.out.high
       clear hz0;go_wp2;go_quiet (fail)
       go_wp2;go_roundw
       case rel=>exact ⟨o+1,by omega,by go_num,HS3.out.drewN _,HRA.out.drewN _⟩
       case measure=>simp [intOf]; omega
     ·obtain rfl:o=n:=by omega
      have HE:Hid (StrRel W1 zs o ((i+1)*o) u3 u4 wr):=by
       have h:=HSO.out;rw [show i*o+o=(i+1)*o by rw [Nat.add_mul]; omega] at h
       exact h
      go_wp2;go_roundw
      case rel=>exact ⟨i+1,by omega,by go_num,HE⟩
      case measure=>simp [intOf]; omega
   ·obtain rfl:i=n:=by omega
    obtain ⟨A3,c3,rfl,hc3⟩:=HS.out.low.slice;obtain ⟨A4,c4,rfl,hc4⟩:=HS.out.high.slice;have hll:=lowN_le (zs:=zs) (n:=i) (i*i);have hhl:=highN_le (zs:=zs) (n:=i) (i*i);have hnn:i*i≤64:=by have:=Nat.mul_le_mul hn8.2 hn8.2; omega
    have BW:=Lib.hid (B1.out.trans (HS.out.below.mono B1.out.size));by_cases h0:lowN zs i (i*i)=0
    ·have HF:=Lib.hid (HT.out (strI_noLow HS.out.good h0))
     have t0:((lowN zs i (i*i):Int) == 0)=true:=by simp [h0]
     clear h0;go_wp2;go_ret;exact ⟨ret_bool HF.out.symm,BW.out⟩
    have t0:((lowN zs i (i*i):Int) == 0)=false:=by simp [h0]
    by_cases h4:highN zs i (i*i)=0
    ·have HF:=Lib.hid (HT.out (strI_noHigh HS.out.good h4))
     have t4:((highN zs i (i*i):Int) == 0)=true:=by simp [h4]
     clear h4;go_wp2;go_ret;exact ⟨ret_bool HF.out.symm,BW.out⟩
    have t4:((highN zs i (i*i):Int) == 0)=false:=by simp [h4]
    have KB:=Lib.hid (strI_both (a:=lowN zs i (i*i) - 1) (b:=highN zs i (i*i) - 1) HS.out.good (by omega) (by omega));have OL:=Lib.hid (low_ok HA'.out);have OH:=Lib.hid (high_ok HA'.out);have QL:=Lib.hid (bestTo_ok slMore OL.out (lowN zs i (i*i) - 1) (by omega));have QH:=Lib.hid (bestTo_ok slLess OH.out (highN zs i (i*i) - 1) (by omega));have r3:=HS.out.low.recs;have r4:=HS.out.high.recs;have hcap3:=HS.out.low.cap;have hcap4:=HS.out.high.cap;go_wp2_with fail
    refine (bestMore_any _ _ _ _ _ r3 (by omega) (by omega) hc3 hcap3 OL.out).mono ?_;rintro e w2 ⟨rfl,hb2⟩;have r42:=r4.after hb2;have B2:=Lib.hid (below_then BW.out hb2);clear hb2 r3 r4;generalize (bestTo slMore (lowTo zs i (i*i)) (lowN zs i (i*i) - 1)).1=m1 at *
    generalize (bestTo slMore (lowTo zs i (i*i)) (lowN zs i (i*i) - 1)).2=m2 at *
    have hbA:Below w2.heap.size w2 (w2.alloc (.cells #[.int .i64 m1,.int .i64 m2] 130)):=(Below.refl _ _).alloc (Nat.le_refl _) _;have r43:=r42.after hbA;have bxm:Box2 (w2.alloc (.cells #[.int .i64 m1,.int .i64 m2] 130)) w2.heap.size (.int .i64 m1) (.int .i64 m2):=Box2.new _ _ _ _;have B3:=Lib.hid (below_then B2.out hbA);clear r42 hbA;go_wp2_with fail
    refine (bestLess_any _ _ _ _ _ r43 (by omega) (by omega) hc4 hcap4 OH.out).mono ?_;rintro e w4 ⟨rfl,hb4⟩;have bx4:=bxm.after hb4;have B4:=Lib.hid (below_then B3.out hb4);clear hb4 r43 bxm;generalize (bestTo slLess (highTo zs i (i*i)) (highN zs i (i*i) - 1)).1=q1 at *
    generalize (bestTo slLess (highTo zs i (i*i)) (highN zs i (i*i) - 1)).2=q2 at *
    have hbB':Below w4.heap.size w4 (w4.alloc (.cells #[.int .i64 q1,.int .i64 q2] 130)):=(Below.refl _ _).alloc (Nat.le_refl _) _;have bx5:=bx4.after hbB';have c0:=bx4.1;have c1:=bx4.2.1;have lt4:=bx4.2.2;have B5:=Lib.hid (below_then B4.out hbB');clear hbB' bx5;go_wp2_with fail
    refine (slopeLess_any q1 q2 m1 m2 _ QH.out QL.out).mono ?_;rintro e w6 ⟨rfl,hb6⟩;have B6:=Lib.hid (below_then B5.out hb6);have HFF:Hid ((!slLess q1 q2 m1 m2)=strB zs i):=by
     show (!slLess q1 q2 m1 m2)=strB zs i
     cases hs:slLess q1 q2 m1 m2
     ·exact (HT.out (KB.out.1 hs)).symm
     ·have:¬ StrI zs i:=fun hh=>by have:=KB.out.2 hh; rw [hs] at this; cases this
      exact (strB_f2 this).symm
    clear hb6;go_wp2;go_ret;exact ⟨ret_bool HFF.out,B6.out⟩
end X
namespace X
open Go.RowKit
theorem infoPoint2:(Tryzx.prog.info? 98).map (fun i=>(i.zero,i.size,i.bytes))=some (some (.agg #[.int .i64 0,.int .i64 0]),2,16):=by kernel_rfl
theorem take_4 {zs:List Int} {k n:Nat} (hl:zs.length=n*4) (hk:k<n):zs.take (k*4) ++ [nth zs (k*4),nth zs (k*4+1),nth zs (k*4+2),nth zs (k*4+3)]=zs.take ((k+1)*4):=by
 rw [show (k+1)*4=k*4+1+1+1+1 by omega];rw [List.take_succ_eq_append_getElem (by omega),List.take_succ_eq_append_getElem (by omega),List.take_succ_eq_append_getElem (by omega),List.take_succ_eq_append_getElem (by omega)];rw [nth_get _ _ (show k*4<zs.length by omega),nth_get _ _ (show k*4+1<zs.length by omega),nth_get _ _ (show k*4+2<zs.length by omega),nth_get _ _ (show k*4+3<zs.length by omega)];simp only [List.append_assoc,List.cons_append,List.nil_append]
theorem step_appR {P:Program} {ops:Array Oper} {o:Oper} {a:Act} {w:World} {K:Act→World→Prop} {Q:Exit→Act→World→Prop} {F:Prop} (hgd:o.guard=none) (s x:Operand) (t:TypeId)
  (ho:o.op = .call { callee := .builtin .append,args := #[s,x],argTypes := #[t,t] })
  (base:Nat) (E:TypeId) (Kr bytes:Nat) (zc:Array Value) (ht:P.underlying t=some (.slice E)) (hinfo:(P.info? E).map (fun i=>(i.zero,i.size,i.bytes))=some (some (.agg zc),Kr,bytes)) (hzc:zc.size=Kr) (hK:0<Kr) (hby:bytes≤1024)
  (v:Value) (n:Nat) (xs:List Int) (hs:a.eval s=v) (hown:OwnR w base E Kr v n xs) (g m c:Nat) (ys:List Int) (hx:a.eval x = .slice (some ⟨g,0,none⟩) m c) (hy:ys.length=m*Kr)
  (hg:∀ i,i<m*Kr→w.cell? ⟨g,i,none⟩=some (.int .i64 (nth ys i))) (hn:n+m≤1048576) (B:Nat) (w0:World) (hb:Below B w0 w) (hB:B≤base) (hbase:base≤w.heap.size) (xs':List Int) (hxs:xs ++ ys=xs') (hm:1≤m)
  (h:∀ g' cap' w',OwnR w' base E Kr (.slice (some ⟨g',0,none⟩) (n+m) cap') (n+m) xs'→Below B w0 w'→K (a.put o.dst (.slice (some ⟨g',0,none⟩) (n+m) cap')) w'):if Region.wanted o (yielded ops a.tmps)=true then Oper.wp P o a w K Q else F:=by
 have hw:Region.wanted o (yielded ops a.tmps)=true:=by simp [Region.wanted,hgd]
 rw [if_pos hw];subst hxs;obtain ⟨i0,hi0,hz0,hz1,hz2⟩:=info_parts hinfo;have hbb:(n+m)*bytes≤1048576*1024:=Nat.mul_le_mul hn hby;refine wp_append_own (P:=P) w s x t ho base E i0 (.agg zc) Kr bytes ht hi0 hz0 hz1 hz2 (by simpa [Value.cells] using hzc) hK v n _ hs hown.1 ⟨g,0,none⟩ m c (ys.map (Value.int .i64)) hx (by simpa using hy) ?_ ?_ (by unfold maxLen; omega) (by omega) hbase ?_
 ·intro j u hj
  have hjl:j<ys.length:=by
   have:=(List.getElem?_eq_some_iff.1 hj).1;simpa using this
  rw [List.getElem?_map,List.getElem?_eq_getElem hjl] at hj;simp at hj;subst hj;rw [Go.WideShapes.add_plain,Nat.zero_add,hg j (by rw [← hy]; exact hjl),nth_get ys j hjl]
 ·intro u hu
  obtain ⟨z,_,rfl⟩:=List.mem_map.1 hu;rfl
 ·intro v' w' hown' hgr _
  have h':OwnR w' base E Kr v' (n+m) (xs ++ ys):=⟨by rw [List.map_append]; exact hown',by rw [List.length_append,hown.2,hy,Nat.add_mul]⟩;rcases h'.form with ⟨_,h2,_⟩ | ⟨g',cap',rfl,_⟩
  ·omega
  ·exact h g' cap' w' h' (hb.grown hgr (by omega) (fun k hk=>by have:=hown.ownLt k hk; omega))
theorem cell_new4 (w:World) (a b c d:Int) (T:TypeId):∀ i,i<2*2→(w.alloc (.cells #[.int .i64 a,.int .i64 b,.int .i64 c,.int .i64 d] T)).cell? ⟨w.heap.size,i,none⟩=some (.int .i64 (nth [a,b,c,d] i)):=by
 intro i hi;exact World.rowIs.cell (World.rowIs_alloc w #[.int .i64 a,.int .i64 b,.int .i64 c,.int .i64 d] T (ints [a,b,c,d]) (fun i hi=>by simp at hi; match i,hi with | 0,_=>rfl | 1,_=>rfl | 2,_=>rfl | 3,_=>rfl)) (by simpa using hi)
def gdB (zs:List Int) (u v m:Nat):Bool:=decide (sd zs u v (2*m)≤0) && decide (0≤sd zs u v (2*m+1))
def goodTo (zs:List Int) (u v:Nat):Nat→Bool
 | 0=>true
 | m+1=>goodTo zs u v m && gdB zs u v m
theorem goodTo_iff {zs:List Int} {u v:Nat}:∀ n,goodTo zs u v n=true ↔ ∀ m,m<n→sd zs u v (2*m)≤0∧0≤sd zs u v (2*m+1)
 | 0=>by simp [goodTo]
 | n+1=>by
  rw [goodTo,Bool.and_eq_true,goodTo_iff n,gdB,Bool.and_eq_true,decide_eq_true_eq,decide_eq_true_eq];constructor
  ·rintro ⟨h1,h2⟩ m hm
   by_cases e:m=n
   ·subst e; exact h2
   ·exact h1 m (by omega)
  ·intro h
   exact ⟨fun m hm=>h m (by omega),h n (by omega)⟩
def NoLine (zs:List Int) (n u k:Nat):Prop:=∀ v,v<k→¬ LineOk zs n u v
def NoLines (zs:List Int) (n k:Nat):Prop:=∀ u,u<k→NoLine zs n u (n*2)
theorem noLine_step {zs:List Int} {n u k:Nat} (h:NoLine zs n u k) (e:¬ LineOk zs n u k):NoLine zs n u (k+1):=by
 intro v hv;by_cases hk:v=k
 ·subst hk; exact e
 ·exact h v (by omega)
theorem noLines_step {zs:List Int} {n k:Nat} (h:NoLines zs n k) (e:NoLine zs n k (n*2)):NoLines zs n (k+1):=by
 intro v hv;by_cases hk:v=k
 ·subst hk; exact e
 ·exact h v (by omega)
theorem strB_of_line {zs:List Int} {n u v:Nat} (hA:archB zs n=true) (hu:u<n*2) (hv:v<n*2) (hx:pX zs u<pX zs v) (h:goodTo zs u v n=true):strB zs n=true :=
 strB_t hA (strI_of_strS ⟨u,v,by omega,by omega,hx,(goodTo_iff n).1 h⟩)
theorem strB_of_none {zs:List Int} {n:Nat} (hA:archB zs n=true) (h:NoLines zs n (n*2)):strB zs n=false :=
 strB_f2 fun hI=>by
  obtain ⟨u,v,hu,hv,hl⟩:=strS_of_strI (archB_x hA).1 (archB_x hA).2 hI;exact h u (by omega) v (by omega) hl
theorem sd_in {zs:List Int} (u v m:Nat):sd zs u v (2*m)=sideI (nth zs (u*2)) (nth zs (u*2+1)) (nth zs (v*2)) (nth zs (v*2+1)) (nth zs (m*4)) (nth zs (m*4+1)):=by
 unfold sd; rw [show 2*m*2=m*4 by omega]
theorem sd_out {zs:List Int} (u v m:Nat):sd zs u v (2*m+1)=sideI (nth zs (u*2)) (nth zs (u*2+1)) (nth zs (v*2)) (nth zs (v*2+1)) (nth zs (m*4+2)) (nth zs (m*4+3)):=by
 unfold sd; rw [show (2*m+1)*2=m*4+2 by omega]
theorem archB_corner {zs:List Int} {n:Nat} (h:archB zs n=true) {q:Nat} (hq:q<n*2):ptB (nth zs (q*2)) (nth zs (q*2+1))=true:=by
 have h1:=archB_pts h (q / 2) (by omega);rcases Nat.mod_two_eq_zero_or_one q with e | e
 ·rw [show q*2=q / 2*4 by omega]; exact h1.1
 ·rw [show q*2=q / 2*4+2 by omega]; exact h1.2
set_option maxRecDepth 100000 in
set_option maxHeartbeats 3200000 in
theorem sIsStraight_any (A:Option Addr) (n c:Nat) (zs:List Int) (w:World) (h:RecsAt w w.heap.size 4 A n zs) (hn:n≤1048576) :
  Calls Tryzx.prog 63 #[.agg #[.slice A n c]] w fun e w'=>e = .returned (.bool (strB zs n))∧Below w.heap.size w w':=by
 have b0:Below w.heap.size w (w.alloc (.cells #[.slice A n c] 32)):=(Below.refl _ _).alloc (Nat.le_refl _) _;have h1:=h.after b0;have bx0:Box (w.alloc (.cells #[.slice A n c] 32)) w.heap.size (.slice A n c):=Box.new _ _ _;cases hA:archB zs n
 ·have HF:=Lib.hid (strB_f1 hA)
  go_enter Tryzx.func63,Tryz.ntmps63;go_wp2_with fail
  refine (sArchOk_any _ _ _ zs _ h1 hn).mono ?_;rw [hA];rintro e w1 ⟨rfl,hb1⟩;go_wp2;go_ret;exact ⟨ret_bool HF.out.symm,below_then b0 hb1⟩
 ·have hn8:=(archB_out hA).1
  have HPT:=Lib.hid (archB_pts hA);have HLN:=Lib.hid h.1;obtain ⟨b,off,rfl,hbB,hcell⟩:=h.2 (by omega);have HC:=Lib.hid hcell;clear hcell;go_enter Tryzx.func63,Tryz.ntmps63;go_wp2_with fail
  refine (sArchOk_any _ _ _ zs _ h1 hn).mono ?_;rw [hA];rintro e W1 ⟨rfl,hb1⟩;have bx1:=bx0.after hb1;have cx1:=bx1.1;have hgl1:=bx1.2;have B1:=Lib.hid (below_then b0 hb1);have hbl:b<W1.heap.size:=by have:=B1.out.size; omega
  have HC1:Hid (∀ j,j<n→W1.cell? ⟨b,off+j*4,none⟩=some (.int .i64 (nth zs (j*4)))∧W1.cell? ⟨b,off+j*4+1,none⟩=some (.int .i64 (nth zs (j*4+1)))∧W1.cell? ⟨b,off+j*4+2,none⟩=some (.int .i64 (nth zs (j*4+2)))∧W1.cell? ⟨b,off+j*4+3,none⟩=some (.int .i64 (nth zs (j*4+3)))) :=
   fun j hj=>jtCells (fun i hi=>(B1.out.cell (by exact hbB)).trans (HC.out i hi)) hj
  have HO0:=Lib.hid (OwnR.new W1 98 2);have HB0:=Lib.hid ((Below.refl W1.heap.size W1).alloc (Nat.le_refl _) (.cells #[] 98));have HA':=Lib.hid hA;clear hb1 b0 h1 bx0 h HC hA bx1;go_wp2;go_loopw [3,4] (fun v i wr=>∃ k:Nat,k≤n∧i = .int .i64 k∧Hid (OwnR wr W1.heap.size 98 2 v (k*2) (zs.take (k*4)))∧Hid (Below W1.heap.size W1 wr)) (fun _ i _=>n - (intOf i).toNat)
  case atStart=>exact ⟨0,Nat.zero_le _,rfl,by simpa using HO0,HB0⟩
  case round =>
   clear HO0 HB0;obtain ⟨k,hk,rfl,HO,HB⟩:=hrel;have cxr:wr.cell? ⟨w.heap.size,0,none⟩=some (.slice (some ⟨b,off,none⟩) n c):=(HB.out.cell (by exact hgl1)).trans cx1;by_cases hlt:k<n
   ·have hq:=HC1.out k hlt
    have x0:wr.cell? ⟨b,off+k*4,none⟩=some (.int .i64 (nth zs (k*4))):=(HB.out.cell (by exact hbl)).trans hq.1;have x1:wr.cell? ⟨b,off+k*4+1,none⟩=some (.int .i64 (nth zs (k*4+1))):=(HB.out.cell (by exact hbl)).trans hq.2.1;have x2:wr.cell? ⟨b,off+k*4+2,none⟩=some (.int .i64 (nth zs (k*4+2))):=(HB.out.cell (by exact hbl)).trans hq.2.2.1;have x3:wr.cell? ⟨b,off+k*4+3,none⟩=some (.int .i64 (nth zs (k*4+3))):=(HB.out.cell (by exact hbl)).trans hq.2.2.2;have ki:(k:Int)<(n:Int):=by omega
    have k0:(0:Int)≤(k:Int):=by omega
    clear hq;go_wp2;have HU:=Lib.hid (take_4 HLN.out hlt);go_region_law (refine step_appR rfl (.tmp 22) (.tmp 35) 121 rfl W1.heap.size 98 2 16 #[.int .i64 0,.int .i64 0] Tryzx.underlying121 infoPoint2 rfl (by decide) (by decide) _ (k*2) (zs.take (k*4)) rfl (by exact HO.out.alloc _) wr.heap.size 2 2 [nth zs (k*4),nth zs (k*4+1),nth zs (k*4+2),nth zs (k*4+3)] rfl rfl (by exact cell_new4 _ _ _ _ _ _) (by omega) W1.heap.size W1 (by exact (HB.out.alloc HB.out.size _).drew) (Nat.le_refl _) (by have:=HB.out.size; simp; omega) _ HU.out (by omega) ?_; intro g' cap' w3 hown3 hb3);all_goals
     go_wp2;go_roundw
     case rel=>exact ⟨k+1,by omega,by go_num,by rw [show (k+1)*2=k*2+2 by omega]; exact hown3,hb3⟩
     case measure=>simp [intOf]; omega
   ·obtain rfl:n=k:=by omega
    have HR:Hid (OwnR wr W1.heap.size 98 2 u3 (n*2) zs):=by
     have h:=HO.out;rw [List.take_of_length_le (by have:=HLN.out; omega)] at h
     exact h
    obtain ⟨N,g,cap,HN,rfl,hrow⟩:∃ N g cap,Hid (N=n*2)∧u3 = .slice (some ⟨g,0,none⟩) N cap∧RowF wr g 98 (n*2*2) (ints zs):=by
     rcases HR.out.form with ⟨_,h2,_⟩ | ⟨g,cap,h1,_,_,h4⟩
     ·omega
     ·exact ⟨n*2,g,cap,Lib.hid rfl,h1,h4⟩
    have HP:Hid (∀ q,q<N→wr.cell? ⟨g,q*2,none⟩=some (.int .i64 (nth zs (q*2)))∧wr.cell? ⟨g,q*2+1,none⟩=some (.int .i64 (nth zs (q*2+1)))) :=
     fun q hq=>by have:=HN.out; exact ⟨hrow.cell (by omega),hrow.cell (by omega)⟩
    have hgW:g<wr.heap.size:=hrow.lt;have HJ:Hid (∀ j,j<n→wr.cell? ⟨b,off+j*4,none⟩=some (.int .i64 (nth zs (j*4)))∧wr.cell? ⟨b,off+j*4+1,none⟩=some (.int .i64 (nth zs (j*4+1)))∧wr.cell? ⟨b,off+j*4+2,none⟩=some (.int .i64 (nth zs (j*4+2)))∧wr.cell? ⟨b,off+j*4+3,none⟩=some (.int .i64 (nth zs (j*4+3)))) :=
     fun j hj=>by
      have hq:=HC1.out j hj;exact ⟨(HB.out.cell (by exact hbl)).trans hq.1,(HB.out.cell (by exact hbl)).trans hq.2.1,(HB.out.cell (by exact hbl)).trans hq.2.2.1,(HB.out.cell (by exact hbl)).trans hq.2.2.2⟩
    have hN16:N≤16:=by have:=HN.out; omega
    have BW:=Lib.hid (B1.out.trans (HB.out.mono B1.out.size));have hgw:w.heap.size<wr.heap.size:=by have:=HB.out.size; omega
    have hbw:b<wr.heap.size:=by have:=HB.out.size; omega
    have HPC:Hid (∀ q,q<N→ptB (nth zs (q*2)) (nth zs (q*2+1))=true):=fun q hq=>archB_corner HA'.out (by have:=HN.out; omega)
    have HTL:Hid (∀ u v,u<N→v<N→pX zs u<pX zs v→goodTo zs u v n=true→strB zs n=true):=fun u v hu hv=>strB_of_line HA'.out (by have:=HN.out; omega) (by have:=HN.out; omega)
    have HTN:Hid (NoLines zs n N→strB zs n=false):=fun h=>strB_of_none HA'.out (by rw [← HN.out]; exact h)
    have HL0:Hid (NoLines zs n 0):=fun u hu=>absurd hu (by omega)
    have HNS:Hid (∀ k,NoLines zs n k→NoLine zs n k N→NoLines zs n (k+1)):=fun k h1 h2=>noLines_step h1 (by rw [← HN.out]; exact h2)
    clear HR hrow HO HC1 HA' B1 HLN hk hlt hbB hgl1 hbl cx1;obtain ⟨W2,rfl⟩:∃ W2:World,W2=wr:=⟨_,rfl⟩;go_wp2;go_loopw [5] (fun i wr=>∃ u:Nat,u≤N∧i = .int .i64 u∧Hid (NoLines zs n u)∧Hid (Below W2.heap.size W2 wr)) (fun i _=>N - (intOf i).toNat)
    case atStart=>exact ⟨0,Nat.zero_le _,rfl,HL0,Lib.hid (Below.refl _ _)⟩
    case round =>
     clear HL0 HB;obtain ⟨i,hi,rfl,HL,HB⟩:=hrel;by_cases hlt:i<N
     ·have HV0:Hid (NoLine zs n i 0):=fun u hu=>absurd hu (by omega)
      go_wp2;go_loopw [6] (fun k wr=>∃ v:Nat,v≤N∧k = .int .i64 v∧Hid (NoLine zs n i v)∧Hid (Below W2.heap.size W2 wr)) (fun k _=>N - (intOf k).toNat)
      case atStart=>exact ⟨0,Nat.zero_le _,rfl,HV0,HB⟩
      case round =>
       clear HV0 HB;obtain ⟨k,hk,rfl,HV,HB⟩:=hrel;by_cases hlk:k<N
       ·have p0:=(HB.out.cell (p:=⟨g,i*2,none⟩) hgW).trans (HP.out i hlt).1
        have p1:=(HB.out.cell (p:=⟨g,i*2+1,none⟩) hgW).trans (HP.out i hlt).2;have q0:=(HB.out.cell (p:=⟨g,k*2,none⟩) hgW).trans (HP.out k hlk).1;have q1:=(HB.out.cell (p:=⟨g,k*2+1,none⟩) hgW).trans (HP.out k hlk).2;have hz:=HB.out.size;have hgr:g<wr.heap.size:=by omega
        have hB2:=Lib.hid ((HB.out.alloc hz (.cells #[.int .i64 (nth zs (i*2)),.int .i64 (nth zs (i*2+1))] 98)).alloc (by simp; omega) (.cells #[.int .i64 (nth zs (k*2)),.int .i64 (nth zs (k*2+1))] 98))
        by_cases hx:nth zs (k*2)≤nth zs (i*2)
        ·have HS:=Lib.hid (noLine_step HV.out (fun hl=>by have:=hl.1; unfold pX at this; omega))
         go_wp2;go_roundw
         case rel=>exact ⟨k+1,by omega,by go_num,HS,hB2⟩
         case measure=>simp [intOf]; omega
        ·have BX1:Box2 ((wr.alloc (.cells #[.int .i64 (nth zs (i*2)),.int .i64 (nth zs (i*2+1))] 98)).alloc (.cells #[.int .i64 (nth zs (k*2)),.int .i64 (nth zs (k*2+1))] 98)) wr.heap.size (.int .i64 (nth zs (i*2))) (.int .i64 (nth zs (i*2+1))):=(Box2.new _ _ _ _).after ((Below.refl _ _).alloc (Nat.le_refl _) _)
         have BX2:Box2 ((wr.alloc (.cells #[.int .i64 (nth zs (i*2)),.int .i64 (nth zs (i*2+1))] 98)).alloc (.cells #[.int .i64 (nth zs (k*2)),.int .i64 (nth zs (k*2+1))] 98)) (wr.heap.size+1) (.int .i64 (nth zs (k*2))) (.int .i64 (nth zs (k*2+1))):=by
          have h:=Box2.new (wr.alloc (.cells #[.int .i64 (nth zs (i*2)),.int .i64 (nth zs (i*2+1))] 98)) (.int .i64 (nth zs (k*2))) (.int .i64 (nth zs (k*2+1))) 98;rw [World.size_alloc] at h;exact h
         have HBX:=Lib.hid (And.intro BX1 BX2);clear BX1 BX2;have HTT:Hid (goodTo zs i k n=true→strB zs n=true):=HTL.out i k hlt hlk (by unfold pX; omega)
         have HNX:Hid (goodTo zs i k n=false→NoLine zs n i (k+1)):=fun hf=>noLine_step HV.out (fun hl=>by have:=(goodTo_iff n).2 hl.2; rw [hf] at this; cases this)
         obtain ⟨wk,rfl⟩:∃ wk:World,wk=wr:=⟨_,rfl⟩;go_wp2;go_loopw [9,10] (fun v9 v10 wr=>∃ (m:Nat) (gd:Bool),m≤n∧v10 = .int .i64 m∧v9 = .bool gd∧Hid (goodTo zs i k m=gd)∧Hid (Box2 wr wk.heap.size (.int .i64 (nth zs (i*2))) (.int .i64 (nth zs (i*2+1)))∧Box2 wr (wk.heap.size+1) (.int .i64 (nth zs (k*2))) (.int .i64 (nth zs (k*2+1))))∧Hid (Below W2.heap.size W2 wr)) (fun _ v10 _=>n - (intOf v10).toNat)
         case atStart=>exact ⟨0,true,Nat.zero_le _,rfl,rfl,Lib.hid rfl,HBX,hB2⟩
         case round =>
          clear HBX hB2 HB p0 p1 q0 q1 hz hgr;obtain ⟨m,gd,hm,rfl,rfl,HG,HBX,HB⟩:=hrel;have hz:=HB.out.size;have cxm:wr.cell? ⟨w.heap.size,0,none⟩=some (.slice (some ⟨b,off,none⟩) n c):=(HB.out.cell (by exact hgw)).trans cxr;by_cases hlm:m<n
          ·have hq:=HJ.out m hlm
           have j0:=(HB.out.cell (p:=⟨b,off+m*4,none⟩) hbw).trans hq.1;have j1:=(HB.out.cell (p:=⟨b,off+m*4+1,none⟩) hbw).trans hq.2.1;have j2:=(HB.out.cell (p:=⟨b,off+m*4+2,none⟩) hbw).trans hq.2.2.1;have j3:=(HB.out.cell (p:=⟨b,off+m*4+3,none⟩) hbw).trans hq.2.2.2;have u0:=HBX.out.1.1;have u1:=HBX.out.1.2.1;have ul:=HBX.out.1.2.2;have v0:=HBX.out.2.1;have v1:=HBX.out.2.2.1;have vl:=HBX.out.2.2.2;have hpu:=HPC.out i hlt;have hpv:=HPC.out k hlk;have hpj:=HPT.out m hlm;have hpj1:=hpj.1;have hpj2:=hpj.2;have SI:=Lib.hid (sd_in (zs:=zs) i k m);have SO:=Lib.hid (sd_out (zs:=zs) i k m);have ki:(m:Int)<(n:Int):=by omega
           have k0:(0:Int)≤(m:Int):=by omega
           have HBr:Hid (b<wr.heap.size∧w.heap.size<wr.heap.size):=⟨by omega,by omega⟩;clear hq hpj;cases gd
           ·have HG':Hid (goodTo zs i k (m+1)=false):=by show (goodTo zs i k m && _)=false; rw [HG.out]; rfl
            go_wp2;refine wp_region_held_drew (S:=fun _=>True) (by kernel_rfl) (by trivial) (fun hHeld => ?_);refine take_heldS (i:=0) (d:=69) rfl rfl ?_;try simp only [Act.put,ly3]
            refine take_heldS (i:=1) (d:=70) rfl rfl ?_;try simp only [Act.put,ly3]
            refine skip_heldS (i:=2) (d:=71) rfl rfl ?_;try simp only [Act.put,ly3]
            refine skip_heldS (i:=3) (d:=72) rfl rfl ?_;try simp only [Act.put,ly3]
            refine skip_heldS (i:=4) (d:=73) rfl rfl ?_;try simp only [Act.put,ly3]
            refine skip_heldS (i:=5) (d:=74) rfl rfl ?_;try simp only [Act.put,ly3]
            refine skip_heldS (i:=6) (d:=75) rfl rfl ?_;try simp only [Act.put,ly3]
            refine skip_heldS (i:=7) (d:=76) rfl rfl ?_;try simp only [Act.put,ly3]
            refine skip_heldS (i:=8) (d:=77) rfl rfl ?_;try simp only [Act.put,ly3]
            refine skip_heldS (i:=9) (d:=78) rfl rfl ?_;try simp only [Act.put,ly3]
            refine skip_heldS (i:=10) (d:=79) rfl rfl ?_;try simp only [Act.put,ly3]
            refine skip_heldS (i:=11) (d:=80) rfl rfl ?_;try simp only [Act.put,ly3]
            refine take_heldS (i:=12) (d:=81) (v:=(.bool false)) rfl rfl ?_;try simp only [Act.put,ly3]
            refine take_heldS (i:=13) (d:=82) (v:=(.bool false)) rfl rfl ?_;try simp only [Act.put,ly3]
            refine skip_heldS (i:=14) (d:=83) rfl rfl ?_;try simp only [Act.put,ly3]
            refine skip_heldS (i:=15) (d:=84) rfl rfl ?_;try simp only [Act.put,ly3]
            refine skip_heldS (i:=16) (d:=85) rfl rfl ?_;try simp only [Act.put,ly3]
            refine skip_heldS (i:=17) (d:=86) rfl rfl ?_;try simp only [Act.put,ly3]
            refine skip_heldS (i:=18) (d:=87) rfl rfl ?_;try simp only [Act.put,ly3]
            refine skip_heldS (i:=19) (d:=88) rfl rfl ?_;try simp only [Act.put,ly3]
            refine skip_heldS (i:=20) (d:=89) rfl rfl ?_;try simp only [Act.put,ly3]
            refine skip_heldS (i:=21) (d:=90) rfl rfl ?_;try simp only [Act.put,ly3]
            refine skip_heldS (i:=22) (d:=91) rfl rfl ?_;try simp only [Act.put,ly3]
            refine skip_heldS (i:=23) (d:=92) rfl rfl ?_;try simp only [Act.put,ly3]
            refine take_heldS (i:=24) (d:=93) rfl rfl ?_;try simp only [Act.put,ly3]
            refine take_heldS (i:=25) (d:=9) rfl rfl ?_;try simp only [Act.put,ly3]
            refine wpAnyH_done (by kernel_rfl) ?_ _;go_wp2;go_roundw
            case rel=>exact ⟨m+1,false,by omega,by go_num,rfl,HG',HBX,Lib.hid HB.out.drew⟩
            case measure=>simp [intOf]; omega
           ·have HGT:Hid (∀ r,gdB zs i k m=r→goodTo zs i k (m+1)=r):=fun r hr=>by rw [goodTo,HG.out,hr]; rfl
            by_cases h1:sideI (nth zs (i*2)) (nth zs (i*2+1)) (nth zs (k*2)) (nth zs (k*2+1)) (nth zs (m*4)) (nth zs (m*4+1))≤0
            ·have HG':=Lib.hid (HGT.out (decide (0≤sideI (nth zs (i*2)) (nth zs (i*2+1)) (nth zs (k*2)) (nth zs (k*2+1)) (nth zs (m*4+2)) (nth zs (m*4+3)))) (by unfold gdB; rw [SI.out,SO.out]; simp [h1]))
             clear hx;go_wp2;go_region_held3 (fun w'=>w'.cell? ⟨w.heap.size,0,none⟩=some (.slice (some ⟨b,off,none⟩) n c)∧(w'.cell? ⟨wk.heap.size,0,none⟩=some (.int .i64 (nth zs (i*2)))∧w'.cell? ⟨wk.heap.size,1,none⟩=some (.int .i64 (nth zs (i*2+1))))∧(w'.cell? ⟨wk.heap.size+1,0,none⟩=some (.int .i64 (nth zs (k*2)))∧w'.cell? ⟨wk.heap.size+1,1,none⟩=some (.int .i64 (nth zs (k*2+1))))∧(w'.cell? ⟨b,off+m*4,none⟩=some (.int .i64 (nth zs (m*4)))∧w'.cell? ⟨b,off+m*4+1,none⟩=some (.int .i64 (nth zs (m*4+1)))∧w'.cell? ⟨b,off+m*4+2,none⟩=some (.int .i64 (nth zs (m*4+2)))∧w'.cell? ⟨b,off+m*4+3,none⟩=some (.int .i64 (nth zs (m*4+3))))) ((first | (simp [*]; done) | (refine ⟨?_,⟨?_,?_⟩,⟨?_,?_⟩,⟨?_,?_,?_,?_⟩⟩ <;> (rw [hcc _ _ (by first | omega | (simp <;> omega))]; simp [*])))) ((first | ((with_reducible refine (l02Side_any _ _ _ _ _ _ _ hpu hpv hpj1).mono ?_); rintro e w1 ⟨rfl,hb1⟩; obtain ⟨hcc,hff⟩:=bcell hb1; have hz1:=hb1.size; try simp at hz1) | ((with_reducible refine (l02Side_any _ _ _ _ _ _ _ hpu hpv hpj2).mono ?_); rintro e w2 ⟨rfl,hb2⟩; have hcc1:=hcc; clear hcc; obtain ⟨hcc2,hff2⟩:=bcell hb2; have hz2:=hb2.size; have hcc:∀ b o,b<wr.heap.size→w2.cell? ⟨b,o,none⟩=wr.cell? ⟨b,o,none⟩:=fun b o h=>(hcc2 b o (by omega)).trans (hcc1 b o (by simp; omega)))))
             have HB3:=Lib.hid ((HB.out.drew.trans (hb1.mono (by simp; omega))).trans (hb2.mono (by omega)))
             have HBX3:Hid (Box2 w2 wk.heap.size (.int .i64 (nth zs (i*2))) (.int .i64 (nth zs (i*2+1)))∧Box2 w2 (wk.heap.size+1) (.int .i64 (nth zs (k*2))) (.int .i64 (nth zs (k*2+1)))) :=
              ⟨((show Box2 wr.drew _ _ _ from HBX.out.1).after hb1).after hb2,((show Box2 wr.drew _ _ _ from HBX.out.2).after hb1).after hb2⟩
             clear hcc hcc1 hcc2 hff hff2 hb1 hb2;go_wp2;go_roundw
             case rel=>exact ⟨m+1,_,by omega,by go_num,rfl,HG',HBX3,HB3⟩
             case measure=>simp [intOf]; omega
            ·have HG':=Lib.hid (HGT.out false (by unfold gdB; rw [SI.out]; simp [h1]))
             have hd1:decide (sideI (nth zs (i*2)) (nth zs (i*2+1)) (nth zs (k*2)) (nth zs (k*2+1)) (nth zs (m*4)) (nth zs (m*4+1))≤0)=false:=decide_eq_false h1;clear hx;go_wp2;refine wp_region_held_drew (S:=fun w'=>w'.cell? ⟨w.heap.size,0,none⟩=some (.slice (some ⟨b,off,none⟩) n c)∧(w'.cell? ⟨wk.heap.size,0,none⟩=some (.int .i64 (nth zs (i*2)))∧w'.cell? ⟨wk.heap.size,1,none⟩=some (.int .i64 (nth zs (i*2+1))))∧(w'.cell? ⟨wk.heap.size+1,0,none⟩=some (.int .i64 (nth zs (k*2)))∧w'.cell? ⟨wk.heap.size+1,1,none⟩=some (.int .i64 (nth zs (k*2+1))))∧(w'.cell? ⟨b,off+m*4,none⟩=some (.int .i64 (nth zs (m*4)))∧w'.cell? ⟨b,off+m*4+1,none⟩=some (.int .i64 (nth zs (m*4+1)))∧w'.cell? ⟨b,off+m*4+2,none⟩=some (.int .i64 (nth zs (m*4+2)))∧w'.cell? ⟨b,off+m*4+3,none⟩=some (.int .i64 (nth zs (m*4+3))))) (by kernel_rfl) (by (first | (simp [*]; done) | (refine ⟨?_,⟨?_,?_⟩,⟨?_,?_⟩,⟨?_,?_,?_,?_⟩⟩ <;> (rw [hcc _ _ (by first | omega | (simp <;> omega))]; simp [*])))) (fun hHeld => ?_);refine take_heldS (i:=0) (d:=69) rfl rfl ?_;try simp only [Act.put,ly3]
             refine take_heldS (i:=1) (d:=70) rfl rfl ?_;try simp only [Act.put,ly3]
             refine take_heldS (i:=2) (d:=71) rfl rfl ?_;try simp only [Act.put,ly3]
             refine take_heldS (i:=3) (d:=72) rfl rfl ?_;try simp only [Act.put,ly3]
             refine take_heldS (i:=4) (d:=73) rfl rfl ?_;try simp only [Act.put,ly3]
             refine take_heldS (i:=5) (d:=74) rfl rfl ?_;try simp only [Act.put,ly3]
             refine take_heldS (i:=6) (d:=75) rfl rfl ?_;try simp only [Act.put,ly3]
             refine take_heldS (i:=7) (d:=76) rfl rfl ?_;try simp only [Act.put,ly3]
             refine take_heldS (i:=8) (d:=77) rfl rfl ?_;try simp only [Act.put,ly3]
             refine take_heldS (i:=9) (d:=78) rfl rfl ?_;try simp only [Act.put,ly3]
             refine wpAnyH_ready (rs := [10]) (by kernel_rfl) (by simp) ?_;refine AllReadyH.cons rfl (fun K hK => ?_) AllReadyH.nil;go_simp
             (with_reducible refine (l02Side_any _ _ _ _ _ _ _ hpu hpv hpj1).mono ?_); rintro e w1 ⟨rfl,hb1⟩; obtain ⟨hcc,hff⟩:=bcell hb1; have hz1:=hb1.size; try simp at hz1
             refine hK.out _ _ (by (first | (simp [*]; done) | (refine ⟨?_,⟨?_,?_⟩,⟨?_,?_⟩,⟨?_,?_,?_,?_⟩⟩ <;> (rw [hcc _ _ (by first | omega | (simp <;> omega))]; simp [*])))) (fun hHeld => ?_);clear hK K;try simp only [Act.put,ly3]
             refine take_heldS (i:=11) (d:=80) (v:=(.bool false)) rfl rfl ?_;try simp only [Act.put,ly3]
             refine take_heldS (i:=12) (d:=81) (v:=(.bool false)) rfl rfl ?_;try simp only [Act.put,ly3]
             refine take_heldS (i:=13) (d:=82) (v:=(.bool false)) rfl rfl ?_;try simp only [Act.put,ly3]
             refine skip_heldS (i:=14) (d:=83) rfl rfl ?_;try simp only [Act.put,ly3]
             refine skip_heldS (i:=15) (d:=84) rfl rfl ?_;try simp only [Act.put,ly3]
             refine skip_heldS (i:=16) (d:=85) rfl rfl ?_;try simp only [Act.put,ly3]
             refine skip_heldS (i:=17) (d:=86) rfl rfl ?_;try simp only [Act.put,ly3]
             refine skip_heldS (i:=18) (d:=87) rfl rfl ?_;try simp only [Act.put,ly3]
             refine skip_heldS (i:=19) (d:=88) rfl rfl ?_;try simp only [Act.put,ly3]
             refine skip_heldS (i:=20) (d:=89) rfl rfl ?_;try simp only [Act.put,ly3]
             refine skip_heldS (i:=21) (d:=90) rfl rfl ?_;try simp only [Act.put,ly3]
             refine skip_heldS (i:=22) (d:=91) rfl rfl ?_;try simp only [Act.put,ly3]
             refine skip_heldS (i:=23) (d:=92) rfl rfl ?_;try simp only [Act.put,ly3]
             refine take_heldS (i:=24) (d:=93) rfl rfl ?_;try simp only [Act.put,ly3]
             refine take_heldS (i:=25) (d:=9) rfl rfl ?_;try simp only [Act.put,ly3]
             refine wpAnyH_done (by kernel_rfl) ?_ _;have HB3:=Lib.hid (HB.out.drew.trans (hb1.mono (by simp; omega)))
             have HBX3:Hid (Box2 w1 wk.heap.size (.int .i64 (nth zs (i*2))) (.int .i64 (nth zs (i*2+1)))∧Box2 w1 (wk.heap.size+1) (.int .i64 (nth zs (k*2))) (.int .i64 (nth zs (k*2+1)))) :=
              ⟨(show Box2 wr.drew _ _ _ from HBX.out.1).after hb1,(show Box2 wr.drew _ _ _ from HBX.out.2).after hb1⟩
             clear hcc hff hb1 hHeld;go_wp2;go_roundw
             case rel=>exact ⟨m+1,false,by omega,by go_num,rfl,HG',HBX3,HB3⟩
             case measure=>simp [intOf]; omega
          ·obtain rfl:n=m:=by omega
           cases gd
           ·have HS:=Lib.hid (HNX.out HG.out)
            go_wp2;go_roundw
            case rel=>exact ⟨k+1,by omega,by go_num,HS,HB⟩
            case measure=>simp [intOf]; omega
           ·have HS:=Lib.hid (HTT.out HG.out)
            go_wp2;go_ret;exact ⟨ret_bool HS.out.symm,BW.out.trans (HB.out.mono BW.out.size)⟩
       ·obtain rfl:N=k:=by omega
        have HS:=Lib.hid (HNS.out i HL.out HV.out);go_wp2;go_roundw
        case rel=>exact ⟨i+1,by omega,by go_num,HS,HB⟩
        case measure=>simp [intOf]; omega
     ·obtain rfl:N=i:=by omega
      have HF:=Lib.hid (HTN.out HL.out);go_wp2;go_ret;exact ⟨ret_bool HF.out.symm,BW.out.trans (HB.out.mono BW.out.size)⟩
end X
end Go.Proofs.YtodneggnnipcnaaGreat
