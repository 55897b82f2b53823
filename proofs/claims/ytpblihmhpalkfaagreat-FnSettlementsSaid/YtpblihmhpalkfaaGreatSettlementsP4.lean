/-
  Texts that the law stands on, part 4.
-/
import Derived.Test.YtpblihmhpalkfaaGreatSettlementsP1
import Derived.Test.YtpblihmhpalkfaaGreatSettlementsP2
import Derived.Test.YtpblihmhpalkfaaGreatSettlementsP3
import Derived.Test.YtpblihmhpalkfaaGreatJ10
import Derived.Test.YtpblihmhpalkfaaGreatJ17
import Derived.Test.YtpblihmhpalkfaaGreatJ18
import Derived.Test.YtpblihmhpalkfaaGreatJ20
import Derived.Test.YtpblihmhpalkfaaGreatJ21
set_option maxRecDepth 100000
set_option linter.unusedVariables false
set_option linter.unusedSimpArgs false
namespace Go.Proofs.YtpblihmhpalkfaaGreat
namespace X
open Go.RowKit
def lfB (zs:List Int) (n:Nat) (ls:List Int) (q:Nat) (k:Int):Bool:=loadsB zs n ls q && inB k 0 ((n:Int) - 1)
def lfW (zs:List Int) (n:Nat) (ls:List Int) (q:Nat) (k:Int):Int:=if lfB zs n ls q k=true then leftW zs ls q k.toNat else 0
def lfM (zs:List Int) (n:Nat) (ls:List Int) (q:Nat) (k:Int):Int:=if lfB zs n ls q k=true then leftM zs ls q k.toNat else 0
theorem lf_f {zs:List Int} {n:Nat} {ls:List Int} {q:Nat} {k:Int} (h:lfB zs n ls q k=false):lfW zs n ls q k=0∧lfM zs n ls q k=0:=by simp [lfW,lfM,h]
theorem lf_t {zs:List Int} {n:Nat} {ls:List Int} {q k:Nat} (h:lfB zs n ls q (k:Int)=true):lfW zs n ls q (k:Int)=leftW zs ls q k∧lfM zs n ls q (k:Int)=leftM zs ls q k:=by simp [lfW,lfM,h]
theorem lfB_1 {zs:List Int} {n:Nat} {ls:List Int} {q:Nat} (k:Int) (h:loadsB zs n ls q=false):lfB zs n ls q k=false:=by simp [lfB,h]
theorem lfB_2 (zs:List Int) {n:Nat} (ls:List Int) (q:Nat) {k:Int} (h:inB k 0 ((n:Int) - 1)=false):lfB zs n ls q k=false:=by simp [lfB,h]
theorem lfB_t {zs:List Int} {n:Nat} {ls:List Int} {q:Nat} {k:Int} (h:loadsB zs n ls q=true) (h2:inB k 0 ((n:Int) - 1)=true):lfB zs n ls q k=true:=by simp [lfB,h,h2]
theorem rowF_new2 (w:World) (a b:Int) (T:TypeId):RowF (w.alloc (.cells #[.int .i64 a,.int .i64 b] T)) w.heap.size T 2 (ints [a,b]) :=
 RowF.of_row (World.rowIs_alloc w #[.int .i64 a,.int .i64 b] T _ (fun j hj=>by simp at hj; match j,hj with | 0,_=>rfl | 1,_=>rfl))
theorem rowF_set2 {w:World} {g:Nat} {T:TypeId} {a b:Int} (h:RowF w g T 2 (ints [a,b])) (a' b':Int):RowF ((w.setCell ⟨g,0,none⟩ (.int .i64 a')).setCell ⟨g,1,none⟩ (.int .i64 b')) g T 2 (ints [a',b']) :=
 ((h.set 0 (.int .i64 a')).set 1 (.int .i64 b')).congr (fun i hi=>by match i,hi with | 0,_=>rfl | 1,_=>rfl)
structure LeftStart (w wr:World) (v:Value) (a b:Int):Prop where
 box:Box wr w.heap.size v
 res:RowF wr (w.heap.size+1) 143 2 (ints [0,0])
 sum:RowF wr (w.heap.size+2) 143 2 (ints [a,b])
 below:Below w.heap.size w wr
theorem LeftStart.after {w wr w2:World} {v:Value} {a b:Int} (h:LeftStart w wr v a b) (hb:Below wr.heap.size wr w2):LeftStart w w2 v a b:=⟨h.box.after hb,h.res.after hb,h.sum.after hb,h.below.trans (hb.mono h.below.size)⟩
theorem LeftStart.set {w wr:World} {v:Value} {a b:Int} (h:LeftStart w wr v a b) (a' b':Int):LeftStart w ((wr.setCell ⟨w.heap.size+2,0,none⟩ (.int .i64 a')).setCell ⟨w.heap.size+2,1,none⟩ (.int .i64 b')) v a' b' :=
 ⟨⟨(World.cell?_setCell_far _ _ _ _ (by simp)).trans ((World.cell?_setCell_far _ _ _ _ (by simp)).trans h.box.1),by have:=h.box.2; simpa using this⟩,(h.res.set_other (by simp) _).set_other (by simp) _,rowF_set2 h.sum a' b',(h.below.setCell (by simp) _).setCell (by simp) _⟩
theorem leftStart (w:World) (v:Value) (T:TypeId):LeftStart w (((w.alloc (.cells #[v] T)).alloc (.cells #[.int .i64 0,.int .i64 0] 143)).alloc (.cells #[.int .i64 0,.int .i64 0] 143)) v 0 0:=by
 refine ⟨((Box.new w v T).alloc _).alloc _,?_,?_,(((Below.refl _ _).alloc (Nat.le_refl _) _).alloc (by simp) _).alloc (by simp; omega) _⟩
 ·have h:=(rowF_new2 (w.alloc (.cells #[v] T)) 0 0 143).alloc (.cells #[.int .i64 0,.int .i64 0] 143)
  rw [World.size_alloc] at h;exact h
 ·have h:=rowF_new2 ((w.alloc (.cells #[v] T)).alloc (.cells #[.int .i64 0,.int .i64 0] 143)) 0 0 143
  rw [World.size_alloc,World.size_alloc] at h;exact h
set_option maxRecDepth 100000 in
set_option maxHeartbeats 1600000 in
theorem leftOf_any (A:Option Addr) (n c:Nat) (zs:List Int) (B:Option Addr) (q d:Nat) (ls:List Int) (k:Int) (w:World) (h:RecsAt w w.heap.size 4 A n zs) (hn:n≤1048576) (hl:RecsAt w w.heap.size 3 B q ls) (hq:q≤1048576) :
  Calls Tryzx.prog 109 #[.agg #[.slice A n c],.slice B q d,.int .i64 k] w fun e w'=>e = .returned (.agg #[.int .i64 (lfW zs n ls q k),.int .i64 (lfM zs n ls q k)])∧Below w.heap.size w w':=by
 have ST:=leftStart w (.slice A n c) 26;have h0:=((h.alloc (Nat.le_refl _) (.cells #[.slice A n c] 26)).mono (B':=(w.alloc (.cells #[.slice A n c] 26)).heap.size) (by simp));have h1:=(h0.after ((Below.refl _ _).alloc (Nat.le_refl _) (.cells #[.int .i64 0,.int .i64 0] 143))).after ((Below.refl _ _).alloc (Nat.le_refl _) (.cells #[.int .i64 0,.int .i64 0] 143));have l0:=((hl.alloc (Nat.le_refl _) (.cells #[.slice A n c] 26)).mono (B':=(w.alloc (.cells #[.slice A n c] 26)).heap.size) (by simp));have l1:=(l0.after ((Below.refl _ _).alloc (Nat.le_refl _) (.cells #[.int .i64 0,.int .i64 0] 143))).after ((Below.refl _ _).alloc (Nat.le_refl _) (.cells #[.int .i64 0,.int .i64 0] 143));have HST:=Lib.hid ST;clear h0 l0 h hl ST;cases hL:loadsB zs n ls q
 ·have HF:=Lib.hid (lf_f (lfB_1 k hL))
  go_enter Tryzx.func109,Tryz.ntmps109;go_wp2_with fail
  refine (iLoadsOk_any _ _ _ zs _ _ _ ls _ h1 hn l1 hq).mono ?_;rw [hL];rintro e w1 ⟨rfl,hb1⟩;have HS1:=Lib.hid (HST.out.after hb1);have c0:=HS1.out.sum.cell (i:=0) (by omega);have c1:=HS1.out.sum.cell (i:=1) (by omega);have d0:=HS1.out.res.cell (i:=0) (by omega);have d1:=HS1.out.res.cell (i:=1) (by omega);have f0:=HS1.out.res.frozen 0;have f1:=HS1.out.res.frozen 1;have r0:ints [0,0] 0 = .int .i64 0:=rfl;have r1:ints [0,0] 1 = .int .i64 0:=rfl;rw [r0] at c0 d0;rw [r1] at c1 d1;clear hb1 r0 r1;go_wp2;refine bodyPost_ret (v := .agg #[.int .i64 0,.int .i64 0]) (by simp [results,Tryz.results109,go_sem, *]) rfl ⟨by rw [HF.out.1,HF.out.2],?_⟩;exact (HS1.out.below.setCell (p:=⟨w.heap.size+1,0,none⟩) (by simp) _).setCell (p:=⟨w.heap.size+1,1,none⟩) (by simp) _
 ·obtain ⟨hA,hq6,hLA⟩:=loadsB_out hL
  have hn8:=(archB_out hA).1;have e1:IntKind.i64.wrap ((n:Int) - 1)=(n:Int) - 1:=IntWalk.i64_in _ (by omega);clear hA hLA;cases hK:inB k 0 ((n:Int) - 1)
  ·have HF:=Lib.hid (lf_f (lfB_2 zs ls q hK))
   go_enter Tryzx.func109,Tryz.ntmps109;go_wp2_with fail
   refine (iLoadsOk_any _ _ _ zs _ _ _ ls _ h1 hn l1 hq).mono ?_;rw [hL];rintro e w1 ⟨rfl,hb1⟩;have HS1:=Lib.hid (HST.out.after hb1);have c0:=HS1.out.sum.cell (i:=0) (by omega);have c1:=HS1.out.sum.cell (i:=1) (by omega);have d0:=HS1.out.res.cell (i:=0) (by omega);have d1:=HS1.out.res.cell (i:=1) (by omega);have f0:=HS1.out.res.frozen 0;have f1:=HS1.out.res.frozen 1;have r0:ints [0,0] 0 = .int .i64 0:=rfl;have r1:ints [0,0] 1 = .int .i64 0:=rfl;have bx:=HS1.out.box.1;rw [r0] at c0 d0;rw [r1] at c1 d1;clear hb1 r0 r1;go_wp2_with (go_at_call 76; refine (within_any _ _ _ _).mono ?_; rw [hK]; rintro e w' ⟨rfl,rfl⟩);refine bodyPost_ret (v := .agg #[.int .i64 0,.int .i64 0]) (by simp [results,Tryz.results109,go_sem, *]) rfl ⟨by rw [HF.out.1,HF.out.2],?_⟩;exact (HS1.out.below.setCell (p:=⟨w.heap.size+1,0,none⟩) (by simp) _).setCell (p:=⟨w.heap.size+1,1,none⟩) (by simp) _
  ·have hk:=inB_iff.1 hK
   obtain ⟨K,rfl⟩:∃ K:Nat,k=(K:Int):=⟨k.toNat,by omega⟩;have HT:=Lib.hid (lf_t (lfB_t hL hK));obtain ⟨m,rfl⟩:∃ m,n=m+1:=⟨n - 1,by omega⟩;have hKm:K≤m:=by omega
   have HWB:=Lib.hid (leftW_bd zs (loadsB_out hL).2.2 hq6);have HMB:=Lib.hid (leftM_bd zs (loadsB_out hL).2.2 hq6);have HKB:=Lib.hid (fun k=>kwTo_bd zs (loadsB_out hL).2.2 hq6 k (Nat.le_refl q));have HNB:=Lib.hid (fun k=>kmTo_bd zs (loadsB_out hL).2.2 hq6 k (Nat.le_refl q));have hK':inB (K:Int) 0 (m:Int)=true:=inB_t (by omega);clear hk hK;go_enter Tryzx.func109,Tryz.ntmps109;go_wp2_with fail
   refine (iLoadsOk_any _ _ _ zs _ _ _ ls _ h1 hn l1 hq).mono ?_;rw [hL];rintro e w1 ⟨rfl,hb1⟩;have HS1:=Lib.hid (HST.out.after hb1);have bx:=HS1.out.box.1;have h2:=h1.after hb1;have l2:=l1.after hb1;clear hb1;go_wp2_with (go_at_call 76; refine (within_any _ _ _ _).mono ?_; rw [hK']; rintro e w' ⟨rfl,rfl⟩);refine (weightsOf_any _ _ _ zs _ _ _ ls _ h2 l2 hL).mono ?_;rintro e w2 ⟨g,rfl,hg,hrw,hb2⟩;have HS2:=Lib.hid (HS1.out.after hb2);have HRW:=Lib.hid hrw;have hrr:=HS2.out.sum.lt;have hgs:w.heap.size+2<g:=by have:=HS1.out.sum.lt; omega
   have s0:(0:Int)≤(K:Int):=by omega
   have s1:(K:Int)≤((m+1 - 1:Nat):Int):=by omega
   have s2:(K:Int)≤(m:Int):=by omega
   clear hb2 hrw h1 l1 h2 l2 HS1 HST bx hg;rw [Nat.add_sub_cancel] at *
   go_wp2;have HS0:Hid (RowF w2 (w.heap.size+2) 143 2 (ints [leftW zs ls q 0,leftM zs ls q 0])):=HS2.out.sum;go_loopw [30] (fun i wr=>∃ j:Nat,j≤K∧i = .int .i64 j∧Hid (LeftStart w wr (.slice A (m+1) c) (leftW zs ls q j) (leftM zs ls q j))∧Hid (RowF wr g 143 (m*2) (ints (wmL zs ls q m)))) (fun i _=>K - (intOf i).toNat)
   case atStart=>exact ⟨0,Nat.zero_le _,rfl,HS2,HRW⟩
   case round =>
    clear HS2 HRW HS0;obtain ⟨j,hj,rfl,HS,HR⟩:=hrel;by_cases hlt:j<K
    ·have hz:=HS.out.sum.lt
     have hgl:=HR.out.lt;have x0:=HR.out.cell (i:=j*2) (by omega);have x1:=HR.out.cell (i:=j*2+1) (by omega);have hn:=wmL_nth zs ls q (m:=m) (k:=j) (by omega);rw [ints_def,hn.1] at x0;rw [ints_def,hn.2] at x1;have c0:wr.cell? ⟨w.heap.size+2,0,none⟩=some (.int .i64 (leftW zs ls q j)):=HS.out.sum.cell (by omega);have c1:wr.cell? ⟨w.heap.size+2,1,none⟩=some (.int .i64 (leftM zs ls q j)):=HS.out.sum.cell (by omega);have f0:=HS.out.sum.frozen 0;have f1:=HS.out.sum.frozen 1;have HSA:=Lib.hid (HS.out.after ((Below.refl _ _).alloc (Nat.le_refl _) (.cells #[.int .i64 (kwTo zs ls j q),.int .i64 (kmTo zs ls j q)] 143)));have HRA:=Lib.hid (HR.out.alloc (.cells #[.int .i64 (kwTo zs ls j q),.int .i64 (kmTo zs ls j q)] 143));have hw1:=HWB.out j;have hw2:=HMB.out j;have hw3:=HKB.out j;have hw4:=HNB.out j;have HW1:Hid (leftW zs ls q (j+1)=leftW zs ls q j+kwTo zs ls j q):=rfl;have HM1:Hid (leftM zs ls q (j+1)=leftM zs ls q j+kmTo zs ls j q):=rfl;have js:(0:Int)≤(j:Int):=by omega
     have js1:(j:Int)<(K:Int):=by omega
     clear hn;go_wp2;go_roundw
     case rel=>exact ⟨j+1,by omega,by go_num,Lib.hid ((HS.out.set _ _).after ((Below.refl _ _).alloc (Nat.le_refl _) _)),Lib.hid (((HR.out.set_other (by simp; omega) _).set_other (by simp; omega) _).alloc _)⟩
     case measure=>simp [intOf]; omega
    ·obtain rfl:K=j:=by omega
     have c0:wr.cell? ⟨w.heap.size+2,0,none⟩=some (.int .i64 (leftW zs ls q K)):=HS.out.sum.cell (by omega);have c1:wr.cell? ⟨w.heap.size+2,1,none⟩=some (.int .i64 (leftM zs ls q K)):=HS.out.sum.cell (by omega);have d0:wr.cell? ⟨w.heap.size+1,0,none⟩=some (.int .i64 0):=HS.out.res.cell (by omega);have d1:wr.cell? ⟨w.heap.size+1,1,none⟩=some (.int .i64 0):=HS.out.res.cell (by omega);have f0:=HS.out.res.frozen 0;have f1:=HS.out.res.frozen 1;go_wp2;refine bodyPost_ret (v := .agg #[.int .i64 (leftW zs ls q K),.int .i64 (leftM zs ls q K)]) (by simp [results,Tryz.results109,go_sem, *]) rfl ⟨by rw [HT.out.1,HT.out.2],?_⟩;exact (HS.out.below.setCell (p:=⟨w.heap.size+1,0,none⟩) (by simp) _).setCell (p:=⟨w.heap.size+1,1,none⟩) (by simp) _
end X
namespace X
open Go.RowKit
set_option maxRecDepth 100000 in
set_option maxHeartbeats 1600000 in
theorem pushOk_any (A:Option Addr) (n c:Nat) (zs:List Int) (B:Option Addr) (q d:Nat) (ls:List Int) (H V M D k:Int) (w:World) (h:RecsAt w w.heap.size 4 A n zs) (hn:n≤1048576) (hl:RecsAt w w.heap.size 3 B q ls) (hq:q≤1048576) :
  Calls Tryzx.prog 108 #[.agg #[.slice A n c],.slice B q d,.agg #[.int .i64 H,.int .i64 V,.int .i64 M,.int .i64 D],.int .i64 k] w fun e w'=>e = .returned (.bool (pushB zs n ls q H V M D k))∧Below w.heap.size w w':=by
 have at0:=AT.start w (.slice A n c) H V M D 26 31;have b0:=at_below w (.slice A n c) H V M D 26 31;have h1:=h.after b0;have l1:=hl.after b0;have HAT:=Lib.hid at0;clear at0 b0 h hl;cases hL:loadsB zs n ls q
 ·have HF:=Lib.hid (pushB_1 H V M D k hL)
  go_enter Tryzx.func108,Tryz.ntmps108;go_wp2_with fail
  refine (iLoadsOk_any _ _ _ zs _ _ _ ls _ h1 hn l1 hq).mono ?_;rw [hL];rintro e w1 ⟨rfl,hb1⟩;have HB1:=Lib.hid (HAT.out.after hb1).below;clear hb1;go_wp2;go_ret;exact ⟨ret_bool HF.out.symm,HB1.out⟩
 have hn8:=(archB_out (loadsB_out hL).1).1;have e1:IntKind.i64.wrap ((n:Int) - 1)=(n:Int) - 1:=IntWalk.i64_in _ (by omega);cases hT:thrB H V M D
 ·have HF:=Lib.hid (pushB_2 zs n ls q k hT)
  go_enter Tryzx.func108,Tryz.ntmps108;go_wp2_with fail
  refine (iLoadsOk_any _ _ _ zs _ _ _ ls _ h1 hn l1 hq).mono ?_;rw [hL];rintro e w1 ⟨rfl,hb1⟩;have HA1:=Lib.hid (HAT.out.after hb1);have c0:=HA1.out.thr.1.1;have c1:=HA1.out.thr.1.2.1;have c2:=HA1.out.thr.1.2.2.1;have c3:=HA1.out.thr.1.2.2.2;clear hb1;go_wp2_with fail
  refine (iThrustOk_any _ _ _ _ _).mono ?_;rw [hT];rintro e w2 ⟨rfl,hb2⟩;have HB2:=Lib.hid (HA1.out.after hb2).below;clear hb2;go_wp2;go_ret;exact ⟨ret_bool HF.out.symm,HB2.out⟩
 have HF:Hid (inB k 0 ((n:Int) - 1)=pushB zs n ls q H V M D k):=by
  show _=_
  simp [pushB,hL,hT]
 go_enter Tryzx.func108,Tryz.ntmps108;go_wp2_with fail
 refine (iLoadsOk_any _ _ _ zs _ _ _ ls _ h1 hn l1 hq).mono ?_;rw [hL];rintro e w1 ⟨rfl,hb1⟩;have HA1:=Lib.hid (HAT.out.after hb1);have c0:=HA1.out.thr.1.1;have c1:=HA1.out.thr.1.2.1;have c2:=HA1.out.thr.1.2.2.1;have c3:=HA1.out.thr.1.2.2.2;clear hb1;go_wp2_with fail
 refine (iThrustOk_any _ _ _ _ _).mono ?_;rw [hT];rintro e w2 ⟨rfl,hb2⟩;have HA2:=Lib.hid (HA1.out.after hb2);have c4:=HA2.out.arch.1;clear hb2 c0 c1 c2 c3;go_wp2_with (go_at_call 76; refine (within_any _ _ _ _).mono ?_; rintro e w' ⟨rfl,rfl⟩);go_ret;exact ⟨ret_bool HF.out,HA2.out.below⟩
structure MCap (w:World) (gt gl gu:Nat) (H V M D W Mo:Int):Prop where
 thr:Box4 w gt H V M D
 left:w.cell? ⟨gl,0,none⟩=some (.int .i64 W)∧w.cell? ⟨gl,1,none⟩=some (.int .i64 Mo)∧gl<w.heap.size
 up:w.cell? ⟨gu,0,none⟩=some (.int .i64 (V - D*W))∧gu<w.heap.size
theorem MCap.after {w w1:World} {gt gl gu:Nat} {H V M D W Mo:Int} (h:MCap w gt gl gu H V M D W Mo) (hb:Below w.heap.size w w1):MCap w1 gt gl gu H V M D W Mo :=
 ⟨h.thr.after hb,⟨(hb.cell (p:=⟨gl,0,none⟩) h.left.2.2).trans h.left.1,(hb.cell (p:=⟨gl,1,none⟩) h.left.2.2).trans h.left.2.1,Nat.lt_of_lt_of_le h.left.2.2 hb.size⟩,⟨(hb.cell (p:=⟨gu,0,none⟩) h.up.2).trans h.up.1,Nat.lt_of_lt_of_le h.up.2 hb.size⟩⟩
set_option maxRecDepth 100000 in
set_option maxHeartbeats 1600000 in
theorem moment1_any (gt gl gu:Nat) (H V M D W Mo px py:Int) (w:World) (hc:MCap w gt gl gu H V M D W Mo) (h:MomBd H V M D W Mo px py) :
  Calls Tryzx.prog 110 #[.agg #[.int .i64 px,.int .i64 py],.pointer (some ⟨gt,0,none⟩),.pointer (some ⟨gl,0,none⟩),.pointer (some ⟨gu,0,none⟩)] w fun e w'=>e = .returned (.int .i64 (momI H V M D W Mo px py))∧Below w.heap.size w w':=by
 obtain ⟨h1,h2,h3,h4,h5,h6⟩:=h;have HE:Hid (M - D*Mo - px*(V - D*W)+py*H=momI H V M D W Mo px py):=rfl;have e1:IntKind.i64.wrap (D*Mo)=D*Mo:=IntWalk.i64_in _ (by omega);have e3:IntKind.i64.wrap (px*(V - D*W))=px*(V - D*W):=IntWalk.i64_in _ (by omega);have e4:IntKind.i64.wrap (py*H)=py*H:=IntWalk.i64_in _ (by omega);obtain ⟨⟨⟨t0,t1,t2,t3⟩,tl⟩,⟨l0,l1,ll⟩,⟨u0,ul⟩⟩:=hc;have HU:Hid (∀ x,x=V - D*W → -720000000000000≤px*x∧px*x≤720000000000000∧M - D*Mo - px*x+py*H=momI H V M D W Mo px py):=fun x hx=>by subst hx; exact ⟨h5.1,h5.2,rfl⟩
 go_enter Tryzx.func110,Tryz.ntmps110;go_wp2;go_ret;exact ⟨ret_int HE.out,(Below.refl _ _).alloc (Nat.le_refl _) _⟩
end X
namespace X
open Go.RowKit
theorem MCap.drew {w:World} {gt gl gu:Nat} {H V M D W Mo:Int} (h:MCap w gt gl gu H V M D W Mo):MCap w.drew gt gl gu H V M D W Mo:=⟨h.thr,h.left,h.up⟩
set_option maxRecDepth 100000 in
set_option maxHeartbeats 3200000 in
theorem iMomentsAt_any (A:Option Addr) (n c:Nat) (zs:List Int) (B:Option Addr) (q d:Nat) (ls:List Int) (H V M D k:Int) (w:World) (h:RecsAt w w.heap.size 4 A n zs) (hn:n≤1048576) (hl:RecsAt w w.heap.size 3 B q ls) (hq:q≤1048576) :
  Calls Tryzx.prog 71 #[.agg #[.slice A n c],.slice B q d,.agg #[.int .i64 H,.int .i64 V,.int .i64 M,.int .i64 D],.int .i64 k] w fun e w'=>e = .returned (.tuple #[.int .i64 (mIn zs n ls q H V M D k),.int .i64 (mOut zs n ls q H V M D k)])∧Below w.heap.size w w':=by
 have at0:=AT.start w (.slice A n c) H V M D 26 31;have b0:=at_below w (.slice A n c) H V M D 26 31;have h1:=h.after b0;have l1:=hl.after b0;have HAT:=Lib.hid at0;clear at0 b0 hl;cases hP:pushB zs n ls q H V M D k
 ·have HF:=Lib.hid (m_f hP)
  go_enter Tryzx.func71,Tryz.ntmps71;go_wp2_with fail
  refine (pushOk_any _ _ _ zs _ _ _ ls _ _ _ _ _ _ h1 hn l1 hq).mono ?_;rw [hP];rintro e w1 ⟨rfl,hb1⟩;have HB1:=Lib.hid (HAT.out.after hb1).below;clear hb1;go_wp2;go_ret2;exact ⟨by rw [HF.out.1,HF.out.2]; rfl,HB1.out⟩
 obtain ⟨hL,hT,hk0,hk1⟩:=pushB_out hP;obtain ⟨K,rfl⟩:∃ K:Nat,k=(K:Int):=⟨k.toNat,by omega⟩;have HM:=Lib.hid (m_t hP);have HMB:=Lib.hid (m_bds hP);have hK:K<n:=by omega
 obtain ⟨b,off,rfl,hbB,hcell⟩:=h.2 (by omega);have HC:=Lib.hid (jtCells hcell hK);have k0:(0:Int)≤(K:Int):=by omega
 have k1:(K:Int)<(n:Int):=by omega
 clear hcell h hk0 hk1;go_enter Tryzx.func71,Tryz.ntmps71;go_wp2_with fail
 refine (pushOk_any _ _ _ zs _ _ _ ls _ _ _ _ _ _ h1 hn l1 hq).mono ?_;rw [hP];rintro e w1 ⟨rfl,hb1⟩;have HA1:=Lib.hid (HAT.out.after hb1);have h2:=h1.after hb1;have l2:=l1.after hb1;have a0:=HA1.out.arch.1;clear hb1;have hlt:lfB zs n ls q (K:Int)=true:=lfB_t hL (inB_t (by omega));have HLT:=Lib.hid (lf_t hlt);clear hlt;go_wp2_with fail
 refine (leftOf_any _ _ _ zs _ _ _ ls _ _ h2 hn l2 hq).mono ?_;rw [HLT.out.1,HLT.out.2];rintro e w2 ⟨rfl,hb2⟩;have HA2:=Lib.hid (HA1.out.after hb2);clear a0 hb2 h1 h2 l1 l2;have hz2:=HA2.out.below.size;have a2:=HA2.out.arch.1;have al:=HA2.out.arch.2;have tl:=HA2.out.thr.2;have t0:=HA2.out.thr.1.1;have t1:=HA2.out.thr.1.2.1;have t2:=HA2.out.thr.1.2.2.1;have t3:=HA2.out.thr.1.2.2.2;have j0:=(HA2.out.below.cell (p:=⟨b,off+K*4,none⟩) hbB).trans HC.out.1;have j1:=(HA2.out.below.cell (p:=⟨b,off+K*4+1,none⟩) hbB).trans HC.out.2.1;have j2:=(HA2.out.below.cell (p:=⟨b,off+K*4+2,none⟩) hbB).trans HC.out.2.2.1;have j3:=(HA2.out.below.cell (p:=⟨b,off+K*4+3,none⟩) hbB).trans HC.out.2.2.2;have bl:b<w2.heap.size:=by omega
 have hbd:=HMB.out.1.dw;have hv:=HMB.out.1.v;have e2:IntKind.i64.wrap (D*leftW zs ls q K)=D*leftW zs ls q K:=IntWalk.i64_in _ (by omega);have HS0:Below w2.heap.size w2 ((w2.alloc (.cells #[.int .i64 (leftW zs ls q K),.int .i64 (leftM zs ls q K)] 143)).alloc (.cells #[.int .i64 (V - D*leftW zs ls q K)] 3)):=((Below.refl _ _).alloc (Nat.le_refl _) _).alloc (by simp) _;have HCAP:Hid (MCap ((w2.alloc (.cells #[.int .i64 (leftW zs ls q K),.int .i64 (leftM zs ls q K)] 143)).alloc (.cells #[.int .i64 (V - D*leftW zs ls q K)] 3)) (w.heap.size+1) w2.heap.size (w2.heap.size+1) H V M D (leftW zs ls q K) (leftM zs ls q K)):=by
  have h1:=(rowF_new2 w2 (leftW zs ls q K) (leftM zs ls q K) 143).alloc (.cells #[.int .i64 (V - D*leftW zs ls q K)] 3);have h2:=rowF_new1 (w2.alloc (.cells #[.int .i64 (leftW zs ls q K),.int .i64 (leftM zs ls q K)] 143)) (.int .i64 (V - D*leftW zs ls q K)) 3;rw [World.size_alloc] at h2;exact ⟨HA2.out.thr.after HS0,⟨h1.cell (by omega),h1.cell (by omega),h1.lt⟩,⟨h2.cell (by omega),h2.lt⟩⟩
 have HA3:=Lib.hid (HA2.out.after HS0);have a3:=HA3.out.arch.1;have i0:=(HS0.cell (p:=⟨b,off+K*4,none⟩) bl).trans j0;have i1:=(HS0.cell (p:=⟨b,off+K*4+1,none⟩) bl).trans j1;have i2:=(HS0.cell (p:=⟨b,off+K*4+2,none⟩) bl).trans j2;have i3:=(HS0.cell (p:=⟨b,off+K*4+3,none⟩) bl).trans j3;clear HS0 j0 j1 j2 j3;generalize hW3:leftW zs ls q K=lw at *
 generalize hM3:leftM zs ls q K=lm at *
 have HW3:=Lib.hid hW3;have HM3:=Lib.hid hM3;clear hW3 hM3;go_wp2;clear a2 t0 t1 t2 t3 hbd hv;have HCAPD:=Lib.hid HCAP.out.drew;go_region_held3 (fun w'=>w'.cell? ⟨w.heap.size,0,none⟩=some (.slice (some ⟨b,off,none⟩) n c)∧(w'.cell? ⟨b,off+K*4,none⟩=some (.int .i64 (nth zs (K*4)))∧w'.cell? ⟨b,off+K*4+1,none⟩=some (.int .i64 (nth zs (K*4+1)))∧w'.cell? ⟨b,off+K*4+2,none⟩=some (.int .i64 (nth zs (K*4+2)))∧w'.cell? ⟨b,off+K*4+3,none⟩=some (.int .i64 (nth zs (K*4+3))))) (first | exact ⟨a3,⟨i0,i1,i2,i3⟩⟩ | (refine ⟨?_,⟨?_,?_,?_,?_⟩⟩ <;> (rw [hcc _ _ (by first | omega | (simp <;> omega))]; assumption)))
  (((go_at_call 110; first | ((with_reducible refine (moment1_any _ _ _ _ _ _ _ _ _ _ _ _ HCAPD.out HMB.out.1).mono ?_); rintro e w3 ⟨rfl,hb3⟩; have HCAP3:=Lib.hid (HCAPD.out.after hb3); obtain ⟨hcc,hff⟩:=bcell hb3; have hz3:=hb3.size; try simp at hz3) | ((with_reducible refine (moment1_any _ _ _ _ _ _ _ _ _ _ _ _ HCAP3.out HMB.out.2).mono ?_); rintro e w4 ⟨rfl,hb4⟩; have hcc1:=hcc; clear hcc; obtain ⟨hcc2,hff2⟩:=bcell hb4; have hz4:=hb4.size; have hcc:∀ b o,b<w2.heap.size+2→w4.cell? ⟨b,o,none⟩=((w2.alloc (.cells #[.int .i64 lw,.int .i64 lm] 143)).alloc (.cells #[.int .i64 (V - D*lw)] 3)).cell? ⟨b,o,none⟩:=fun b o h=>(hcc2 b o (by omega)).trans (hcc1 b o (by simp; omega))))))
 have HB4:=Lib.hid ((below_drewN HA3.out.below 1).trans (hb3.mono (by simp; omega)) |>.trans (hb4.mono (by omega)))
 clear hcc hcc1 hcc2 hff hff2 hb3 hb4;go_wp2;go_ret2;exact ⟨by rw [HM.out.1,HM.out.2]; rfl,HB4.out⟩
end X
namespace X
open Go.RowKit
def stB (zs:List Int) (n:Nat) (ls:List Int) (q:Nat) (H V M D:Int):Bool:=fulAll (rowsZ zs n ls q) (rowsN zs n ls q) H V M D
theorem rowsN_le (zs:List Int) (n:Nat) (ls:List Int) (q:Nat):rowsN zs n ls q≤17:=by
 unfold rowsN;split
 ·rename_i h
  have:=(archB_out (loadsB_out h).1).1;omega
 ·omega
set_option maxRecDepth 100000 in
set_option maxHeartbeats 1600000 in
theorem iStandsWith_any (A : Option Addr) (n c : Nat) (zs : List Int) (B : Option Addr) (q d : Nat) (ls : List Int) (H V M D : Int) (w : World) (h : RecsAt w w.heap.size 4 A n zs) (hn : n ≤ 1048576) (hl : RecsAt w w.heap.size 3 B q ls) (hq : q ≤ 1048576) :
    Calls Tryzx.prog 15 #[.agg #[.slice A n c], .slice B q d, .agg #[.int .i64 H, .int .i64 V, .int .i64 M, .int .i64 D]] w fun e w' => e = .returned (.bool (stB zs n ls q H V M D)) ∧ Below w.heap.size w w' := by
  have at0 := AT.start w (.slice A n c) H V M D 26 31;have b0 := at_below w (.slice A n c) H V M D 26 31;have h1 := h.after b0;have l1 := hl.after b0;have a0 := at0.arch.1;obtain ⟨t0, t1, t2, t3⟩ := at0.thr.1;have hr17 := rowsN_le zs n ls q;have HST : Hid (stB zs n ls q H V M D = fulAll (rowsZ zs n ls q) (rowsN zs n ls q) H V M D) := rfl;generalize stB zs n ls q H V M D = sb at *
  clear b0 h hl;go_enter Tryzx.func15, Tryz.ntmps15;go_wp2;go_region_held3 (fun w' => w'.cell? ⟨w.heap.size, 0, none⟩ = some (.slice A n c) ∧ (w'.cell? ⟨w.heap.size + 1, 0, none⟩ = some (.int .i64 H) ∧ w'.cell? ⟨w.heap.size + 1, 1, none⟩ = some (.int .i64 V) ∧ w'.cell? ⟨w.heap.size + 1, 2, none⟩ = some (.int .i64 M) ∧ w'.cell? ⟨w.heap.size + 1, 3, none⟩ = some (.int .i64 D))) (first | exact ⟨a0, t0, t1, t2, t3⟩ | exact ⟨at2.arch.1, at2.thr.1⟩ | exact ⟨at3.arch.1, at3.thr.1⟩)
    ((first
      | (go_at_call 48; refine (iRowsOf_any _ _ _ zs _ _ _ ls _ (by exact h1) hn (by exact l1) hq).mono ?_; rintro e w2 ⟨v2, rfl, ho2, hbx2⟩; have hb2 := below_undrew hbx2; have at2 := at0.after hb2; obtain ⟨A2, c2, rfl, _⟩ := ho2.slice; have r2 := ho2.recs)
      | (go_at_call 56; refine (iFulfillsAll_any _ _ _ _ _ _ _ _ _ (by exact r2) (by omega)).mono ?_; rintro e w3 ⟨rfl, hb3⟩; have at3 := at2.after hb3)))
  have HB3 := Lib.hid at3.below;clear at0 at2 at3 hb2 hb3 hbx2 ho2 r2 a0 t0 t1 t2 t3 h1 l1;go_wp2;go_ret;exact ⟨ret_bool (by rw [HST.out]), HB3.out⟩
end X
namespace X
open Go.RowKit
def hgP (zs:List Int) (n:Nat) (ls:List Int) (q:Nat) (H V M D:Int) (k:Nat):List (Int × Bool):=hgL (fun j=>mIn zs n ls q H V M D (j:Int)) (fun j=>mOut zs n ls q H V M D (j:Int)) k
def hgJ (zs:List Int) (n:Nat) (ls:List Int) (q:Nat) (H V M D:Int):List (Int × Bool):=if stB zs n ls q H V M D=true then hgP zs n ls q H V M D n else []
theorem hgJ_f {zs:List Int} {n:Nat} {ls:List Int} {q:Nat} {H V M D:Int} (h:stB zs n ls q H V M D=false):hgJ zs n ls q H V M D = []:=by simp [hgJ,h]
theorem hgJ_t {zs:List Int} {n:Nat} {ls:List Int} {q:Nat} {H V M D:Int} (h:stB zs n ls q H V M D=true):hgJ zs n ls q H V M D=hgP zs n ls q H V M D n:=by simp [hgJ,h]
section
variable {zs : List Int} {n : Nat} {ls : List Int} {q : Nat} {H V M D : Int} {k : Nat}
theorem hgP_00 (h1:mIn zs n ls q H V M D (k:Int)=0) (h2:mOut zs n ls q H V M D (k:Int)=0):hgP zs n ls q H V M D (k+1)=hgP zs n ls q H V M D k ++ [((k:Int),false)] ++ [((k:Int),true)]:=hgL_00 h1 h2
theorem hgP_01 (h1:mIn zs n ls q H V M D (k:Int)=0) (h2:mOut zs n ls q H V M D (k:Int) ≠ 0):hgP zs n ls q H V M D (k+1)=hgP zs n ls q H V M D k ++ [((k:Int),false)]:=hgL_01 h1 h2
theorem hgP_10 (h1:mIn zs n ls q H V M D (k:Int) ≠ 0) (h2:mOut zs n ls q H V M D (k:Int)=0):hgP zs n ls q H V M D (k+1)=hgP zs n ls q H V M D k ++ [((k:Int),true)]:=hgL_10 h1 h2
theorem hgP_11 (h1:mIn zs n ls q H V M D (k:Int) ≠ 0) (h2:mOut zs n ls q H V M D (k:Int) ≠ 0):hgP zs n ls q H V M D (k+1)=hgP zs n ls q H V M D k:=hgL_11 h1 h2
theorem hgP_len (zs:List Int) (n:Nat) (ls:List Int) (q:Nat) (H V M D:Int) (k:Nat):(hgP zs n ls q H V M D k).length≤2*k:=hgL_len _ _ k
end
theorem stB_n {zs:List Int} {n:Nat} {ls:List Int} {q:Nat} {H V M D:Int} (h:stB zs n ls q H V M D=true):3≤n∧n≤8:=by
 cases hL:loadsB zs n ls q
 ·simp [stB,fulAll,rowsN,hL,inB] at h
 ·exact (archB_out (loadsB_out hL).1).1
theorem hgJ_in (zs:List Int) (n:Nat) (ls:List Int) (q:Nat) (H V M D:Int):(hgJ zs n ls q H V M D).length≤1048576∧∀ i,i<(hgJ zs n ls q H V M D).length→0≤nth (hjs (hgJ zs n ls q H V M D)) i∧nth (hjs (hgJ zs n ls q H V M D)) i≤1048576:=by
 cases h:stB zs n ls q H V M D
 ·rw [hgJ_f h]; exact ⟨by simp,fun i hi=>by simp at hi⟩
 ·rw [hgJ_t h]
  have hn:=stB_n h;have hl:=hgL_len (fun j=>mIn zs n ls q H V M D (j:Int)) (fun j=>mOut zs n ls q H V M D (j:Int)) n;refine ⟨by unfold hgP; omega,fun i hi => ?_⟩
  have:=hjs_in hi;unfold hgP;omega
def HgPost (w:World) (L:List (Int × Bool)) (e:Ending) (w':World):Prop:=∃ A c,e = .returned (.slice A L.length c)∧HngAt w' A L.length (hjs L)∧Below w.heap.size w w'
theorem infoHng:(Tryzx.prog.info? 60).map (fun i=>(i.zero,i.size,i.bytes))=some (some (.agg #[.int .i64 0,.bool false]),2,16):=by kernel_rfl
section
variable (A : Option Addr) (n c : Nat) (zs : List Int) (B : Option Addr) (q d : Nat) (ls : List Int) (H V M D : Int) (w : World) (h : RecsAt w w.heap.size 4 A n zs) (hn : n ≤ 1048576) (hl : RecsAt w w.heap.size 3 B q ls) (hq : q ≤ 1048576)
include h hn hl hq
set_option maxRecDepth 100000 in
set_option maxHeartbeats 3200000 in
theorem iHng_any:Calls Tryzx.prog 29 #[.agg #[.slice A n c],.slice B q d,.agg #[.int .i64 H,.int .i64 V,.int .i64 M,.int .i64 D]] w (HgPost w (hgJ zs n ls q H V M D)):=by
 have hz0:((w.alloc (.cells #[.slice A n c] 26)).alloc (.cells #[.int .i64 H,.int .i64 V,.int .i64 M,.int .i64 D] 31)).heap.size=w.heap.size+2:=by simp
 have at0:=AT.start w (.slice A n c) H V M D 26 31;have b0:=at0.below;have h1:=h.after b0;have l1:=hl.after b0;have HAT:=Lib.hid at0;have HH:=Lib.hid h;have HL:=Lib.hid hl;have ca:=at0.arch.1;have t0:=at0.thr.1.1;have t1:=at0.thr.1.2.1;have t2:=at0.thr.1.2.2.1;have t3:=at0.thr.1.2.2.2;clear at0 b0 h hl;cases hS:stB zs n ls q H V M D
 ·have HF:=Lib.hid (hgJ_f hS)
  go_enter Tryzx.func29,Tryz.ntmps29;go_wp2_with fail
  refine (iStandsWith_any _ _ _ zs _ _ _ ls _ _ _ _ _ (by exact h1) hn (by exact l1) hq).mono ?_;rw [hS];rintro e w1 ⟨rfl,hb1⟩;have HB1:=Lib.hid (HAT.out.after hb1).below;clear hb1 h1 l1 ca t0 t1 t2 t3;go_wp2;go_ret;exact ⟨_,_,by rw [HF.out]; rfl,by rw [HF.out]; exact fun h=>absurd h (by decide),HB1.out⟩
 ·have HF:=Lib.hid (hgJ_t hS)
  have hn8:=stB_n hS;go_enter Tryzx.func29,Tryz.ntmps29;go_wp2_with fail
  refine (iStandsWith_any _ _ _ zs _ _ _ ls _ _ _ _ _ (by exact h1) hn (by exact l1) hq).mono ?_;rw [hS];rintro e w1 ⟨rfl,hb1⟩;have HA1:=Lib.hid (HAT.out.after hb1);have HB1:=Lib.hid (Below.refl w1.heap.size w1);have a0:=HA1.out.arch.1;clear hb1 h1 l1 hS ca t0 t1 t2 t3 HAT;go_wp2;clear a0;go_loopw [7,19] (fun v7 v19 wr=>∃ k:Nat,v19 = .int .i64 k∧k≤n∧Hid (OwnH wr (w.heap.size+2) 60 v7 (hgP zs n ls q H V M D k))∧Hid (AT w wr (.slice A n c) H V M D)) (fun v7 v19 _=>n - (intOf v19).toNat)
  case atStart=>exact ⟨0,rfl,Nat.zero_le _,Lib.hid (OwnH.nil _ _ _),HA1⟩
  case round =>
   clear HA1;obtain ⟨k,rfl,hk,HO,HA⟩:=hrel;have a0:=HA.out.arch.1;have t0:=HA.out.thr.1.1;have t1:=HA.out.thr.1.2.1;have t2:=HA.out.thr.1.2.2.1;have t3:=HA.out.thr.1.2.2.2;have hz:=HA.out.below.size;have hzz:w.heap.size+2≤wr.heap.size:=HA.out.thr.2;by_cases hlt:k<n
   ·have ki:(k:Int)<(n:Int):=by omega
    have k0:(0:Int)≤(k:Int):=by omega
    have i1:IntKind.i64.wrap ((k:Int)+1)=(k:Int)+1:=IntWalk.i64_in _ (by omega);have r1:=HH.out.after HA.out.below;have r2:=HL.out.after HA.out.below;go_wp2_with fail
    refine (iMomentsAt_any _ _ _ zs _ _ _ ls _ _ _ _ (k:Int) _ (by exact r1) hn (by exact r2) hq).mono ?_;rintro e w2 ⟨rfl,hb2⟩;have HA2:=Lib.hid (HA.out.after hb2);have HO2:=Lib.hid (HO.out.below hb2);have hz2:w.heap.size+2≤w2.heap.size:=HA2.out.thr.2;have hlen:=hgP_len zs n ls q H V M D k;clear hb2 r1 r2 a0 t0 t1 t2 t3 HA HO;have e00:=Lib.hid (hgP_00 (zs:=zs) (n:=n) (ls:=ls) (q:=q) (H:=H) (V:=V) (M:=M) (D:=D) (k:=k));have e01:=Lib.hid (hgP_01 (zs:=zs) (n:=n) (ls:=ls) (q:=q) (H:=H) (V:=V) (M:=M) (D:=D) (k:=k));have e10:=Lib.hid (hgP_10 (zs:=zs) (n:=n) (ls:=ls) (q:=q) (H:=H) (V:=V) (M:=M) (D:=D) (k:=k));have e11:=Lib.hid (hgP_11 (zs:=zs) (n:=n) (ls:=ls) (q:=q) (H:=H) (V:=V) (M:=M) (D:=D) (k:=k));generalize mIn zs n ls q H V M D (k:Int)=f at *
    generalize mOut zs n ls q H V M D (k:Int)=g at *
    generalize hL:hgP zs n ls q H V M D k=L at *
    clear hL;by_cases hf0:f=0
    ·have hq0:(f == 0)=true:=by simp [hf0]
     by_cases hg0:g=0
     ·have hq1:(g == 0)=true:=by simp [hg0]
      have yw3:=cell_newH w2 (k:Int) false 60;have yaw3:=yw3.1;have ybw3:=yw3.2;have HAAw3:=Lib.hid (HA2.out.after ((Below.refl _ _).alloc (Nat.le_refl _) (.cells #[.int .i64 (k:Int),.bool false] 60)));have hqw3:w.heap.size+2≤(w2.alloc (.cells #[.int .i64 (k:Int),.bool false] 60)).heap.size:=HAAw3.out.thr.2;have HRw3:=Lib.hid (Below.refl (w.heap.size+2) (w2.alloc (.cells #[.int .i64 (k:Int),.bool false] 60)));go_wp2_with (first | (at_builtin; refine wpList_appH _ rfl (.tmp 32) (.tmp 35) 56 rfl (w.heap.size+2) 60 16 #[.int .i64 0,.bool false] Tryzx.underlying56 infoHng rfl (by decide) _ (L) rfl (by exact HO2.out.alloc _) w2.heap.size 1 (k:Int) false rfl (by exact yaw3) (by exact ybw3) (by simp; omega) (w.heap.size+2) (w2.alloc (.cells #[.int .i64 (k:Int),.bool false] 60)) (by exact HRw3.out) (Nat.le_refl _) hqw3 ?_; intro vw3 w3 hownw3 hbw3; have HOw3:=Lib.hid hownw3; have HAXw3:=Lib.hid (HAAw3.out.keepH hbw3); have hzw3:w.heap.size+2≤w3.heap.size:=HAXw3.out.thr.2; have yw4:=cell_newH w3 (k:Int) true 60; have yaw4:=yw4.1; have ybw4:=yw4.2; have HAAw4:=Lib.hid (HAXw3.out.after ((Below.refl _ _).alloc (Nat.le_refl _) (.cells #[.int .i64 (k:Int),.bool true] 60))); have hqw4:w.heap.size+2≤(w3.alloc (.cells #[.int .i64 (k:Int),.bool true] 60)).heap.size:=HAAw4.out.thr.2; have HRw4:=Lib.hid (Below.refl (w.heap.size+2) (w3.alloc (.cells #[.int .i64 (k:Int),.bool true] 60)))) | (at_builtin; refine wpList_appH _ rfl (.tmp 39) (.tmp 42) 56 rfl (w.heap.size+2) 60 16 #[.int .i64 0,.bool false] Tryzx.underlying56 infoHng rfl (by decide) _ (L ++ [((k:Int),false)]) rfl (by exact HOw3.out.alloc _) w3.heap.size 1 (k:Int) true rfl (by exact yaw4) (by exact ybw4) (by simp; omega) (w.heap.size+2) (w3.alloc (.cells #[.int .i64 (k:Int),.bool true] 60)) (by exact HRw4.out) (Nat.le_refl _) hqw4 ?_; intro vw4 w4 hownw4 hbw4; have HOw4:=Lib.hid hownw4; have HAXw4:=Lib.hid (HAAw4.out.keepH hbw4); have hzw4:w.heap.size+2≤w4.heap.size:=HAXw4.out.thr.2));clear hownw3 hbw3 hownw4 hbw4 yaw3 ybw3 yw3 yaw4 ybw4 yw4;go_wp2;go_roundw
      case rel=>exact ⟨k+1,by go_num,by omega,Lib.hid (by rw [e00.out hf0 hg0]; exact HOw4.out),HAXw4⟩
      case measure=>simp [intOf]; omega
     ·have hq1:(g == 0)=false:=by simp [hg0]
      have yw3:=cell_newH w2 (k:Int) false 60;have yaw3:=yw3.1;have ybw3:=yw3.2;have HAAw3:=Lib.hid (HA2.out.after ((Below.refl _ _).alloc (Nat.le_refl _) (.cells #[.int .i64 (k:Int),.bool false] 60)));have hqw3:w.heap.size+2≤(w2.alloc (.cells #[.int .i64 (k:Int),.bool false] 60)).heap.size:=HAAw3.out.thr.2;have HRw3:=Lib.hid (Below.refl (w.heap.size+2) (w2.alloc (.cells #[.int .i64 (k:Int),.bool false] 60)));go_wp2_with (at_builtin; refine wpList_appH _ rfl (.tmp 32) (.tmp 35) 56 rfl (w.heap.size+2) 60 16 #[.int .i64 0,.bool false] Tryzx.underlying56 infoHng rfl (by decide) _ (L) rfl (by exact HO2.out.alloc _) w2.heap.size 1 (k:Int) false rfl (by exact yaw3) (by exact ybw3) (by simp; omega) (w.heap.size+2) (w2.alloc (.cells #[.int .i64 (k:Int),.bool false] 60)) (by exact HRw3.out) (Nat.le_refl _) hqw3 ?_; intro vw3 w3 hownw3 hbw3);have HOw3:=Lib.hid hownw3;have HAXw3:=Lib.hid (HAAw3.out.keepH hbw3);have hzw3:w.heap.size+2≤w3.heap.size:=HAXw3.out.thr.2;clear hownw3 hbw3 yaw3 ybw3 yw3;go_wp2;go_roundw
      case rel=>exact ⟨k+1,by go_num,by omega,Lib.hid (by rw [e01.out hf0 hg0]; exact HOw3.out),HAXw3⟩
      case measure=>simp [intOf]; omega
    ·have hq0:(f == 0)=false:=by simp [hf0]
     by_cases hg0:g=0
     ·have hq1:(g == 0)=true:=by simp [hg0]
      have yw4:=cell_newH w2 (k:Int) true 60;have yaw4:=yw4.1;have ybw4:=yw4.2;have HAAw4:=Lib.hid (HA2.out.after ((Below.refl _ _).alloc (Nat.le_refl _) (.cells #[.int .i64 (k:Int),.bool true] 60)));have hqw4:w.heap.size+2≤(w2.alloc (.cells #[.int .i64 (k:Int),.bool true] 60)).heap.size:=HAAw4.out.thr.2;have HRw4:=Lib.hid (Below.refl (w.heap.size+2) (w2.alloc (.cells #[.int .i64 (k:Int),.bool true] 60)));go_wp2_with (at_builtin; refine wpList_appH _ rfl (.tmp 39) (.tmp 42) 56 rfl (w.heap.size+2) 60 16 #[.int .i64 0,.bool false] Tryzx.underlying56 infoHng rfl (by decide) _ (L) rfl (by exact HO2.out.alloc _) w2.heap.size 1 (k:Int) true rfl (by exact yaw4) (by exact ybw4) (by simp; omega) (w.heap.size+2) (w2.alloc (.cells #[.int .i64 (k:Int),.bool true] 60)) (by exact HRw4.out) (Nat.le_refl _) hqw4 ?_; intro vw4 w4 hownw4 hbw4);have HOw4:=Lib.hid hownw4;have HAXw4:=Lib.hid (HAAw4.out.keepH hbw4);have hzw4:w.heap.size+2≤w4.heap.size:=HAXw4.out.thr.2;clear hownw4 hbw4 yaw4 ybw4 yw4;go_wp2;go_roundw
      case rel=>exact ⟨k+1,by go_num,by omega,Lib.hid (by rw [e10.out hf0 hg0]; exact HOw4.out),HAXw4⟩
      case measure=>simp [intOf]; omega
     ·have hq1:(g == 0)=false:=by simp [hg0]
      go_wp2;go_roundw
      case rel=>exact ⟨k+1,by go_num,by omega,Lib.hid (by rw [e11.out hf0 hg0]; exact HO2.out),HA2⟩
      case measure=>simp [intOf]; omega
   ·obtain rfl:n=k:=by omega
    obtain ⟨A7,c7,rfl,h7⟩:=HO.out.slice;have H7:=Lib.hid h7;clear h7;go_wp2;go_ret;exact ⟨A7,c7,by rw [HF.out]; rfl,by rw [HF.out]; exact H7.out,HA.out.below⟩
end
end X
namespace X
open Go.RowKit
theorem cramer_p (pa pb pc pd qa qb qc qd ra rb rc rd:Int):pa*det9 pd pb pc qd qb qc rd rb rc+pb*det9 pa pd pc qa qd qc ra rd rc+pc*det9 pa pb pd qa qb qd ra rb rd=pd*det9 pa pb pc qa qb qc ra rb rc:=by
 unfold det9;grind
theorem cramer_q (pa pb pc pd qa qb qc qd ra rb rc rd:Int):qa*det9 pd pb pc qd qb qc rd rb rc+qb*det9 pa pd pc qa qd qc ra rd rc+qc*det9 pa pb pd qa qb qd ra rb rd=qd*det9 pa pb pc qa qb qc ra rb rc:=by
 unfold det9;grind
theorem cramer_r (pa pb pc pd qa qb qc qd ra rb rc rd:Int):ra*det9 pd pb pc qd qb qc rd rb rc+rb*det9 pa pd pc qa qd qc ra rd rc+rc*det9 pa pb pd qa qb qd ra rb rd=rd*det9 pa pb pc qa qb qc ra rb rc:=by
 unfold det9;grind
theorem gcd4_dvd (a b c d:Int):((gcd4 a b c d:Nat):Int) ∣ a∧((gcd4 a b c d:Nat):Int) ∣ b∧((gcd4 a b c d:Nat):Int) ∣ c∧((gcd4 a b c d:Nat):Int) ∣ d:=by
 have h1:gcd4 a b c d ∣ Nat.gcd a.natAbs b.natAbs:=Nat.gcd_dvd_left _ _;have h2:gcd4 a b c d ∣ Nat.gcd c.natAbs d.natAbs:=Nat.gcd_dvd_right _ _;exact ⟨Int.ofNat_dvd_left.2 (Nat.dvd_trans h1 (Nat.gcd_dvd_left _ _)),Int.ofNat_dvd_left.2 (Nat.dvd_trans h1 (Nat.gcd_dvd_right _ _)),Int.ofNat_dvd_left.2 (Nat.dvd_trans h2 (Nat.gcd_dvd_left _ _)),Int.ofNat_dvd_left.2 (Nat.dvd_trans h2 (Nat.gcd_dvd_right _ _))⟩
theorem mkG_mul (h v m d:Int):mkG h v m d*Int.tdiv h (mkG h v m d)=h∧mkG h v m d*Int.tdiv v (mkG h v m d)=v∧mkG h v m d*Int.tdiv m (mkG h v m d)=m∧mkG h v m d*Int.tdiv d (mkG h v m d)=d:=by
 have hd:=gcd4_dvd h v m d;have hg:mkG h v m d ∣ h∧mkG h v m d ∣ v∧mkG h v m d ∣ m∧mkG h v m d ∣ d:=by
  unfold mkG;split
  ·exact ⟨Int.neg_dvd.2 hd.1,Int.neg_dvd.2 hd.2.1,Int.neg_dvd.2 hd.2.2.1,Int.neg_dvd.2 hd.2.2.2⟩
  ·exact hd
 exact ⟨Int.mul_tdiv_cancel' hg.1,Int.mul_tdiv_cancel' hg.2.1,Int.mul_tdiv_cancel' hg.2.2.1,Int.mul_tdiv_cancel' hg.2.2.2⟩
theorem over_g {g a b c d H V M D h v m e:Int} (hg:g ≠ 0) (h1:g*H=h) (h2:g*V=v) (h3:g*M=m) (h4:g*D=e) (hh:a*h+b*v+c*m=d*e):a*H+b*V+c*M=d*D:=by
 have:g*(a*H+b*V+c*M)=g*(d*D):=by
  subst h1 h2 h3 h4;grind
 exact Int.eq_of_mul_eq_mul_left hg this
theorem frac_tr {Hn Dn Hb Db Hj Dj:Int} (hn:0<Dn) (hb:0<Db) (hj:0<Dj) (h1:Hn*Db≤Hb*Dn) (h2:Hb*Dj≤Hj*Db):Hn*Dj≤Hj*Dn:=by
 have e1:Hn*Db*Dj≤Hb*Dn*Dj:=Int.mul_le_mul_of_nonneg_right h1 (by omega);have e2:Hb*Dj*Dn≤Hj*Db*Dn:=Int.mul_le_mul_of_nonneg_right h2 (by omega);have e3:Hn*Dj*Db≤Hj*Dn*Db:=by
  have a1:Hn*Db*Dj=Hn*Dj*Db:=by grind
  have a2:Hb*Dn*Dj=Hb*Dj*Dn:=by grind
  have a3:Hj*Db*Dn=Hj*Dn*Db:=by grind
  omega
 exact Int.le_of_mul_le_mul_right e3 hb
theorem tail_l {xs ys:List Int} {j:Nat} (h:j<xs.length):nth (xs ++ ys) j=nth xs j:=by
 rw [nth_get _ _ (by rw [List.length_append]; omega),nth_get _ _ h,List.getElem_append_left h]
theorem tail_r {xs ys:List Int} {j:Nat} (h:j<ys.length):nth (xs ++ ys) (xs.length+j)=nth ys j:=by
 rw [nth_get _ _ (by rw [List.length_append]; omega),nth_get _ _ h,List.getElem_append_right (by omega)]
 congr 1
 omega
def tightAt (rs:List Int) (H V M D:Int) (x:Nat):Prop:=nth rs (x*4)*H+nth rs (x*4+1)*V+nth rs (x*4+2)*M=nth rs (x*4+3)*D
def Tight3 (rs:List Int) (n:Nat) (H V M D:Int):Prop:=∃ i k m,i<k∧k<m∧m<n∧tightAt rs H V M D i∧tightAt rs H V M D k∧tightAt rs H V M D m
theorem mkB_nz {h v m d:Int} (hb:mkB h v m d=true):¬ d=0:=by
 intro e;simp [mkB,e] at hb
theorem cr_tight {rs:List Int} {i k m:Nat} (h:crB rs i k m=true):tightAt rs (crH rs i k m) (crV rs i k m) (crM rs i k m) (crD rs i k m) i∧tightAt rs (crH rs i k m) (crV rs i k m) (crM rs i k m) (crD rs i k m) k∧tightAt rs (crH rs i k m) (crV rs i k m) (crM rs i k m) (crD rs i k m) m:=by
 unfold crB solB at h;have hd:=mkB_nz h;have hr:=solD_ne hd;have hD:solD (nth rs (i*4)) (nth rs (i*4+1)) (nth rs (i*4+2)) (nth rs (i*4+3)) (nth rs (k*4)) (nth rs (k*4+1)) (nth rs (k*4+2)) (nth rs (k*4+3)) (nth rs (m*4)) (nth rs (m*4+1)) (nth rs (m*4+2)) (nth rs (m*4+3))=det9 (nth rs (i*4)) (nth rs (i*4+1)) (nth rs (i*4+2)) (nth rs (k*4)) (nth rs (k*4+1)) (nth rs (k*4+2)) (nth rs (m*4)) (nth rs (m*4+1)) (nth rs (m*4+2)):=by
  unfold solD;rw [hr.1,hr.2.1,hr.2.2];rfl
 unfold tightAt crH crV crM crD crI solI;rw [hD] at h hd ⊢;rw [mkI_t h,mkI_t h,mkI_t h,mkI_t h];generalize nth rs (i*4)=pa at *
 generalize nth rs (i*4+1)=pb at *
 generalize nth rs (i*4+2)=pc at *
 generalize nth rs (i*4+3)=pd at *
 generalize nth rs (k*4)=qa at *
 generalize nth rs (k*4+1)=qb at *
 generalize nth rs (k*4+2)=qc at *
 generalize nth rs (k*4+3)=qd at *
 generalize nth rs (m*4)=ra at *
 generalize nth rs (m*4+1)=rb at *
 generalize nth rs (m*4+2)=rc at *
 generalize nth rs (m*4+3)=rd at *
 have hg:=mkG_ne (det9 pd pb pc qd qb qc rd rb rc) (det9 pa pd pc qa qd qc ra rd rc) (det9 pa pb pd qa qb qd ra rb rd) hd;have hm:=mkG_mul (det9 pd pb pc qd qb qc rd rb rc) (det9 pa pd pc qa qd qc ra rd rc) (det9 pa pb pd qa qb qd ra rb rd) (det9 pa pb pc qa qb qc ra rb rc);exact ⟨over_g hg hm.1 hm.2.1 hm.2.2.1 hm.2.2.2 (cramer_p pa pb pc pd qa qb qc qd ra rb rc rd),over_g hg hm.1 hm.2.1 hm.2.2.1 hm.2.2.2 (cramer_q pa pb pc pd qa qb qc qd ra rb rc rd),over_g hg hm.1 hm.2.1 hm.2.2.1 hm.2.2.2 (cramer_r pa pb pc pd qa qb qc qd ra rb rc rd)⟩
def TightAll (rs:List Int) (n:Nat) (acc:List Int):Prop:=∃ q,acc.length=q*4∧∀ j,j<q→Tight3 rs n (nth acc (j*4)) (nth acc (j*4+1)) (nth acc (j*4+2)) (nth acc (j*4+3))
theorem foldN_bd {P:List Int→Prop} {f:Nat→List Int→List Int}:∀ t,(∀ j a,j<t→P a→P (f j a))→∀ a,P a→P (foldN f t a)
 | 0,_,_,h=>h
 | t+1,hf,a,h=>hf t _ (by omega) (foldN_bd t (fun j a hj=>hf j a (by omega)) a h)
theorem crStep_tight {rs:List Int} {n i k m:Nat} {acc:List Int} (hik:i<k) (hkm:k<m) (hmn:m<n) (h:TightAll rs n acc):TightAll rs n (crStep rs n i k m acc):=by
 unfold crStep;split
 ·rename_i hc
  simp only [Bool.and_eq_true] at hc;have ht:=cr_tight hc.1;obtain ⟨q,hl,ha⟩:=h;refine ⟨q+1,by rw [List.length_append,hl]; simp; omega,fun j hj => ?_⟩
  by_cases e:j<q
  ·rw [tail_l (xs:=acc) (j:=j*4) (by omega),tail_l (xs:=acc) (j:=j*4+1) (by omega),tail_l (xs:=acc) (j:=j*4+2) (by omega),tail_l (xs:=acc) (j:=j*4+3) (by omega)]
   exact ha j e
  ·obtain rfl:j=q:=by omega
   have q0:=tail_r (xs:=acc) (ys := [crH rs i k m,crV rs i k m,crM rs i k m,crD rs i k m]) (j:=0) (by simp);have q1:=tail_r (xs:=acc) (ys := [crH rs i k m,crV rs i k m,crM rs i k m,crD rs i k m]) (j:=1) (by simp);have q2:=tail_r (xs:=acc) (ys := [crH rs i k m,crV rs i k m,crM rs i k m,crD rs i k m]) (j:=2) (by simp);have q3:=tail_r (xs:=acc) (ys := [crH rs i k m,crV rs i k m,crM rs i k m,crD rs i k m]) (j:=3) (by simp);rw [hl] at q0 q1 q2 q3;rw [Nat.add_zero] at q0;rw [q0,q1,q2,q3];exact ⟨i,k,m,hik,hkm,hmn,ht⟩
 ·exact h
theorem cornL_tight (rs:List Int) (n:Nat):TightAll rs n (cornL rs n):=by
 have h0:TightAll rs n []:=⟨0,rfl,fun j hj=>absurd hj (by omega)⟩;cases e:cornB rs n
 ·rw [cornL_f e]; exact h0
 ·rw [cornL_t e]
  exact foldN_bd n (fun i a hi ha=>foldN_bd _ (fun j a hj ha=>foldN_bd _ (fun l a hl ha=>crStep_tight (by omega) (by omega) (by omega) ha) a ha) a ha) [] h0
theorem bstK_up (r:Int) (xs:List Int):∀ k,bstK r xs k≤k
 | 0=>Nat.le_refl _
 | k+1=>by
  have:=bstK_up r xs k;unfold bstK;split <;> omega
theorem bst_min {xs:List Int} {m:Nat} (h:∀ j,j<m→thrB (nth xs (j*4)) (nth xs (j*4+1)) (nth xs (j*4+2)) (nth xs (j*4+3))=true):∀ k,k<m→∀ j,j≤k→bstV (-1) xs k 0*nth xs (j*4+3)≤nth xs (j*4)*bstV (-1) xs k 3
 | 0,hk,j,hj=>by
  obtain rfl:j=0:=by omega
  rw [bstV_0,bstV_0];simp
 | k+1,hk,j,hj=>by
  have hb:thrB (bstV (-1) xs k 0) (bstV (-1) xs k 1) (bstV (-1) xs k 2) (bstV (-1) xs k 3)=true:=by
   have:=bstK_up (-1) xs k;exact h _ (by omega)
  have hn:=h (k+1) hk;have db:=(thrB_out hb).1.1;have dn:=(thrB_out hn).1.1;have ec:better (-1) xs k=cmpN (nth xs ((k+1)*4)*bstV (-1) xs k 3) (bstV (-1) xs k 0*nth xs ((k+1)*4+3)):=cmpT_3 hn hb;have ih:=bst_min h k (by omega);by_cases e:better (-1) xs k = -1
  ·rw [bstV_t e,bstV_t e,Nat.add_zero]
   have hlt:nth xs ((k+1)*4)*bstV (-1) xs k 3<bstV (-1) xs k 0*nth xs ((k+1)*4+3):=by
    rw [ec] at e;unfold cmpN at e;split at e
    ·assumption
    ·split at e <;> omega
   by_cases ej:j=k+1
   ·subst ej; exact Int.le_refl _
   ·exact frac_tr (by omega) (by omega) (by have:=(thrB_out (h j (by omega))).1.1; omega) (Int.le_of_lt hlt) (ih j (by omega))
  ·rw [bstV_f e,bstV_f e]
   by_cases ej:j=k+1
   ·subst ej
    rw [ec] at e;have:¬ nth xs ((k+1)*4)*bstV (-1) xs k 3<bstV (-1) xs k 0*nth xs ((k+1)*4+3):=fun hl=>e (cmpN_l hl)
    omega
   ·exact ih j (by omega)
def cntP (p:Nat→Bool):Nat→Nat
 | 0=>0
 | k+1=>if p k=true then cntP p k+1 else cntP p k
theorem cntP_mono (p:Nat→Bool) (a:Nat):∀ d,cntP p a≤cntP p (a+d)
 | 0=>Nat.le_refl _
 | d+1=>by
  have:=cntP_mono p a d;have e:cntP p (a+(d+1))=if p (a+d)=true then cntP p (a+d)+1 else cntP p (a+d):=rfl
  rw [e];split <;> omega
theorem cntP_up {p:Nat→Bool} {a b:Nat} (h:a≤b):cntP p a≤cntP p b:=by
 obtain ⟨d,rfl⟩:=Nat.exists_eq_add_of_le h;exact cntP_mono p a d
theorem cntP_hit {p:Nat→Bool} {a b:Nat} (h:a<b) (hp:p a=true):cntP p a+1≤cntP p b:=by
 have h1:=cntP_up (p:=p) (a:=a+1) (b:=b) h;have h2:cntP p (a+1)=cntP p a+1:=by simp [cntP,hp]
 omega
theorem cntP_3 {p:Nat→Bool} {a b c m:Nat} (hab:a<b) (hbc:b<c) (hcm:c<m) (ha:p a=true) (hb:p b=true) (hc:p c=true):3≤cntP p m:=by
 have h1:=cntP_hit hab ha;have h2:=cntP_hit hbc hb;have h3:=cntP_hit hcm hc;omega
def trB (f g:Nat→Int) (r:Nat):Bool:=if r % 2=0 then decide (f (r / 2)=0) else decide (g (r / 2)=0)
theorem hgL_cnt (f g:Nat→Int):∀ k,(hgL f g k).length=cntP (trB f g) (k*2)
 | 0=>rfl
 | k+1=>by
  have ih:=hgL_cnt f g k;have e:(k+1)*2=k*2+1+1:=by omega
  have t0:trB f g (k*2)=decide (f k=0):=by unfold trB; rw [if_pos (by omega),show k*2 / 2=k by omega]
  have t1:trB f g (k*2+1)=decide (g k=0):=by unfold trB; rw [if_neg (by omega),show (k*2+1) / 2=k by omega]
  rw [e];simp only [cntP,t0,t1,← ih,decide_eq_true_eq];by_cases h1:f k=0
  ·by_cases h2:g k=0
   ·rw [hgL_00 h1 h2]; simp [h1,h2]
   ·rw [hgL_01 h1 h2]; simp [h1,h2]
  ·by_cases h2:g k=0
   ·rw [hgL_10 h1 h2]; simp [h1,h2]
   ·rw [hgL_11 h1 h2]; simp [h1,h2]
theorem hgL_asc (f g:Nat→Int):∀ k,(hjs (hgL f g k)).Pairwise (· ≤ ·)
 | 0=>List.Pairwise.nil
 | k+1=>by
  have ih:=hgL_asc f g k;have hm:∀ x,x ∈ hjs (hgL f g k)→x≤(k:Int):=fun x hx=>by
   unfold hjs at hx;obtain ⟨y,hy,rfl⟩:=List.mem_map.1 hx;have:=hgL_mem f g k y hy;omega
  by_cases h1:f k=0
  ·by_cases h2:g k=0
   ·rw [hgL_00 h1 h2]
    unfold hjs at *
    rw [List.map_append,List.map_append,List.append_assoc];refine List.pairwise_append.2 ⟨ih,by simp,fun a ha b hb => ?_⟩;simp at hb;rcases hb with rfl | rfl <;> exact hm a ha
   ·rw [hgL_01 h1 h2]
    unfold hjs at *
    rw [List.map_append];refine List.pairwise_append.2 ⟨ih,by simp,fun a ha b hb => ?_⟩;simp at hb;subst hb; exact hm a ha
  ·by_cases h2:g k=0
   ·rw [hgL_10 h1 h2]
    unfold hjs at *
    rw [List.map_append];refine List.pairwise_append.2 ⟨ih,by simp,fun a ha b hb => ?_⟩;simp at hb;subst hb; exact hm a ha
   ·rw [hgL_11 h1 h2]; exact ih
theorem asc_at {L:List Int} (h:L.Pairwise (· ≤ ·)) {k:Nat} (hk:k+1<L.length):nth L k≤nth L (k+1):=by
 rw [nth_get _ k (by omega),nth_get _ (k+1) hk];exact List.pairwise_iff_getElem.1 h k (k+1) (by omega) hk (by omega)
theorem tight_in {zs:List Int} {W Mo:Nat→Int} {n K:Nat} {H V M D:Int} (hK:K<n) (h:tightAt (rowsL zs W Mo n) H V M D (K*2)):momI H V M D (W K) (Mo K) (nth zs (K*4)) (nth zs (K*4+1))=0:=by
 have hl:=rowTo_len zs W Mo n;have hr:∀ j,j<8→nth (rowsL zs W Mo n) (K*8+j)=nth (rowJ zs W Mo K) j:=fun j hj=>by
  unfold rowsL;rw [nthA_l (by omega),rowTo_nth zs _ _ hK hj]
 unfold tightAt at h;have e:K*2*4=K*8:=by omega
 rw [e] at h;have q0:=hr 0 (by omega);rw [Nat.add_zero] at q0;rw [q0,hr 1 (by omega),hr 2 (by omega),hr 3 (by omega)] at h;simp only [rowJ,nth,List.getD_cons_zero,List.getD_cons_succ] at h;unfold momI;simp only [nth] at h ⊢;grind
theorem tight_out {zs:List Int} {W Mo:Nat→Int} {n K:Nat} {H V M D:Int} (hK:K<n) (h:tightAt (rowsL zs W Mo n) H V M D (K*2+1)):momI H V M D (W K) (Mo K) (nth zs (K*4+2)) (nth zs (K*4+3))=0:=by
 have hl:=rowTo_len zs W Mo n;have hr:∀ j,j<8→nth (rowsL zs W Mo n) (K*8+j)=nth (rowJ zs W Mo K) j:=fun j hj=>by
  unfold rowsL;rw [nthA_l (by omega),rowTo_nth zs _ _ hK hj]
 unfold tightAt at h;have e:(K*2+1)*4=K*8+4:=by omega
 rw [e] at h;rw [hr 4 (by omega),Nat.add_assoc,hr 5 (by omega),Nat.add_assoc,hr 6 (by omega),Nat.add_assoc,hr 7 (by omega)] at h;simp only [rowJ,nth,List.getD_cons_zero,List.getD_cons_succ] at h;unfold momI;simp only [nth] at h ⊢;grind
theorem tight_last {zs:List Int} {W Mo:Nat→Int} {n:Nat} {H V M D:Int} (h:tightAt (rowsL zs W Mo n) H V M D (n*2)):H=0:=by
 have hl:=rowTo_len zs W Mo n;unfold tightAt rowsL at h;rw [nthA_r 0 (by omega),nthA_r 1 (by omega),nthA_r 2 (by omega),nthA_r 3 (by omega)] at h;simp [nth] at h;omega
theorem hinges_3 {zs:List Int} {n:Nat} {ls:List Int} {q j:Nat} {H V M D:Int} (hj:j<thrN zs n ls q) (h0:nth (thrL zs n ls q) (j*4)=H) (h1:nth (thrL zs n ls q) (j*4+1)=V) (h2:nth (thrL zs n ls q) (j*4+2)=M) (h3:nth (thrL zs n ls q) (j*4+3)=D) (hs:stB zs n ls q H V M D=true) (hH:0<H):3≤(hgJ zs n ls q H V M D).length:=by
 obtain ⟨m,hl,ha⟩:=cornL_tight (rowsZ zs n ls q) (rowsN zs n ls q);have hm:thrN zs n ls q=m:=by unfold thrN cornN; omega
 obtain ⟨a,b,c,hab,hbc,hcn,ta,tb,tc⟩:=ha j (by omega);have hL:loadsB zs n ls q=true:=by
  cases e:loadsB zs n ls q
  ·rw [(rows_f e).1] at hcn; omega
  ·rfl
 rw [(rows_t hL).1] at hcn;rw [show cornL (rowsZ zs n ls q) (rowsN zs n ls q)=thrL zs n ls q from rfl,h0,h1,h2,h3,(rows_t hL).2] at ta tb tc;have hc2:c<n*2:=by
  rcases Nat.lt_or_ge c (n*2) with e | e
  ·exact e
  ·obtain rfl:c=n*2:=by omega
   have:=tight_last tc;omega
 rw [hgJ_t hs];unfold hgP;rw [hgL_cnt];have key:∀ r,r<n*2→tightAt (rowsL zs (leftW zs ls q) (leftM zs ls q) n) H V M D r→trB (fun j=>mIn zs n ls q H V M D (j:Int)) (fun j=>mOut zs n ls q H V M D (j:Int)) r=true:=fun r hr ht=>by
  unfold trB;have hp:∀ K:Nat,pushB zs n ls q H V M D (K:Int)=true ∨ pushB zs n ls q H V M D (K:Int)=false:=fun K=>by cases pushB zs n ls q H V M D (K:Int) <;> simp
  by_cases e:r % 2=0
  ·rw [if_pos e]
   refine decide_eq_true ?_;have e2:r=r / 2*2:=by omega
   rw [e2] at ht;have h4:=tight_in (K:=r / 2) (by omega) ht;rcases hp (r / 2) with e3 | e3
   ·show mIn zs n ls q H V M D ((r / 2:Nat):Int)=0
    rw [(m_t e3).1]; exact h4
   ·exact (m_f e3).1
  ·rw [if_neg e]
   refine decide_eq_true ?_;have e2:r=r / 2*2+1:=by omega
   rw [e2] at ht;have h4:=tight_out (K:=r / 2) (by omega) ht;rcases hp (r / 2) with e3 | e3
   ·show mOut zs n ls q H V M D ((r / 2:Nat):Int)=0
    rw [(m_t e3).2]; exact h4
   ·exact (m_f e3).2
 exact cntP_3 hab hbc hc2 (key a (by omega) ta) (key b (by omega) tb) (key c hc2 tc)
end X
namespace X
open Go.RowKit
def MetAll (rs:List Int) (n:Nat) (acc:List Int):Prop:=∃ q,acc.length=q*4∧∀ j,j<q→(thrB (nth acc (j*4)) (nth acc (j*4+1)) (nth acc (j*4+2)) (nth acc (j*4+3))=true∧allB (metAt rs (nth acc (j*4)) (nth acc (j*4+1)) (nth acc (j*4+2)) (nth acc (j*4+3))) n=true)
theorem nthL {xs ys:List Int} {j:Nat} (h:j<xs.length):nth (xs ++ ys) j=nth xs j:=by
 rw [nth_get _ _ (by rw [List.length_append]; omega),nth_get _ _ h,List.getElem_append_left h]
theorem nthR {xs ys:List Int} {j:Nat} (h:j<ys.length):nth (xs ++ ys) (xs.length+j)=nth ys j:=by
 rw [nth_get _ _ (by rw [List.length_append]; omega),nth_get _ _ h,List.getElem_append_right (by omega)]
 congr 1
 omega
theorem crStep_met {rs:List Int} {n i k m:Nat} {acc:List Int} (h:MetAll rs n acc):MetAll rs n (crStep rs n i k m acc):=by
 unfold crStep;split
 ·rename_i hc
  simp only [Bool.and_eq_true] at hc;have ht:=cr_thr rs hc.1;have hm:=hc.2.2;unfold crAll at hm;obtain ⟨q,hl,ha⟩:=h;refine ⟨q+1,by rw [List.length_append,hl]; simp; omega,fun j hj => ?_⟩
  by_cases e:j<q
  ·rw [nthL (by omega),nthL (by omega),nthL (by omega),nthL (by omega)]
   exact ha j e
  ·obtain rfl:j=q:=by omega
   have e0:j*4=acc.length+0:=by omega
   rw [e0,Nat.add_assoc,Nat.add_assoc,Nat.add_assoc,nthR (by simp),nthR (by simp),nthR (by simp),nthR (by simp)];exact ⟨ht,hm⟩
 ·exact h
theorem foldN_met {rs:List Int} {n:Nat} {f:Nat→List Int→List Int} (hf:∀ j a,MetAll rs n a→MetAll rs n (f j a)) {a:List Int} (h:MetAll rs n a):∀ t,MetAll rs n (foldN f t a)
 | 0=>h
 | t+1=>hf t _ (foldN_met hf h t)
theorem cornL_met (rs:List Int) (n:Nat):MetAll rs n (cornL rs n):=by
 have h0:MetAll rs n []:=⟨0,rfl,fun j hj=>absurd hj (by omega)⟩;cases e:cornB rs n
 ·rw [cornL_f e]; exact h0
 ·rw [cornL_t e]
  exact foldN_met (fun i a ha=>foldN_met (fun j a ha=>foldN_met (fun j a ha=>crStep_met ha) ha _) ha _) h0 _
theorem thr_stands {zs:List Int} {n:Nat} {ls:List Int} {q j:Nat} (h:j<thrN zs n ls q):stB zs n ls q (nth (thrL zs n ls q) (j*4)) (nth (thrL zs n ls q) (j*4+1)) (nth (thrL zs n ls q) (j*4+2)) (nth (thrL zs n ls q) (j*4+3))=true:=by
 obtain ⟨m,hl,ha⟩:=cornL_met (rowsZ zs n ls q) (rowsN zs n ls q);have hm:thrN zs n ls q=m:=by unfold thrN cornN; omega
 have hj:=ha j (by omega);have hB:cornB (rowsZ zs n ls q) (rowsN zs n ls q)=true:=by
  cases e:cornB (rowsZ zs n ls q) (rowsN zs n ls q)
  ·exfalso
   unfold thrN cornN at h;rw [cornL_f e] at h;simp at h
  ·rfl
 unfold cornB at hB;rw [Bool.and_eq_true] at hB;have hr:=allB_out hB.1;have hi:=inB_iff.1 hB.2;have ht:=allB_out hj.2;unfold stB thrL;refine fulAll_t (inB_iff.2 (by omega)) (fun i hi => ?_);have h1:=hr i hi;have h2:=ht i hi;unfold fulAt;rw [fulB_t hj.1 h1];exact h2
end X
namespace X
open Go.RowKit
def ThrAll (acc:List Int):Prop:=∃ q,acc.length=q*4∧∀ j,j<q→thrB (nth acc (j*4)) (nth acc (j*4+1)) (nth acc (j*4+2)) (nth acc (j*4+3))=true
theorem nth_left {xs ys:List Int} {j:Nat} (h:j<xs.length):nth (xs ++ ys) j=nth xs j:=by
 rw [nth_get _ _ (by rw [List.length_append]; omega),nth_get _ _ h,List.getElem_append_left h]
theorem nth_right {xs ys:List Int} {j:Nat} (h:j<ys.length):nth (xs ++ ys) (xs.length+j)=nth ys j:=by
 rw [nth_get _ _ (by rw [List.length_append]; omega),nth_get _ _ h,List.getElem_append_right (by omega)]
 congr 1
 omega
theorem crStep_thr {rs:List Int} {n i k m:Nat} {acc:List Int} (h:ThrAll acc):ThrAll (crStep rs n i k m acc):=by
 unfold crStep;split
 ·rename_i hc
  simp only [Bool.and_eq_true] at hc;have ht:=cr_thr rs hc.1;obtain ⟨q,hl,ha⟩:=h;refine ⟨q+1,by rw [List.length_append,hl]; simp; omega,fun j hj => ?_⟩
  by_cases e:j<q
  ·rw [nth_left (by omega),nth_left (by omega),nth_left (by omega),nth_left (by omega)]
   exact ha j e
  ·obtain rfl:j=q:=by omega
   have e0:j*4=acc.length+0:=by omega
   rw [e0,Nat.add_assoc,Nat.add_assoc,Nat.add_assoc,nth_right (by simp),nth_right (by simp),nth_right (by simp),nth_right (by simp)];exact ht
 ·exact h
theorem foldN_thr {f:Nat→List Int→List Int} (hf:∀ j a,ThrAll a→ThrAll (f j a)) {a:List Int} (h:ThrAll a):∀ t,ThrAll (foldN f t a)
 | 0=>h
 | t+1=>hf t _ (foldN_thr hf h t)
theorem cornL_thr (rs:List Int) (n:Nat):ThrAll (cornL rs n):=by
 have h0:ThrAll []:=⟨0,rfl,fun j hj=>absurd hj (by omega)⟩;cases e:cornB rs n
 ·rw [cornL_f e]; exact h0
 ·rw [cornL_t e]
  exact foldN_thr (fun i a ha=>foldN_thr (fun j a ha=>foldN_thr (fun j a ha=>crStep_thr ha) ha _) ha _) h0 _
end X
section
def pX (zs:List Int) (q:Nat):Int:=nth zs (q*2)
def pY (zs:List Int) (q:Nat):Int:=nth zs (q*2+1)
def dX (zs:List Int) (i o:Nat):Int:=pX zs (2*i) - pX zs (2*o+1)
def dY (zs:List Int) (i o:Nat):Int:=pY zs (2*i) - pY zs (2*o+1)
def StrI (zs:List Int) (n:Nat):Prop :=
 (∀ i o,i<n→o<n→dX zs i o=0→dY zs i o≤0) ∧
 (∀ i o i' o',i<n→o<n→i'<n→o'<n→0<dX zs i o→dX zs i' o'<0→dY zs i o*(-dX zs i' o')≤(-dY zs i' o')*dX zs i o)
end
end Go.Proofs.YtpblihmhpalkfaaGreat
