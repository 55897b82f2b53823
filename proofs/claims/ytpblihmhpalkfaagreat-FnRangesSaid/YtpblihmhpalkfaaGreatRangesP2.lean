/-
  Texts that the law stands on, part 2.
-/
import Derived.Test.YtpblihmhpalkfaaGreatRangesP1
import Derived.Test.YtpblihmhpalkfaaGreatJ10
import Derived.Test.YtpblihmhpalkfaaGreatJ11
import Derived.Test.YtpblihmhpalkfaaGreatJ15
import Derived.Test.YtpblihmhpalkfaaGreatJ17
import Derived.Test.YtpblihmhpalkfaaGreatJ19
import Derived.Test.YtpblihmhpalkfaaGreatJ20
import Derived.Test.YtpblihmhpalkfaaGreatJ21
import Derived.Deep.DeepCutAuto
import Derived.BigRegion
import Derived.Deep.RegionHeld3
import Derived.Outline
set_option maxRecDepth 100000
set_option linter.unusedVariables false
set_option linter.unusedSimpArgs false
namespace Go.Proofs.YtpblihmhpalkfaaGreat
namespace X
open Go.RowKit
theorem lwL_nth {zs ls:List Int} {q k j:Nat} (h:j<k):nth (lwL zs ls q k) j=leftW zs ls q j:=by simp [nth,lwL,List.getD,h]
theorem lmL_nth {zs ls:List Int} {q k j:Nat} (h:j<k):nth (lmL zs ls q k) j=leftM zs ls q j:=by simp [nth,lmL,List.getD,h]
theorem lwL_step (zs ls:List Int) (q k:Nat):lwL zs ls q (k+1) ++ [leftW zs ls q k+kwTo zs ls k q]=lwL zs ls q (k+1+1):=by simp [lwL,List.range_succ,leftW]
theorem lmL_step (zs ls:List Int) (q k:Nat):lmL zs ls q (k+1) ++ [leftM zs ls q k+kmTo zs ls k q]=lmL zs ls q (k+1+1):=by simp [lmL,List.range_succ,leftM]
def LeftPostO (w:World) (zs ls:List Int) (q n:Nat) (e:Ending) (w':World):Prop :=
 ∃ A c A' c',e = .returned (.tuple #[.slice A n c,.slice A' n c'])∧OwnR w' (w.heap.size+1) 3 1 (.slice A n c) n (lwL zs ls q n)∧OwnR w' (w.heap.size+1) 3 1 (.slice A' n c') n (lmL zs ls q n)∧Below w.heap.size w w'
theorem LRel.drewN {w wr:World} {zs ls:List Int} {q j:Nat} {va v6 v7:Value} (h:LRel w zs ls q j va v6 v7 wr) (m:Nat):LRel w zs ls q j va v6 v7 (wr.drewN m):=⟨h.ws,h.ms,h.apart,h.box.drewN m,below_drewN h.below m⟩
set_option maxRecDepth 100000 in
set_option maxHeartbeats 3200000 in
theorem sLeftO_any (A:Option Addr) (n c:Nat) (zs:List Int) (B:Option Addr) (q d:Nat) (ls:List Int) (w:World) (h:RecsAt w w.heap.size 4 A n zs) (hl:RecsAt w w.heap.size 3 B q ls) (hL:loadsB zs n ls q=true) :
  Calls Tryzx.prog 113 #[.agg #[.slice A n c],.slice B q d] w (LeftPostO w zs ls q n):=by
 obtain ⟨hA,hq6,hLA⟩:=loadsB_out hL;obtain ⟨hn8,hpt⟩:=archB_out hA;have HPT:=Lib.hid hpt;have HLA:=Lib.hid hLA;have HKB:=Lib.hid (fun k i hi=>kwTo_bd zs hLA hq6 k (i:=i) hi);have HMB:=Lib.hid (fun k i hi=>kmTo_bd zs hLA hq6 k (i:=i) hi);have HWB:=Lib.hid (leftW_bd zs hLA hq6);have HNB:=Lib.hid (leftM_bd zs hLA hq6);obtain ⟨b,off,rfl,hbB,hcell⟩:=h.2 (by omega);have HC:=Lib.hid (fun j (hj:j<n)=>jtCells hcell hj);have HLD:=Lib.hid hl;have HR0:Hid (LRel w zs ls q 1 (.slice (some ⟨b,off,none⟩) n c) (.slice (some ⟨w.heap.size+1,0,none⟩) 1 1) (.slice (some ⟨w.heap.size+1+1,0,none⟩) 1 1) (((w.alloc (.cells #[.slice (some ⟨b,off,none⟩) n c] 26)).alloc (.cells #[.int .i64 0] 3)).alloc (.cells #[.int .i64 0] 3))):=by
  have e1:(w.alloc (.cells #[.slice (some ⟨b,off,none⟩) n c] 26)).heap.size=w.heap.size+1:=World.size_alloc _ _;have e2:((w.alloc (.cells #[.slice (some ⟨b,off,none⟩) n c] 26)).alloc (.cells #[.int .i64 0] 3)).heap.size=w.heap.size+1+1:=by rw [World.size_alloc,e1]
  have h1:=World.ownsRow_lit (base:=w.heap.size+1) (e:=3) (size:=1) (w.alloc (.cells #[.slice (some ⟨b,off,none⟩) n c] 26)) #[.int .i64 0] 1 (by omega) (by simp [maxLen]) (by simp);have h2:=World.ownsRow_lit (base:=w.heap.size+1) (e:=3) (size:=1) ((w.alloc (.cells #[.slice (some ⟨b,off,none⟩) n c] 26)).alloc (.cells #[.int .i64 0] 3)) #[.int .i64 0] 1 (by omega) (by simp [maxLen]) (by simp);rw [e1] at h1;rw [e2] at h2;refine ⟨⟨World.ownsRow.alloc h1 _,by simp [lwL]⟩,⟨h2,by simp [lmL]⟩,?_,((rowF_new1S w _ _).alloc _).alloc _,(((Below.refl _ _).alloc (Nat.le_refl _) _).alloc (by simp) _).alloc (by simp; omega) _⟩
  intro k hk hk2;simp [Value.ownBlock] at hk hk2;omega
 clear hcell h hl hL hA hLA hpt;go_enter Tryzx.func113,Tryz.ntmps113;go_wp2;go_loopw [6,7,8] (fun v6 v7 v8 wr=>∃ k:Nat,k+1≤n∧v8 = .int .i64 ((k:Int)+1)∧Hid (LRel w zs ls q (k+1) (.slice (some ⟨b,off,none⟩) n c) v6 v7 wr)) (fun _ _ v8 _=>n - (intOf v8).toNat)
 case atStart=>exact ⟨0,by omega,rfl,HR0⟩
 case round =>
  clear HR0;obtain ⟨k,hk,rfl,HR⟩:=hrel;obtain ⟨A6,c6,rfl,hc6⟩:=HR.out.ws.slice;obtain ⟨A7,c7,rfl,hc7⟩:=HR.out.ms.slice;have hz:=HR.out.below.size;have hbox:wr.cell? ⟨w.heap.size,0,none⟩=some (.slice (some ⟨b,off,none⟩) n c):=HR.out.box.cell (by omega);have hgl:=HR.out.box.lt;by_cases hlt:k+1<n
  ·have hq:=HC.out k (by omega)
   have hq2:=HC.out (k+1) (by omega);have hbr:b<wr.heap.size:=by omega
   have x0:=(HR.out.below.cell (p:=⟨b,off+k*4,none⟩) hbB).trans hq.1;have x1:=(HR.out.below.cell (p:=⟨b,off+k*4+1,none⟩) hbB).trans hq.2.1;have x2:=(HR.out.below.cell (p:=⟨b,off+k*4+2,none⟩) hbB).trans hq.2.2.1;have x3:=(HR.out.below.cell (p:=⟨b,off+k*4+3,none⟩) hbB).trans hq.2.2.2;have y0:=(HR.out.below.cell (p:=⟨b,off+(k+1)*4,none⟩) hbB).trans hq2.1;have y1:=(HR.out.below.cell (p:=⟨b,off+(k+1)*4+1,none⟩) hbB).trans hq2.2.1;have y2:=(HR.out.below.cell (p:=⟨b,off+(k+1)*4+2,none⟩) hbB).trans hq2.2.2.1;have y3:=(HR.out.below.cell (p:=⟨b,off+(k+1)*4+3,none⟩) hbB).trans hq2.2.2.2;have i1:IntKind.i64.wrap (k:Int)=(k:Int):=IntWalk.i64_in _ (by omega);have i1':IntKind.i64.wrap ((k:Int)+1 - 1)=(k:Int):=by rw [Int.add_sub_cancel]; exact i1
   have i2:(k:Int)<(n:Int):=by omega
   have i3:(k:Int)+1<(n:Int):=by omega
   have i4:(0:Int)≤(k:Int)+1:=by omega
   have i5:((k:Int)+1).toNat=k+1:=by omega
   have i6:(0:Int)≤(k:Int):=by omega
   have i7:(k:Int)<(k:Int)+1:=by omega
   have i8:(k:Int)<((k+1:Nat):Int):=by omega
   have ne1:wr.heap.size ≠ w.heap.size:=by omega
   have ne2:wr.heap.size ≠ b:=by omega
   have HST:Hid (btwA zs k=btw (nth zs (k*4)) (nth zs (k*4+1)) (nth zs (k*4+2)) (nth zs (k*4+3)) (nth zs ((k+1)*4)) (nth zs ((k+1)*4+1)) (nth zs ((k+1)*4+2)) (nth zs ((k+1)*4+3))):=rfl;have hS:stoneB (btw (nth zs (k*4)) (nth zs (k*4+1)) (nth zs (k*4+2)) (nth zs (k*4+3)) (nth zs ((k+1)*4)) (nth zs ((k+1)*4+1)) (nth zs ((k+1)*4+2)) (nth zs ((k+1)*4+3))) 4=true:=by
    have:=HPT.out k (by omega);simp only [pairB,Bool.and_eq_true] at this;exact this.1
   clear hq hq2;obtain ⟨wk,rfl⟩:∃ wk:World,wk=wr:=⟨_,rfl⟩;go_upto_region 6 with fail
   go_cut [9] (fun s9 wx=>∃ gs gq:Nat,s9 = .pointer (some ⟨gs,0,none⟩)∧wk.heap.size≤gs∧Hid (Box wx gs (.slice (some ⟨gq,0,none⟩) 4 4))∧Hid (RecsAt wx wx.heap.size 2 (some ⟨gq,0,none⟩) 4 (btwA zs k))∧Hid (Below wk.heap.size wk wx))
   case first =>
    go_region_held3 (fun w'=>w'.cell? ⟨w.heap.size,0,none⟩=some (.slice (some ⟨b,off,none⟩) n c)∧(w'.cell? ⟨b,off+k*4,none⟩=some (.int .i64 (nth zs (k*4)))∧w'.cell? ⟨b,off+k*4+1,none⟩=some (.int .i64 (nth zs (k*4+1)))∧w'.cell? ⟨b,off+k*4+2,none⟩=some (.int .i64 (nth zs (k*4+2)))∧w'.cell? ⟨b,off+k*4+3,none⟩=some (.int .i64 (nth zs (k*4+3))))∧(w'.cell? ⟨b,off+(k+1)*4,none⟩=some (.int .i64 (nth zs ((k+1)*4)))∧w'.cell? ⟨b,off+(k+1)*4+1,none⟩=some (.int .i64 (nth zs ((k+1)*4+1)))∧w'.cell? ⟨b,off+(k+1)*4+2,none⟩=some (.int .i64 (nth zs ((k+1)*4+2)))∧w'.cell? ⟨b,off+(k+1)*4+3,none⟩=some (.int .i64 (nth zs ((k+1)*4+3))))) (first | exact ⟨hbox,⟨x0,x1,x2,x3⟩,⟨y0,y1,y2,y3⟩⟩ | (refine keepA (by assumption) (fun i => ?_) ?_ <;> first | exact cell_alloc_lt (by first | (simp; done) | (simp; omega) | omega) | exact (cell_alloc_lt (by first | (simp; done) | (simp; omega) | omega)).trans (cell_alloc_lt (by first | (simp; done) | (simp; omega) | omega)).symm | exact hcc _ _ (by first | (simp; done) | (simp; omega) | omega) | exact World.cell?_setCell_far _ _ _ _ (by first | (simp; done) | (simp; omega) | omega))) ((go_at_call 96; refine (sBetween_any _ _ _ _ _ _ _ _ _).mono ?_; rintro e w1 ⟨A1,n1,c1,rfl,ht,_,hb1⟩; obtain ⟨rfl,rfl,gq,rfl,hrq,hgq⟩:=ht hS; rw [hS]; obtain ⟨hcc,hff⟩:=bcell hb1; have k1:=hb1.size; simp at k1; have k2:w1.heap.size ≠ w.heap.size:=(by omega); have k3:w1.heap.size ≠ b:=(by omega)))
    ·go_wp2_with fail
     go_meet
     have hzk:=hb1.size;simp at hzk;have hgl2:=hrq.lt;exact ⟨w1.heap.size,gq,rfl,by omega,Lib.hid (Box.new _ _ _),Lib.hid ((show RowF (w1.alloc _) gq 43 (4*2) (ints (btwA zs k)) from hrq.alloc _).recs rfl),Lib.hid (((below_drewN (Below.refl wk.heap.size wk) 1).trans (hb1.mono (by simp))).alloc (by omega) _)⟩
    ·go_wp2_with fail
     go_meet
     have hzk:=hb1.size;simp at hzk;have hgl2:=hrq.lt;have hrw:=(rowF_new1S wk.drew (.slice none 0 0) 126).after hb1;simp at hgq;exact ⟨wk.heap.size,gq,rfl,by omega,Lib.hid (box_setS _ hrw),Lib.hid ((show RowF (w1.setCell _ _) gq 43 (4*2) (ints (btwA zs k)) from hrq.set_other (by simp; omega) _).recs rfl),Lib.hid ((((below_drewN (Below.refl wk.heap.size wk) 1).alloc (Nat.le_refl _) _).trans (hb1.mono (by simp))).setCell (by simp) _)⟩
   case rest =>
    clear x0 x1 x2 x3 y0 y1 y2 y3 hbox;obtain ⟨gs,gq,rfl,hgs,HBX,HRQ,HBW⟩:=hcut;have HRc:=Lib.hid (HR.out.after HBW.out);clear HR;obtain ⟨g6,o6,rfl,hg6,hc6'⟩:=HRc.out.ws.ints.2 (by omega);obtain ⟨g7,o7,rfl,hg7,hc7'⟩:=HRc.out.ms.ints.2 (by omega);have z6:=hc6' k (by omega);have z7:=hc7' k (by omega);rw [lwL_nth (by omega)] at z6;rw [lmL_nth (by omega)] at z7;have bxc:=HBX.out.1;have hgsl:=HBX.out.2;have hkw:=HKB.out k 0 (by omega);have hkm:=HMB.out k 0 (by omega);have hlw:=HWB.out k;have hlm:=HNB.out k;have e7:IntKind.i64.wrap (leftW zs ls q k+weightI (btwA zs k) 4)=leftW zs ls q k+kwTo zs ls k 0:=by
     have e:weightI (btwA zs k) 4=kwTo zs ls k 0:=(kwTo_0 zs ls k).symm;rw [e]; exact IntWalk.i64_in _ (by omega)
    have e8:IntKind.i64.wrap (leftM zs ls q k+overI facX (btwA zs k) 4)=leftM zs ls q k+kmTo zs ls k 0:=by
     have e:overI facX (btwA zs k) 4=kmTo zs ls k 0:=(kmTo_0 zs ls k).symm;rw [e]; exact IntWalk.i64_in _ (by omega)
    clear hc6' hc7';go_wp2;go_region_held3 (fun w'=>w'.cell? ⟨g6,o6+k,none⟩=some (.int .i64 (leftW zs ls q k))∧w'.cell? ⟨gs,0,none⟩=some (.slice (some ⟨gq,0,none⟩) 4 4)) (first | exact ⟨z6,bxc⟩ | exact ⟨(hcc _ _ (by simp; omega)).trans z6,(hcc _ _ (by simp; omega)).trans bxc⟩)
     ((go_at_call 106; refine (sWeightOf_any _ _ _ (btwA zs k) _ (by exact HRQ.out) (by omega)).mono ?_; rintro e w1 ⟨rfl,hb1⟩; obtain ⟨hcc,hff⟩:=bcell hb1))
    have HR1:=Lib.hid (HRc.out.drew.after hb1);have HRQ1:=Lib.hid ((show RecsAt wc.drew wc.drew.heap.size _ _ _ _ from HRQ.out).after hb1);have z71:w1.cell? ⟨g7,o7+k,none⟩=some (.int .i64 (leftM zs ls q k)):=(hcc _ _ (by simp; omega)).trans z7
    have bx1:w1.cell? ⟨gs,0,none⟩=some (.slice (some ⟨gq,0,none⟩) 4 4):=(hcc _ _ (by simp; omega)).trans bxc
    have hz1:=hb1.size;simp at hz1;have hl1:gs<w1.heap.size∧g7<w1.heap.size:=by omega
    have l1:=hl1.1;have l2:=hl1.2;clear hcc hff hb1 z6 z7 bxc HRc HRQ hl1;go_wp2;go_region_held3 (fun w'=>w'.cell? ⟨g7,o7+k,none⟩=some (.int .i64 (leftM zs ls q k))∧w'.cell? ⟨gs,0,none⟩=some (.slice (some ⟨gq,0,none⟩) 4 4)) (first | exact ⟨z71,bx1⟩ | exact ⟨(hcc _ _ (by simp; omega)).trans z71,(hcc _ _ (by simp; omega)).trans bx1⟩)
     ((go_at_call 107; refine (sMomentOf_any _ _ _ (btwA zs k) _ (by exact HRQ1.out) (by omega)).mono ?_; rintro e w2 ⟨rfl,hb2⟩; obtain ⟨hcc,hff⟩:=bcell hb2))
    have HR2:=Lib.hid (HR1.out.drew.after hb2);clear hcc hff hb2 z71 bx1 HR1 HRQ1 e7 e8;go_wp2;go_loopw [11,12,13] (fun v11 v12 v13 wr=>∃ i:Nat,i≤q∧v13 = .int .i64 i∧v11 = .int .i64 (leftW zs ls q k+kwTo zs ls k i)∧v12 = .int .i64 (leftM zs ls q k+kmTo zs ls k i)∧Hid (LRel w zs ls q (k+1) (.slice (some ⟨b,off,none⟩) n c) (.slice (some ⟨g6,o6,none⟩) (k+1) c6) (.slice (some ⟨g7,o7,none⟩) (k+1) c7) wr)) (fun _ _ v13 _=>q - (intOf v13).toNat)
    case atStart=>exact ⟨0,Nat.zero_le _,rfl,rfl,rfl,HR2⟩
    case round =>
     clear HR2;obtain ⟨i,hi,rfl,rfl,rfl,HR⟩:=hrel;have hkw:=HKB.out k i hi;have hkm:=HMB.out k i hi;by_cases hli:i<q
     ·obtain ⟨b2,off2,rfl,hb2B,hc2⟩:=HLD.out.2 (by omega)
      have hlc:=ldCells hc2 hli;have x0:=(HR.out.below.cell (p:=⟨b2,off2+i*3,none⟩) hb2B).trans hlc.1;have x1:=(HR.out.below.cell (p:=⟨b2,off2+i*3+1,none⟩) hb2B).trans hlc.2.1;have x2:=(HR.out.below.cell (p:=⟨b2,off2+i*3+2,none⟩) hb2B).trans hlc.2.2;have hlo:=loadAt_out (HLA.out i hli);have hkw2:=HKB.out k (i+1) (by omega);have hkm2:=HMB.out k (i+1) (by omega);have hwx:=wx_bd hlo.2.1 hlo.2.2;have ii1:(i:Int)<(q:Int):=by omega
      have ii0:(0:Int)≤(i:Int):=by omega
      clear hlc hc2;by_cases hs:nth ls (i*3)=(k:Int)
      ·have HW:=Lib.hid (kwTo_t zs hs)
       have HM:=Lib.hid (kmTo_t zs hs);have hd:(nth ls (i*3) == (k:Int))=true:=by simp [hs]
       have e4:IntKind.i64.wrap (nth ls (i*3+1)*nth ls (i*3+2))=nth ls (i*3+1)*nth ls (i*3+2):=IntWalk.i64_in _ (by omega);have e3:IntKind.i64.wrap (leftW zs ls q k+kwTo zs ls k i+nth ls (i*3+1))=leftW zs ls q k+kwTo zs ls k (i+1):=by
        have h:=HW.out;rw [h,← Int.add_assoc];exact IntWalk.i64_in _ (by omega)
       have e5:IntKind.i64.wrap (leftM zs ls q k+kmTo zs ls k i+nth ls (i*3+1)*nth ls (i*3+2))=leftM zs ls q k+kmTo zs ls k (i+1):=by
        have h:=HM.out;rw [h,← Int.add_assoc];exact IntWalk.i64_in _ (by omega)
       have HE:Hid (leftW zs ls q k+kwTo zs ls k i+nth ls (i*3+1)=leftW zs ls q k+kwTo zs ls k (i+1)):=by
        have h:=HW.out;show _=_
        omega
       clear hs hlo hkw hkm hkw2 hkm2 hlw hlm hwx;go_wp2;go_quiet (fail)
       go_wp2;go_roundw
       case rel=>exact ⟨i+1,by omega,by go_num,by first | rfl | rw [HE.out],by rfl,Lib.hid (HR.out.drewN _)⟩
       case measure=>simp [intOf]; omega
      ·have HW:=Lib.hid (kwTo_f zs hs)
       have HM:=Lib.hid (kmTo_f zs hs);have hd:(nth ls (i*3) == (k:Int))=false:=by simp [hs]
       clear hs hlo hkw hkm hkw2 hkm2 hlw hlm hwx;go_wp2;go_roundw
       case rel=>exact ⟨i+1,by omega,by go_num,by rw [HW.out],by rw [HM.out],HR⟩
       case measure=>simp [intOf]; omega
     ·obtain rfl:q=i:=by omega
      have HSW:=Lib.hid (lwL_step zs ls q k);have HSM:=Lib.hid (lmL_step zs ls q k);have hz2:=HR.out.below.size;generalize leftW zs ls q k+kwTo zs ls k q=nw at *
      generalize leftM zs ls q k+kmTo zs ls k q=nm at *
      have HB1:=Lib.hid (HR.out.below.alloc hz2 (.cells #[.int .i64 nw] 3));have hcn:∀ i,i<1*1→(wr.alloc (.cells #[.int .i64 nw] 3)).cell? ⟨wr.heap.size,i,none⟩=some (.int .i64 (nth [nw] i)):=fun i hi=>by
       obtain rfl:i=0:=by omega
       exact cell_new1 _ _ _
      have HCN:=Lib.hid hcn;clear hcn;have hbxl:=HR.out.box.lt;have HBXA:=Lib.hid (HR.out.box.alloc (.cells #[.int .i64 nw] 3));go_wp2_with (first
       | (at_builtin; refine wpList_appZ2 _ rfl (.tmp 88) (.tmp 90) 48 rfl (w.heap.size+1) 3 1 8 (.int .i64 0) Tryzx.underlying48 infoInt rfl (by decide) (by decide) _ (k+1) (lwL zs ls q (k+1)) rfl (by exact HR.out.ws.alloc _) wr.heap.size 1 1 [nw] rfl rfl (by exact HCN.out) (by omega) w.heap.size w (by exact HB1.out) (by omega) (by simp; omega) _ HSW.out _ _ _ (by exact HR.out.ms.alloc _) HR.out.apart ?_ (by omega); intro g' cap' w3 hown3 hb3 hoth3 hap3 hrow3; have hcn3:∀ i,i<1*1→(w3.alloc (.cells #[.int .i64 nm] 3)).cell? ⟨w3.heap.size,i,none⟩=some (.int .i64 (nth [nm] i)):=(fun i hi=>by obtain rfl:i=0:=(by omega); exact cell_new1 _ _ _); have HCN3:=Lib.hid hcn3; have hbx3:=hrow3 _ _ _ _ (by decide) HBXA.out; have hbx3l:=hbx3.lt; clear hcn3 hrow3)
       | (at_builtin; refine wpList_appZ2 _ rfl (.tmp 92) (.tmp 94) 48 rfl (w.heap.size+1) 3 1 8 (.int .i64 0) Tryzx.underlying48 infoInt rfl (by decide) (by decide) _ (k+1) (lmL zs ls q (k+1)) rfl (by exact hoth3.alloc _) w3.heap.size 1 1 [nm] rfl rfl (by exact HCN3.out) (by omega) w.heap.size w (by exact hb3.alloc hb3.size _) (by omega) (by simp; omega) _ HSM.out _ _ _ (by exact hown3.alloc _) hap3.symm ?_ (by omega); intro g4 cap4 w4 hown4 hb4 hoth4 hap4 hrow4))
      have HR4:Hid (LRel w zs ls q (k+1+1) (.slice (some ⟨b,off,none⟩) n c) (.slice (some ⟨g',0,none⟩) (k+1+1) cap') (.slice (some ⟨g4,0,none⟩) (k+1+1) cap4) w4) :=
       ⟨hoth4,hown4,hap4.symm,hrow4 _ _ _ _ (by decide) (hbx3.alloc _),hb4⟩
      clear hown3 hb3 hoth3 hap3 hown4 hb4 hoth4 hap4 hrow4 hbx3;go_wp2;go_roundw
      case rel=>exact ⟨k+1,by omega,by go_num,HR4⟩
      case measure=>simp [intOf]; omega
  ·obtain rfl:n=k+1:=by omega
   go_wp2;go_ret2;exact ⟨_,_,_,_,rfl,HR.out.ws,HR.out.ms,HR.out.below⟩
end X
namespace X
open Go.RowKit
def rowsN (zs:List Int) (n:Nat) (ls:List Int) (q:Nat):Nat:=if loadsB zs n ls q=true then n*2+1 else 0
def rowsZ (zs:List Int) (n:Nat) (ls:List Int) (q:Nat):List Int:=if loadsB zs n ls q=true then rowsL zs (leftW zs ls q) (leftM zs ls q) n else []
section
variable {zs : List Int} {n : Nat} {ls : List Int} {q : Nat}
theorem rows_t (h:loadsB zs n ls q=true):rowsN zs n ls q=n*2+1∧rowsZ zs n ls q=rowsL zs (leftW zs ls q) (leftM zs ls q) n:=by simp [rowsN,rowsZ,h]
theorem rows_f (h:loadsB zs n ls q=false):rowsN zs n ls q=0∧rowsZ zs n ls q = []:=by simp [rowsN,rowsZ,h]
theorem wmok_left (h:loadsB zs n ls q=true):WMok (leftW zs ls q) (leftM zs ls q) n:=by
 obtain ⟨hA,hq,hl⟩:=loadsB_out h;have hn:=(archB_out hA).1;intro k hk;have h1:=leftW_bd zs hl hq k;have h2:=leftM_bd zs hl hq k;omega
end
structure RSp (w wr:World) (va:Value) (g6 g7:Nat) (zs ls:List Int) (q n k:Nat) (v5:Value):Prop where
 arch:RowF wr w.heap.size 26 1 (fun _=>va)
 ws:RowF wr g6 3 n (ints (lwL zs ls q n))
 ms:RowF wr g7 3 n (ints (lmL zs ls q n))
 own:OwnR wr (w.heap.size+1) 130 4 v5 (k*2) (rowTo zs (leftW zs ls q) (leftM zs ls q) k)
 below:Below w.heap.size w wr
set_option maxRecDepth 100000 in
set_option maxHeartbeats 6400000 in
theorem sRowsOf_any (A:Option Addr) (n c:Nat) (zs:List Int) (B:Option Addr) (q d:Nat) (ls:List Int) (w:World) (h:RecsAt w w.heap.size 4 A n zs) (hn:n≤1048576) (hl:RecsAt w w.heap.size 3 B q ls) (hq:q≤1048576) :
  Calls Tryzx.prog 74 #[.agg #[.slice A n c],.slice B q d] w (RowsPost w (rowsN zs n ls q) (rowsZ zs n ls q)):=by
 have hs0:(w.alloc (.cells #[.slice A n c] 26)).heap.size=w.heap.size+1:=World.size_alloc _ _;have b0:Below w.heap.size w ((w.alloc (.cells #[.slice A n c] 26)).alloc (.cells #[] 130)):=((Below.refl _ _).alloc (Nat.le_refl _) _).alloc (by simp) _;have h1:=h.after b0;have l1:=hl.after b0;have r0:=(rowF1 w (.slice A n c) 26).alloc (.cells #[] 130);have a0:=r0.cell (i:=0) (by omega);have o0:OwnR ((w.alloc (.cells #[.slice A n c] 26)).alloc (.cells #[] 130)) (w.heap.size+1) 130 4 (.slice (some ⟨w.heap.size+1,0,none⟩) 0 0) 0 []:=by
  have h:=OwnR.new (w.alloc (.cells #[.slice A n c] 26)) 130 4;rw [hs0] at h;exact h
 have HB0:=Lib.hid b0;have HO0:=Lib.hid o0;have HR0:=Lib.hid r0;cases hL:loadsB zs n ls q
 ·have HF:=Lib.hid (rows_f hL)
  clear b0 o0 r0 hs0 h hl;go_enter Tryzx.func74,Tryz.ntmps74;go_wp2_with fail
  refine (sLoadsOk_any _ _ _ zs _ _ _ ls _ h1 hn l1 hq).mono ?_;rw [hL];rintro e w1 ⟨rfl,hb1⟩;have HO1:=Lib.hid (HO0.out.below hb1);have HB1:=Lib.hid (HB0.out.trans (hb1.mono HB0.out.size));clear hb1;go_wp2;go_ret;exact ⟨_,rfl,by rw [HF.out.1,HF.out.2]; exact HO1.out.weaken (by omega),HB1.out⟩
 ·have HT:=Lib.hid (rows_t hL)
  have hA:=(loadsB_out hL).1;have hn8:=(archB_out hA).1;have hwm:=wmok_left hL;have HJB:=Lib.hid (fun k (hk:k<n)=>jBd_of hA hwm hk);have HOK:=Lib.hid (fun i (hi:i<n*2+1)=>rowsL_ok hA hwm i hi);obtain ⟨b,off,rfl,hbB,hcell⟩:=h.2 (by omega);have HC:=Lib.hid (fun j (hj:j<n)=>jtCells hcell hj);clear b0 o0 r0 hs0 h hl hcell hA hwm;go_enter Tryzx.func74,Tryz.ntmps74;go_wp2_with fail
  refine (sLoadsOk_any _ _ _ zs _ _ _ ls _ h1 hn l1 hq).mono ?_;rw [hL];rintro e w1 ⟨rfl,hb1⟩;have HO1:=Lib.hid (HO0.out.below hb1);have HB1:=Lib.hid (HB0.out.trans (hb1.mono HB0.out.size));have HR1:=Lib.hid (HR0.out.after hb1);have h2:=h1.after hb1;have l2:=l1.after hb1;have a1:=HR1.out.cell (i:=0) (by omega);clear hb1 h1 l1 HO0 HB0 HR0 a0;go_wp2_with fail
  refine (sLeftO_any _ _ _ zs _ _ _ ls _ h2 l2 hL).mono ?_;rintro e W2 ⟨A6,c6,A7,c7,rfl,hi6,hi7,hb2⟩;obtain ⟨g6,rfl,hg6,hr6⟩:=hi6.rowInts (by omega);obtain ⟨g7,rfl,hg7,hr7⟩:=hi7.rowInts (by omega);have HST:Hid (RSp w W2 (.slice (some ⟨b,off,none⟩) n c) g6 g7 zs ls q n 0 (.slice (some ⟨w.heap.size+1,0,none⟩) 0 0)):=⟨HR1.out.after hb2,hr6,hr7,HO1.out.below hb2,HB1.out.trans (hb2.mono HB1.out.size)⟩;clear hi6 hi7 hb2 h2 l2 a1 hr6 hr7 HO1 HB1 HR1;go_wp2;go_loopw [5,8] (fun v5 v8 wr=>∃ (k:Nat),k≤n∧v8 = .int .i64 k∧Hid (RSp w wr (.slice (some ⟨b,off,none⟩) n c) g6 g7 zs ls q n k v5)) (fun _ v8 _=>n - (intOf v8).toNat)
  case atStart=>exact ⟨0,Nat.zero_le _,rfl,HST⟩
  case round =>
   clear HST;obtain ⟨k,hk,rfl,HR⟩:=hrel;have hz:=HR.out.below.size;have a0:wr.cell? ⟨w.heap.size,0,none⟩=some (.slice (some ⟨b,off,none⟩) n c):=HR.out.arch.cell (by omega);have hal:=HR.out.arch.lt;by_cases hlt:k<n
   ·have ki:(k:Int)<(n:Int):=by omega
    have k0:(0:Int)≤(k:Int):=by omega
    have hq:=HC.out k hlt;have x0:wr.cell? ⟨b,off+k*4,none⟩=some (.int .i64 (nth zs (k*4))):=(HR.out.below.cell (by exact hbB)).trans hq.1;have x1:wr.cell? ⟨b,off+k*4+1,none⟩=some (.int .i64 (nth zs (k*4+1))):=(HR.out.below.cell (by exact hbB)).trans hq.2.1;have x2:wr.cell? ⟨b,off+k*4+2,none⟩=some (.int .i64 (nth zs (k*4+2))):=(HR.out.below.cell (by exact hbB)).trans hq.2.2.1;have x3:wr.cell? ⟨b,off+k*4+3,none⟩=some (.int .i64 (nth zs (k*4+3))):=(HR.out.below.cell (by exact hbB)).trans hq.2.2.2;have HX:Hid (rowTo zs (leftW zs ls q) (leftM zs ls q) k ++ [nth zs (k*4+1),-nth zs (k*4),1,leftM zs ls q k - nth zs (k*4)*leftW zs ls q k,-nth zs (k*4+3),nth zs (k*4+2),-1,nth zs (k*4+2)*leftW zs ls q k - leftM zs ls q k]=rowTo zs (leftW zs ls q) (leftM zs ls q) (k+1)):=rfl;obtain ⟨e1,e2,e3,e4,e5,e6⟩:=jWraps (HJB.out k hlt);have z6:wr.cell? ⟨g6,k,none⟩=some (.int .i64 (leftW zs ls q k)):=by
     have h:=HR.out.ws.cell hlt;rw [ints_def,lwL_nth hlt] at h;exact h
    have z7:wr.cell? ⟨g7,k,none⟩=some (.int .i64 (leftM zs ls q k)):=by
     have h:=HR.out.ms.cell hlt;rw [ints_def,lmL_nth hlt] at h;exact h
    have HW6:=Lib.hid (lwL_nth (zs:=zs) (ls:=ls) (q:=q) hlt);have HM7:=Lib.hid (lmL_nth (zs:=zs) (ls:=ls) (q:=q) hlt);have g6l:=HR.out.ws.lt;have g7l:=HR.out.ms.lt;have HO:=Lib.hid HR.out.own;have HAr:=Lib.hid HR.out.arch;have HWs:=Lib.hid HR.out.ws;have HMs:=Lib.hid HR.out.ms;have HBl:=Lib.hid HR.out.below;clear hq HR;generalize leftW zs ls q k=lw at *
    generalize leftM zs ls q k=lm at *
    generalize nth zs (k*4)=ix at *
    generalize nth zs (k*4+1)=iy at *
    generalize nth zs (k*4+2)=ox at *
    generalize nth zs (k*4+3)=oy at *
    have hbl:b<wr.heap.size:=by omega
    have HU:=Lib.hid (show Below (w.heap.size+1) wr ((wr.alloc (.cells #[.int .i64 ix,.int .i64 iy] 43)).alloc (.cells #[.int .i64 ox,.int .i64 oy] 43)) from ((Below.refl (w.heap.size+1) wr).alloc (by omega) _).alloc (by simp; omega) _)
    have p0:=(rowC_new2 wr ix iy 43).alloc (.cells #[.int .i64 ox,.int .i64 oy] 43);have p1:RowF ((wr.alloc (.cells #[.int .i64 ix,.int .i64 iy] 43)).alloc (.cells #[.int .i64 ox,.int .i64 oy] 43)) (wr.heap.size+1) 43 2 (ints [ox,oy]):=by
     have h:=rowC_new2 (wr.alloc (.cells #[.int .i64 ix,.int .i64 iy] 43)) ox oy 43;rw [World.size_alloc] at h;exact h
    have P0:=Lib.hid p0;have P1:=Lib.hid p1;have HOA:=Lib.hid ((HO.out.alloc (.cells #[.int .i64 ix,.int .i64 iy] 43)).alloc (.cells #[.int .i64 ox,.int .i64 oy] 43));have HAA:=Lib.hid ((HAr.out.alloc (.cells #[.int .i64 ix,.int .i64 iy] 43)).alloc (.cells #[.int .i64 ox,.int .i64 oy] 43));have HWA:=Lib.hid ((HWs.out.alloc (.cells #[.int .i64 ix,.int .i64 iy] 43)).alloc (.cells #[.int .i64 ox,.int .i64 oy] 43));have HMA:=Lib.hid ((HMs.out.alloc (.cells #[.int .i64 ix,.int .i64 iy] 43)).alloc (.cells #[.int .i64 ox,.int .i64 oy] 43));have HBA:=Lib.hid (show Below w.heap.size w ((wr.alloc (.cells #[.int .i64 ix,.int .i64 iy] 43)).alloc (.cells #[.int .i64 ox,.int .i64 oy] 43)) from (HBl.out.alloc hz _).alloc (by simp; omega) _)
    have hww:wr.heap.size+2=((wr.alloc (.cells #[.int .i64 ix,.int .i64 iy] 43)).alloc (.cells #[.int .i64 ox,.int .i64 oy] 43)).heap.size:=by simp
    have HWW:=Lib.hid hww;clear p0 p1 hww;have HZ6:=Lib.hid ((show ∀ g i,g<wr.heap.size→((wr.alloc (.cells #[.int .i64 ix,.int .i64 iy] 43)).alloc (.cells #[.int .i64 ox,.int .i64 oy] 43)).cell? ⟨g,i,none⟩=wr.cell? ⟨g,i,none⟩ from fun g i hg=>World.cell?_of_block (a:=⟨g,i,none⟩) (((Below.refl _ _).alloc (Nat.le_refl _) _).alloc (by simp) _ |>.block g hg)) g6 k g6l |>.trans z6);have HZ7:=Lib.hid ((show ∀ g i,g<wr.heap.size→((wr.alloc (.cells #[.int .i64 ix,.int .i64 iy] 43)).alloc (.cells #[.int .i64 ox,.int .i64 oy] 43)).cell? ⟨g,i,none⟩=wr.cell? ⟨g,i,none⟩ from fun g i hg=>World.cell?_of_block (a:=⟨g,i,none⟩) (((Below.refl _ _).alloc (Nat.le_refl _) _).alloc (by simp) _ |>.block g hg)) g7 k g7l |>.trans z7);clear z6 z7;go_upto_region 10 with fail
    generalize hwx:((wr.alloc (.cells #[.int .i64 ix,.int .i64 iy] 43)).alloc (.cells #[.int .i64 ox,.int .i64 oy] 43))=wx at *
    have z6:=HZ6.out;have z7:=HZ7.out;have c0:=P0.out.cell (i:=0) (by omega);have c1:=P0.out.cell (i:=1) (by omega);have d0:=P1.out.cell (i:=0) (by omega);have d1:=P1.out.cell (i:=1) (by omega);simp only [ints_def] at c0 c1 d0 d1;have hwz:=HWW.out;clear x0 x1 x2 x3 a0 hwx;refine wp_region_held_drew (S:=fun w'=>(w'.cell? ⟨wr.heap.size,0,none⟩=some (.int .i64 ix)∧w'.cell? ⟨wr.heap.size,1,none⟩=some (.int .i64 iy))∧(w'.cell? ⟨wr.heap.size+1,0,none⟩=some (.int .i64 ox)∧w'.cell? ⟨wr.heap.size+1,1,none⟩=some (.int .i64 oy))∧w'.cell? ⟨g6,k,none⟩=some (.int .i64 lw)∧w'.cell? ⟨g7,k,none⟩=some (.int .i64 lm)) (by kernel_rfl) (by exact ⟨⟨c0,c1⟩,⟨d0,d1⟩,z6,z7⟩) (fun hHeld => ?_);refine take_heldS (i:=0) (d:=43) rfl rfl ?_;try simp only [Act.put,ly3]
    refine take_heldS (i:=1) (d:=44) rfl rfl ?_;try simp only [Act.put,ly3]
    refine take_heldS (i:=2) (d:=45) rfl rfl ?_;try simp only [Act.put,ly3]
    refine take_heldS (i:=3) (d:=46) rfl rfl ?_;try simp only [Act.put,ly3]
    refine take_heldS (i:=4) (d:=47) rfl rfl ?_;try simp only [Act.put,ly3]
    refine take_heldS (i:=5) (d:=48) rfl rfl ?_;try simp only [Act.put,ly3]
    refine take_heldS (i:=6) (d:=49) rfl rfl ?_;try simp only [Act.put,ly3]
    refine take_heldS (i:=7) (d:=50) rfl rfl ?_;try simp only [Act.put,ly3]
    refine take_heldS (i:=8) (d:=51) rfl rfl ?_;try simp only [Act.put,ly3]
    refine take_heldS (i:=9) (d:=52) rfl rfl ?_;try simp only [Act.put,ly3]
    refine take_heldS (i:=10) (d:=53) rfl rfl ?_;try simp only [Act.put,ly3]
    refine take_heldS (i:=11) (d:=54) rfl rfl ?_;try simp only [Act.put,ly3]
    refine take_heldS (i:=12) (d:=55) rfl rfl ?_;try simp only [Act.put,ly3]
    refine take_heldS (i:=13) (d:=56) rfl rfl ?_;try simp only [Act.put,ly3]
    refine take_heldS (i:=14) (d:=57) rfl rfl ?_;try simp only [Act.put,ly3]
    refine take_heldS (i:=15) (d:=58) rfl rfl ?_;try simp only [Act.put,ly3]
    refine take_heldS (i:=16) (d:=59) rfl rfl ?_;try simp only [Act.put,ly3]
    refine take_heldS (i:=17) (d:=60) rfl rfl ?_;try simp only [Act.put,ly3]
    refine take_heldS (i:=18) (d:=61) rfl rfl ?_;try simp only [Act.put,ly3]
    refine take_heldS (i:=19) (d:=62) rfl rfl ?_;try simp only [Act.put,ly3]
    refine take_heldS (i:=20) (d:=63) rfl rfl ?_;try simp only [Act.put,ly3]
    refine take_heldS (i:=21) (d:=64) rfl rfl ?_;try simp only [Act.put,ly3]
    refine take_heldS (i:=22) (d:=65) rfl rfl ?_;try simp only [Act.put,ly3]
    refine take_heldS (i:=23) (d:=66) rfl rfl ?_;try simp only [Act.put,ly3]
    refine take_heldS (i:=24) (d:=67) rfl rfl ?_;try simp only [Act.put,ly3]
    refine take_heldS (i:=25) (d:=68) rfl rfl ?_;try simp only [Act.put,ly3]
    refine take_heldS (i:=26) (d:=69) rfl rfl ?_;try simp only [Act.put,ly3]
    refine take_heldS (i:=27) (d:=70) rfl rfl ?_;try simp only [Act.put,ly3]
    refine take_heldS (i:=28) (d:=71) rfl rfl ?_;try simp only [Act.put,ly3]
    refine take_heldS (i:=29) (d:=72) rfl rfl ?_;try simp only [Act.put,ly3]
    refine take_heldS (i:=30) (d:=73) rfl rfl ?_;try simp only [Act.put,ly3]
    refine take_heldS (i:=31) (d:=74) rfl rfl ?_;try simp only [Act.put,ly3]
    refine take_heldS (i:=32) (d:=75) rfl rfl ?_;try simp only [Act.put,ly3]
    refine take_heldS (i:=33) (d:=76) rfl rfl ?_;try simp only [Act.put,ly3]
    refine take_heldS (i:=34) (d:=77) rfl rfl ?_;try simp only [Act.put,ly3]
    refine take_heldS (i:=35) (d:=78) rfl rfl ?_;try simp only [Act.put,ly3]
    refine take_heldS (i:=36) (d:=79) rfl rfl ?_;try simp only [Act.put,ly3]
    refine wpAnyH_ready (rs := [37]) (by kernel_rfl) (by simp) ?_;refine AllReadyH.cons rfl (fun K hK => ?_) AllReadyH.nil;go_simp
    skip
    refine hK.out _ _ (by exact ⟨⟨(P0.out.drew.alloc _).cell (i:=0) (by omega),(P0.out.drew.alloc _).cell (i:=1) (by omega)⟩,⟨(P1.out.drew.alloc _).cell (i:=0) (by omega),(P1.out.drew.alloc _).cell (i:=1) (by omega)⟩,(World.cell?_alloc_lt wx.drew _ ⟨g6,k,none⟩ (by simp; omega)).trans z6,(World.cell?_alloc_lt wx.drew _ ⟨g7,k,none⟩ (by simp; omega)).trans z7⟩) (fun hHeld => ?_)
    clear hK K;try simp only [Act.put,ly3]
    refine wpAnyH_ready (rs := [38]) (by kernel_rfl) (by simp) ?_;refine AllReadyH.cons rfl (fun K hK => ?_) AllReadyH.nil;refine step_appRT rfl (.tmp 43) (.tmp 80) 72 rfl (w.heap.size+1) 130 4 32 #[.int .i64 0,.int .i64 0,.int .i64 0,.int .i64 0] Tryzx.underlying72 infoRow rfl (by decide) (by decide) _ (k*2) _ rfl (by exact HOA.out.drewN 1 |>.alloc _) wx.heap.size 2 2 [iy,-ix,1,lm - ix*lw,-oy,ox,-1,ox*lw - lm] rfl rfl (by exact fun i hi=>(rowC_new8 wx.drew iy (-ix) 1 (lm - ix*lw) (-oy) ox (-1) (ox*lw - lm) 130).cell hi) (by omega) (w.heap.size+1) wr (by exact (HU.out.drew).alloc (by simp; omega) _) (by omega) (by simp; omega) _ HX.out (by omega) ?_; intro g' cap' w3 hown3 hb3 hrow3; have y6:w3.cell? ⟨g6,k,none⟩=some (.int .i64 lw):=(by have h:=(hrow3 _ _ _ _ (by decide) (HWA.out.drew.alloc _)).cell hlt; rw [ints_def,HW6.out] at h; exact h); have y7:w3.cell? ⟨g7,k,none⟩=some (.int .i64 lm):=(by have h:=(hrow3 _ _ _ _ (by decide) (HMA.out.drew.alloc _)).cell hlt; rw [ints_def,HM7.out] at h; exact h);refine hK.out _ _ (by exact ⟨⟨(hrow3 _ _ _ _ (by decide) (P0.out.drew.alloc _)).cell (i:=0) (by omega),(hrow3 _ _ _ _ (by decide) (P0.out.drew.alloc _)).cell (i:=1) (by omega)⟩,⟨(hrow3 _ _ _ _ (by decide) (P1.out.drew.alloc _)).cell (i:=0) (by omega),(hrow3 _ _ _ _ (by decide) (P1.out.drew.alloc _)).cell (i:=1) (by omega)⟩,y6,y7⟩) (fun hHeld => ?_);clear hK K;try simp only [Act.put,ly3]
    refine take_heldS (i:=39) (d:=5) rfl rfl ?_;try simp only [Act.put,ly3]
    refine wpAnyH_done (by kernel_rfl) ?_ _;have HR3:Hid (RSp w w3 (.slice (some ⟨b,off,none⟩) n c) g6 g7 zs ls q n (k+1) (.slice (some ⟨g',0,none⟩) (k*2+2) cap')) :=
     ⟨HAr.out.below hb3 (by omega),hrow3 _ _ _ _ (by decide) (HWA.out.drew.alloc _),hrow3 _ _ _ _ (by decide) (HMA.out.drew.alloc _),by rw [show (k+1)*2=k*2+2 by omega]; exact hown3,HBl.out.trans (hb3.mono (by omega))⟩
    clear hown3 hb3 hrow3 y6 y7;go_wp2;go_roundw
    case rel=>exact ⟨k+1,by omega,by go_num,HR3⟩
    case measure=>simp [intOf]; omega
   ·obtain rfl:n=k:=by omega
    have HU:Hid (rowTo zs (leftW zs ls q) (leftM zs ls q) n ++ [-1,0,0,0]=rowsL zs (leftW zs ls q) (leftM zs ls q) n):=rfl;have HO:=Lib.hid (HR.out.own.alloc (.cells #[.int .i64 (-1),.int .i64 0,.int .i64 0,.int .i64 0] 130));have HBA:=Lib.hid (HR.out.below.alloc hz (.cells #[.int .i64 (-1),.int .i64 0,.int .i64 0,.int .i64 0] 130));have HCN:Hid (∀ i,i<1*4→(wr.alloc (.cells #[.int .i64 (-1),.int .i64 0,.int .i64 0,.int .i64 0] 130)).cell? ⟨wr.heap.size,i,none⟩=some (.int .i64 (nth [-1,0,0,0] i))):=fun i hi=>(rowC_new4 wr (-1) 0 0 0 130).cell hi
    go_wp2_with (at_builtin; refine wpList_appR _ rfl (.tmp 82) (.tmp 84) 72 rfl (w.heap.size+1) 130 4 32 #[.int .i64 0,.int .i64 0,.int .i64 0,.int .i64 0] Tryzx.underlying72 infoRow rfl (by decide) (by decide) _ (n*2) _ rfl (by exact HO.out) wr.heap.size 1 1 [-1,0,0,0] rfl rfl (by exact HCN.out) (by omega) w.heap.size w (by exact HBA.out) (by omega) (by simp; omega) _ HU.out ?_ (by omega); intro g' cap' w3 hown3 hb3);have HO3:=Lib.hid hown3;have HB3:=Lib.hid hb3;generalize hrs:rowsL zs (leftW zs ls q) (leftM zs ls q) n=rs at *
    have HRS:=Lib.hid hrs;clear hown3 hb3 HU HO HBA HCN HR a0 hrs;go_wp2;go_loopw [11] (fun v11 wr=>∃ (j:Nat),j≤n*2+1∧v11 = .int .i64 j∧Hid (OwnR wr (w.heap.size+1) 130 4 (.slice (some ⟨g',0,none⟩) (n*2+1) cap') (n*2+1) rs)∧Hid (Below w.heap.size w wr)) (fun v11 _=>n*2+1 - (intOf v11).toNat)
    case atStart=>exact ⟨0,Nat.zero_le _,rfl,HO3,HB3⟩
    case round =>
     clear HO3 HB3;obtain ⟨j,hj,rfl,HO,HB⟩:=hrel;by_cases hjl:j<n*2+1
     ·obtain ⟨b',off',e,hbl',hc⟩:=HO.out.recs.2 (by omega)
      simp at e;obtain ⟨rfl,rfl⟩:=e;obtain ⟨x0,x1,x2,x3⟩:=rwCells hc hjl;simp only [Nat.zero_add] at x0 x1 x2 x3;have hok:rowB (nth rs (j*4)) (nth rs (j*4+1)) (nth rs (j*4+2)) (nth rs (j*4+3))=true:=HOK.out j hjl;have ji:(j:Int)<(((n*2+1:Nat)):Int):=by omega
      have j0:(0:Int)≤(j:Int):=by omega
      clear hc;generalize nth rs (j*4)=y0 at *
      generalize nth rs (j*4+1)=y1 at *
      generalize nth rs (j*4+2)=y2 at *
      generalize nth rs (j*4+3)=y3 at *
      go_wp2_with fail
      refine (sRowOk_any _ _ _ _ _).mono ?_;rw [hok];rintro e w4 ⟨rfl,hb4⟩;have HO4:=Lib.hid (HO.out.below hb4);have HB4:=Lib.hid (HB.out.trans (hb4.mono HB.out.size));clear hb4;go_wp2;go_roundw
      case rel=>exact ⟨j+1,by omega,by go_num,HO4,HB4⟩
      case measure=>first | (simp [intOf]; done) | (simp [intOf]; omega)
     ·obtain rfl:j=n*2+1:=by omega
      go_wp2;go_ret;exact ⟨_,rfl,by rw [HT.out.1,HT.out.2]; exact HO.out.weaken (by omega),HB.out⟩
end X
namespace X
open Go.RowKit
theorem sum_wm (zs ls:List Int) (q:Nat) {m:Nat}:∀ k,k≤m→sumW (wmL zs ls q m) k=leftW zs ls q k∧sumM (wmL zs ls q m) k=leftM zs ls q k
 | 0,_=>⟨rfl,rfl⟩
 | k+1,hk=>by
  have ih:=sum_wm zs ls q (m:=m) k (by omega);have h:=wmL_nth zs ls q (m:=m) (k:=k) (by omega);simp only [sumW,sumM,leftW,leftM,ih.1,ih.2,h.1,h.2];exact ⟨trivial,trivial⟩
set_option maxRecDepth 100000 in
set_option maxHeartbeats 1600000 in
theorem iRowsOfN_any (A : Option Addr) (n c : Nat) (zs : List Int) (B : Option Addr) (q d : Nat) (ls : List Int) (w : World) (h : RecsAt w w.heap.size 4 A n zs) (hn : n ≤ 1048576) (hl : RecsAt w w.heap.size 3 B q ls) (hq : q ≤ 1048576) :
    Calls Tryzx.prog 48 #[.agg #[.slice A n c], .slice B q d] w (RowsPostN w (rowsN zs n ls q) (rowsZ zs n ls q)) := by
  have b0 : Below w.heap.size w (w.alloc (.cells #[.slice A n c] 26)) := (Below.refl _ _).alloc (Nat.le_refl _) _;have h1 := h.after b0;have l1 := hl.after b0;have bx0 : Box (w.alloc (.cells #[.slice A n c] 26)) w.heap.size (.slice A n c) := Box.new _ _ _;cases hL : loadsB zs n ls q
  · have HF := Lib.hid (rows_f hL)
    go_enter Tryzx.func48, Tryz.ntmps48;go_wp2_with fail
    refine (iLoadsOk_any _ _ _ zs _ _ _ ls _ h1 hn l1 hq).mono ?_;rw [hL];rintro e w1 ⟨rfl, hb1⟩;have HB1 := Lib.hid (below_then b0 hb1);clear hb1;go_wp2;go_ret;exact ⟨⟨_, rfl, by rw [HF.out.1, HF.out.2]; exact OwnR.nil _ _ _ _, HB1.out⟩, fun _ => rfl⟩
  · have HT := Lib.hid (rows_t hL)
    have hA := (loadsB_out hL).1;have hn8 := (archB_out hA).1;have HE := Lib.hid (rowsL_congr (zs := zs) (n := n) (W := sumW (wmL zs ls q (n - 1))) (M := sumM (wmL zs ls q (n - 1))) (W' := leftW zs ls q) (M' := leftM zs ls q) (fun k hk => sum_wm zs ls q k (by omega)));have HWM : Hid (WMok (sumW (wmL zs ls q (n - 1))) (sumM (wmL zs ls q (n - 1))) n) := fun k hk => by
      have e := sum_wm zs ls q (m := n - 1) k (by omega);rw [e.1, e.2];exact wmok_left hL k hk
    go_enter Tryzx.func48, Tryz.ntmps48;go_wp2_with fail
    refine (iLoadsOk_any _ _ _ zs _ _ _ ls _ h1 hn l1 hq).mono ?_;rw [hL];rintro e w1 ⟨rfl, hb1⟩;have HB1 := Lib.hid (below_then b0 hb1);have bx1 := bx0.after hb1;have h2 := h1.after hb1;have l2 := l1.after hb1;have cx1 := bx1.1;clear hb1 b0 h1 l1 bx0 h hl;go_wp2;go_region_held3 (fun w' => w'.cell? ⟨w.heap.size, 0, none⟩ = some (.slice A n c)) (first | exact cx1 | exact cx2 | exact cx3)
      ((first
        | (go_at_call 91; refine (weightsOf_any _ _ _ zs _ _ _ ls _ (by exact h2) (by exact l2) hL).mono ?_; rintro e w2 ⟨g2, rfl, hg2, hr2, hbx2⟩; have hb2 := below_undrew hbx2; have h3 := h2.after hb2; have bx2 := bx1.after hb2; have cx2 := bx2.1; have HB2 := Lib.hid (below_then HB1.out hb2); have s2 : RecsAt w2 w2.heap.size 2 (some ⟨g2, 0, none⟩) (n - 1) (wmL zs ls q (n - 1)) := hr2.recs (wmL_len _ _ _ _))
        | (go_at_call 90; refine (rowsFor_any _ _ _ zs _ _ _ _ (by exact h3) (by exact s2) hA HWM.out).mono ?_; rintro e w3 ⟨v3, rfl, ho3, hb3⟩; have cx3 := (bx2.after hb3).1; have HB3 := Lib.hid (below_then HB2.out hb3))))
    obtain ⟨A3, c3, rfl, _⟩ := ho3.slice;have HO3 := Lib.hid (ho3.weaken HB2.out.size);clear ho3 hb3 hb2 hbx2 hr2 h2 h3 l2 s2 bx1 bx2 cx1 cx2 cx3;go_wp2;go_ret;exact ⟨⟨_, rfl, by rw [HT.out.1, HT.out.2, ← HE.out]; exact HO3.out, HB3.out⟩, fun h0 => by have := HT.out.1; omega⟩
theorem iRowsOf_any (A:Option Addr) (n c:Nat) (zs:List Int) (B:Option Addr) (q d:Nat) (ls:List Int) (w:World) (h:RecsAt w w.heap.size 4 A n zs) (hn:n≤1048576) (hl:RecsAt w w.heap.size 3 B q ls) (hq:q≤1048576) :
  Calls Tryzx.prog 48 #[.agg #[.slice A n c],.slice B q d] w (RowsPost w (rowsN zs n ls q) (rowsZ zs n ls q)) :=
 (iRowsOfN_any A n c zs B q d ls w h hn hl hq).mono fun _ _ h=>h.1
end X
namespace X
open Go.RowKit
theorem rowsN_few (zs:List Int) (n:Nat) (ls:List Int) (q:Nat):rowsN zs n ls q≤17:=by
 unfold rowsN;split
 ·rename_i h
  have:=(archB_out (loadsB_out h).1).1;omega
 ·omega
def thrN (zs:List Int) (n:Nat) (ls:List Int) (q:Nat):Nat:=cornN (rowsZ zs n ls q) (rowsN zs n ls q)
def thrL (zs:List Int) (n:Nat) (ls:List Int) (q:Nat):List Int:=cornL (rowsZ zs n ls q) (rowsN zs n ls q)
def ThrPost (w:World) (m:Nat) (L:List Int) (e:Ending) (w':World):Prop :=
 ∃ v,e = .returned v∧OwnR w' w.heap.size 31 4 v m L∧Below w.heap.size w w'
section
variable (A : Option Addr) (n c : Nat) (zs : List Int) (B : Option Addr) (q d : Nat) (ls : List Int) (w : World) (h : RecsAt w w.heap.size 4 A n zs) (hn : n ≤ 1048576) (hl : RecsAt w w.heap.size 3 B q ls) (hq : q ≤ 1048576)
include h hn hl hq
set_option maxRecDepth 100000 in
set_option maxHeartbeats 3200000 in
theorem sThr_any:Calls Tryzx.prog 35 #[.agg #[.slice A n c],.slice B q d] w (ThrPost w (thrN zs n ls q) (thrL zs n ls q)):=by
 have b0:Below w.heap.size w (w.alloc (.cells #[.slice A n c] 26)):=(Below.refl _ _).alloc (Nat.le_refl _) _;have h1:=h.after b0;have l1:=hl.after b0;have bx0:Box (w.alloc (.cells #[.slice A n c] 26)) w.heap.size (.slice A n c):=Box.new _ _ _;have cx0:=bx0.1;go_enter Tryzx.func35,Tryz.ntmps35;go_wp2_with fail
 refine (sRowsOf_any _ _ _ zs _ _ _ ls _ (by exact h1) hn (by exact l1) hq).mono ?_;rintro e w1 ⟨v1,rfl,ho1,hb1⟩;have HB1:=Lib.hid (below_then b0 hb1);obtain ⟨A1,c1,rfl,_⟩:=ho1.slice;have r1:=ho1.recs;go_wp2_with fail
 refine (sCorners_any _ _ _ (rowsZ zs n ls q) _ (by exact r1) (by have:=rowsN_few zs n ls q; omega)).mono ?_
 rintro e w2 ⟨v2,rfl,ho2,hb2⟩;have HB2:=Lib.hid (below_then HB1.out hb2);have HO2:=Lib.hid (ho2.weaken HB1.out.size);clear ho2 hb2 ho1 hb1 r1 cx0;go_wp2;go_ret;exact ⟨_,rfl,HO2.out,HB2.out⟩
set_option maxRecDepth 100000 in
set_option maxHeartbeats 3200000 in
theorem iThr_any:Calls Tryzx.prog 11 #[.agg #[.slice A n c],.slice B q d] w (ThrPost w (thrN zs n ls q) (thrL zs n ls q)):=by
 have b0:Below w.heap.size w (w.alloc (.cells #[.slice A n c] 26)):=(Below.refl _ _).alloc (Nat.le_refl _) _;have h1:=h.after b0;have l1:=hl.after b0;have bx0:Box (w.alloc (.cells #[.slice A n c] 26)) w.heap.size (.slice A n c):=Box.new _ _ _;have cx0:=bx0.1;go_enter Tryzx.func11,Tryz.ntmps11;go_wp2_with fail
 refine (iRowsOfN_any _ _ _ zs _ _ _ ls _ (by exact h1) hn (by exact l1) hq).mono ?_;rintro e w1 ⟨⟨v1,rfl,ho1,hb1⟩,hz1⟩;have HB1:=Lib.hid (below_then b0 hb1);obtain ⟨A1,c1,rfl,_⟩:=ho1.slice;have r1:=ho1.recs;have n1:rowsN zs n ls q=0→A1=none:=fun h0=>by have:=hz1 h0; simp at this; exact this.1
 go_wp2_with fail
 refine (xCorners_any _ _ _ (rowsZ zs n ls q) _ (by exact r1) (by have:=rowsN_few zs n ls q; omega) n1).mono ?_
 rintro e w2 ⟨v2,rfl,he2,hb2⟩;have HB2:=Lib.hid (below_then HB1.out hb2);have HO2:=Lib.hid (he2.own.weaken HB1.out.size);clear he2 hb2 ho1 hb1 r1 cx0 n1 hz1;go_wp2;go_ret;exact ⟨_,rfl,HO2.out,HB2.out⟩
end
end X
namespace X
open Go.RowKit
theorem ret_bool2 {a b:Bool} (h:a=b):Ending.returned (.bool a)=Ending.returned (.bool b):=by rw [h]
set_option maxRecDepth 100000 in
set_option maxHeartbeats 1600000 in
theorem sStd_any (A:Option Addr) (n c:Nat) (zs:List Int) (B:Option Addr) (q d:Nat) (ls:List Int) (w:World) (h:RecsAt w w.heap.size 4 A n zs) (hn:n≤1048576) (hl:RecsAt w w.heap.size 3 B q ls) (hq:q≤1048576) :
  Calls Tryzx.prog 30 #[.agg #[.slice A n c],.slice B q d] w fun e w'=>e = .returned (.bool (decide (0<(thrN zs n ls q:Int))))∧Below w.heap.size w w':=by
 have b0:Below w.heap.size w (w.alloc (.cells #[.slice A n c] 26)):=(Below.refl _ _).alloc (Nat.le_refl _) _;have h1:=h.after b0;have l1:=hl.after b0;have HB0:=Lib.hid b0;clear b0 h hl;go_enter Tryzx.func30,Tryz.ntmps30;go_wp2_with fail
 refine (sThr_any _ _ _ zs _ _ _ ls _ h1 hn l1 hq).mono ?_;rintro e w2 ⟨v2,rfl,ho2,hb2⟩;obtain ⟨A2,c2,rfl,_⟩:=ho2.slice;have HB2:=Lib.hid (HB0.out.trans (hb2.mono HB0.out.size));clear hb2 ho2;obtain ⟨N,hN⟩:∃ N,thrN zs n ls q=N:=⟨_,rfl⟩;have HN:Hid (decide (0<N)=decide (0<(thrN zs n ls q:Int))):=Lib.hid (by rw [hN]; simp)
 rw [hN];clear hN;go_wp2;go_ret;exact ⟨ret_bool2 HN.out,HB2.out⟩
end X
section
open Go.RowKit
theorem OwnR.onlyB {w w':World} {g base:Nat} {E:TypeId} {K n:Nat} {v:Value} {xs:List Int} (h:OwnR w base E K v n xs) (ho:Only g w w') (hg:g<base):OwnR w' base E K v n xs:=by
 refine ⟨⟨h.1.1,?_⟩,h.2⟩;rcases h.1.2 with h2 | ⟨g',cap,cur,h1,h2,h3,hr⟩
 ·exact .inl h2
 ·exact .inr ⟨g',cap,cur,h1,h2,(ho.block g' (by omega)).trans h3,hr⟩
end
namespace X
open Go.RowKit
theorem infoLoad:(Tryzx.prog.info? 154).map (fun i=>(i.zero,i.size,i.bytes))=some (some (.agg #[.int .i64 0,.int .i64 0,.int .i64 0]),3,24):=by kernel_rfl
end X
end Go.Proofs.YtpblihmhpalkfaaGreat
