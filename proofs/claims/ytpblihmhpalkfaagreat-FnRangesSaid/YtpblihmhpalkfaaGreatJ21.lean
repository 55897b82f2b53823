/-
  Texts that the law stands on, part 21.
-/
import Derived.Test.YtpblihmhpalkfaaGreatJ1
import Derived.Test.YtpblihmhpalkfaaGreatJ11
import Derived.Test.YtpblihmhpalkfaaGreatJ16
import Derived.Test.YtpblihmhpalkfaaGreatJ17
import Derived.Test.YtpblihmhpalkfaaGreatJ20
import Derived.Test.YtpblihmhpalkfaaGreatJ9
import Derived.Test.YtpblihmhpalkfaaGreatJ10
import Derived.Deep.RegionLaw
import Derived.BigRegion
import Derived.Deep.DeepCutAuto
set_option maxRecDepth 100000
set_option linter.unusedVariables false
set_option linter.unusedSimpArgs false
namespace Go.Proofs.YtpblihmhpalkfaaGreat
namespace X
open Go.RowKit
theorem infoRow:(Tryzx.prog.info? 130).map (fun i=>(i.zero,i.size,i.bytes))=some (some (.agg #[.int .i64 0,.int .i64 0,.int .i64 0,.int .i64 0]),4,32):=by kernel_rfl
def RowsPost (w:World) (m:Nat) (L:List Int) (e:Ending) (w':World):Prop :=
 ∃ v,e = .returned v∧OwnR w' w.heap.size 130 4 v m L∧Below w.heap.size w w'
def RowsPostN (w:World) (m:Nat) (L:List Int) (e:Ending) (w':World):Prop:=RowsPost w m L e w'∧(m=0→e = .returned (.slice none 0 0))
theorem sum_past {xs:List Int} {k:Nat} (hl:xs.length=k*2):sumW xs (k+1)=sumW xs k∧sumM xs (k+1)=sumM xs k:=by
 have h1:nth xs (k*2)=0:=by simp [nth,List.getD,List.getElem?_eq_none (show xs.length≤k*2 by omega)]
 have h2:nth xs (k*2+1)=0:=by simp [nth,List.getD,List.getElem?_eq_none (show xs.length≤k*2+1 by omega)]
 exact ⟨by simp [sumW,h1],by simp [sumM,h2]⟩
structure RFor (w wr:World) (va:Value) (zs xs:List Int) (k:Nat) (v5:Value):Prop where
 arch:RowF wr w.heap.size 26 1 (fun _=>va)
 left:RowF wr (w.heap.size+1) 143 2 (ints [sumW xs k,sumM xs k])
 own:OwnR wr (w.heap.size+2) 130 4 v5 (k*2) (rowTo zs (sumW xs) (sumM xs) k)
 below:Below w.heap.size w wr
theorem rfor_start (w:World) (va:Value) (zs xs:List Int):RFor w ((w.alloc (.cells #[va] 26)).alloc (.cells #[.int .i64 0,.int .i64 0] 143)) va zs xs 0 (.slice none 0 0):=by
 refine ⟨(RowF.of_row (World.rowIs_alloc w #[va] _ (fun _=>va) (fun i hi=>by simp at hi; subst hi; rfl))).alloc _,?_,OwnR.nil _ _ _ _,((Below.refl _ _).alloc (Nat.le_refl _) _).alloc (by simp) _⟩
 have h:=RowF.of_row (World.rowIs_alloc (w.alloc (.cells #[va] 26)) #[.int .i64 0,.int .i64 0] 143 (ints [0,0]) (fun i hi=>by simp at hi; match i,hi with | 0,_=>rfl | 1,_=>rfl))
 rw [World.size_alloc] at h;exact h
theorem RFor.drew {w wr:World} {va:Value} {zs xs:List Int} {k:Nat} {v5:Value} (h:RFor w wr va zs xs k v5):RFor w wr.drew va zs xs k v5:=⟨h.arch.drew,h.left.drew,h.own.drew,h.below.drew⟩
theorem rowC_new4 (w:World) (a b c d:Int) (T:TypeId):RowF (w.alloc (.cells #[.int .i64 a,.int .i64 b,.int .i64 c,.int .i64 d] T)) w.heap.size T 4 (ints [a,b,c,d]) :=
 RowF.of_row (World.rowIs_alloc w #[.int .i64 a,.int .i64 b,.int .i64 c,.int .i64 d] T _ (fun j hj=>by simp at hj; match j,hj with | 0,_=>rfl | 1,_=>rfl | 2,_=>rfl | 3,_=>rfl))
theorem rowC_new8 (w:World) (a b c d e f g h:Int) (T:TypeId):RowF (w.alloc (.cells #[.int .i64 a,.int .i64 b,.int .i64 c,.int .i64 d,.int .i64 e,.int .i64 f,.int .i64 g,.int .i64 h] T)) w.heap.size T 8 (ints [a,b,c,d,e,f,g,h]) :=
 RowF.of_row (World.rowIs_alloc w #[.int .i64 a,.int .i64 b,.int .i64 c,.int .i64 d,.int .i64 e,.int .i64 f,.int .i64 g,.int .i64 h] T _ (fun j hj=>by simp at hj; match j,hj with | 0,_=>rfl | 1,_=>rfl | 2,_=>rfl | 3,_=>rfl | 4,_=>rfl | 5,_=>rfl | 6,_=>rfl | 7,_=>rfl))
theorem jWraps {ix iy ox oy w m:Int} (h:JBd ix iy ox oy w m):IntKind.i64.wrap (-ix) = -ix∧IntKind.i64.wrap (-oy) = -oy∧IntKind.i64.wrap (ix*w)=ix*w∧IntKind.i64.wrap (m - ix*w)=m - ix*w∧IntKind.i64.wrap (ox*w)=ox*w∧IntKind.i64.wrap (ox*w - m)=ox*w - m:=by
 obtain ⟨h1,h2,h3,h4,h5,h6⟩:=h;exact ⟨IntWalk.i64_in _ (by omega),IntWalk.i64_in _ (by omega),IntWalk.i64_in _ (by omega),IntWalk.i64_in _ (by omega),IntWalk.i64_in _ (by omega),IntWalk.i64_in _ (by omega)⟩
set_option maxRecDepth 100000 in
set_option maxHeartbeats 3200000 in
theorem rowsFor_any (A:Option Addr) (n c:Nat) (zs:List Int) (B:Option Addr) (d:Nat) (xs:List Int) (w:World) (h:RecsAt w w.heap.size 4 A n zs) (hs:RecsAt w w.heap.size 2 B (n - 1) xs) (hA:archB zs n=true) (hb:WMok (sumW xs) (sumM xs) n) :
  Calls Tryzx.prog 90 #[.agg #[.slice A n c],.slice B (n - 1) d] w (RowsPost w (n*2+1) (rowsL zs (sumW xs) (sumM xs) n)):=by
 have hn8:=(archB_out hA).1;obtain ⟨m,rfl⟩:∃ m,n=m+1:=⟨n - 1,by omega⟩;rw [Nat.add_sub_cancel] at hs ⊢;obtain ⟨b,off,rfl,hbB,hcell⟩:=h.2 (by omega);obtain ⟨bs,offs,rfl,hbS,hcs⟩:=hs.2 (by omega);have HC:=Lib.hid (fun j (hj:j<m+1)=>jtCells hcell hj);have HCS:=Lib.hid hcs;have HPAST:=Lib.hid (sum_past hs.1);have HB:=Lib.hid hb;have HJB:=Lib.hid (fun k (hk:k<m+1)=>jBd_of hA hb hk);have HOK:=Lib.hid (allB_t (rowsL_ok hA hb));have ST:=Lib.hid (rfor_start w (.slice (some ⟨b,off,none⟩) (m+1) c) zs xs);have hz0:((w.alloc (.cells #[.slice (some ⟨b,off,none⟩) (m+1) c] 26)).alloc (.cells #[.int .i64 0,.int .i64 0] 143)).heap.size=w.heap.size+1+1:=by simp
 clear hcell hcs h hs hA hb;go_enter Tryzx.func90,Tryz.ntmps90;go_wp2;go_loopw [5,12] (fun v5 v12 wr=>∃ (k:Nat),k≤m+1∧v12 = .int .i64 k∧Hid (RFor w wr (.slice (some ⟨b,off,none⟩) (m+1) c) zs xs k v5)) (fun _ v12 _=>m+1 - (intOf v12).toNat)
 case atStart=>exact ⟨0,Nat.zero_le _,rfl,ST⟩
 case round =>
  clear ST;obtain ⟨k,hk,rfl,HR⟩:=hrel;have hz:=HR.out.below.size;have hll:=HR.out.left.lt;by_cases hlt:k<m+1
  ·have ki:(k:Int)<((m+1:Nat):Int):=by omega
   have k0:(0:Int)≤(k:Int):=by omega
   have a0:wr.cell? ⟨w.heap.size,0,none⟩=some (.slice (some ⟨b,off,none⟩) (m+1) c):=HR.out.arch.cell (by omega);have hq:=HC.out k hlt;have x0:wr.cell? ⟨b,off+k*4,none⟩=some (.int .i64 (nth zs (k*4))):=(HR.out.below.cell (by exact hbB)).trans hq.1;have x1:wr.cell? ⟨b,off+k*4+1,none⟩=some (.int .i64 (nth zs (k*4+1))):=(HR.out.below.cell (by exact hbB)).trans hq.2.1;have x2:wr.cell? ⟨b,off+k*4+2,none⟩=some (.int .i64 (nth zs (k*4+2))):=(HR.out.below.cell (by exact hbB)).trans hq.2.2.1;have x3:wr.cell? ⟨b,off+k*4+3,none⟩=some (.int .i64 (nth zs (k*4+3))):=(HR.out.below.cell (by exact hbB)).trans hq.2.2.2;have HX:Hid (rowTo zs (sumW xs) (sumM xs) k ++ [nth zs (k*4+1),-nth zs (k*4),1,sumM xs k - nth zs (k*4)*sumW xs k,-nth zs (k*4+3),nth zs (k*4+2),-1,nth zs (k*4+2)*sumW xs k - sumM xs k]=rowTo zs (sumW xs) (sumM xs) (k+1)):=rfl;obtain ⟨e1,e2,e3,e4,e5,e6⟩:=jWraps (HJB.out k hlt);have HSW:Hid (∀ a b,sumW xs k=a→sumM xs k=b→sumW xs (k+1)=a+nth xs (k*2)∧sumM xs (k+1)=b+nth xs (k*2+1)):=fun a b h1 h2=>by subst h1; subst h2; exact ⟨rfl,rfl⟩
   have HL:=Lib.hid HR.out.left;have HO:=Lib.hid HR.out.own;have HAr:=Lib.hid HR.out.arch;have HBl:=Lib.hid HR.out.below;clear hq HR;generalize hWk:sumW xs k=lw at *
   generalize hMk:sumM xs k=lm at *
   have HWM:=Lib.hid (HSW.out _ _ rfl rfl);have HWk:=Lib.hid hWk;have HMk:=Lib.hid hMk;clear HSW hWk hMk;generalize nth zs (k*4)=ix at *
   generalize nth zs (k*4+1)=iy at *
   generalize nth zs (k*4+2)=ox at *
   generalize nth zs (k*4+3)=oy at *
   obtain ⟨⟨z0,z1,z2,z3⟩,_⟩:=Box4.new wr ix iy ox oy 45;have hla:=HL.out.alloc (.cells #[.int .i64 ix,.int .i64 iy,.int .i64 ox,.int .i64 oy] 45);have l0:(wr.alloc (.cells #[.int .i64 ix,.int .i64 iy,.int .i64 ox,.int .i64 oy] 45)).cell? ⟨w.heap.size+1,0,none⟩=some (.int .i64 lw):=hla.cell (by omega);have l1:(wr.alloc (.cells #[.int .i64 ix,.int .i64 iy,.int .i64 ox,.int .i64 oy] 45)).cell? ⟨w.heap.size+1,1,none⟩=some (.int .i64 lm):=hla.cell (by omega);clear hla;have HBA:=Lib.hid (((Below.refl (w.heap.size+2) wr).alloc (by omega) (.cells #[.int .i64 ix,.int .i64 iy,.int .i64 ox,.int .i64 oy] 45)).alloc (by simp; omega) (.cells #[.int .i64 iy,.int .i64 (-ix),.int .i64 1,.int .i64 (lm - ix*lw),.int .i64 (-oy),.int .i64 ox,.int .i64 (-1),.int .i64 (ox*lw - lm)] 130))
   have HOA:=Lib.hid ((HO.out.alloc (.cells #[.int .i64 ix,.int .i64 iy,.int .i64 ox,.int .i64 oy] 45)).alloc (.cells #[.int .i64 iy,.int .i64 (-ix),.int .i64 1,.int .i64 (lm - ix*lw),.int .i64 (-oy),.int .i64 ox,.int .i64 (-1),.int .i64 (ox*lw - lm)] 130));have HCN:Hid (∀ i,i<2*4→((wr.alloc (.cells #[.int .i64 ix,.int .i64 iy,.int .i64 ox,.int .i64 oy] 45)).alloc (.cells #[.int .i64 iy,.int .i64 (-ix),.int .i64 1,.int .i64 (lm - ix*lw),.int .i64 (-oy),.int .i64 ox,.int .i64 (-1),.int .i64 (ox*lw - lm)] 130)).cell? ⟨wr.heap.size+1,i,none⟩=some (.int .i64 (nth [iy,-ix,1,lm - ix*lw,-oy,ox,-1,ox*lw - lm] i))):=by
    intro i hi;have h:=rowC_new8 (wr.alloc (.cells #[.int .i64 ix,.int .i64 iy,.int .i64 ox,.int .i64 oy] 45)) iy (-ix) 1 (lm - ix*lw) (-oy) ox (-1) (ox*lw - lm) 130;rw [World.size_alloc] at h;exact h.cell hi
   have hW0:w.heap.size+2≤((wr.alloc (.cells #[.int .i64 ix,.int .i64 iy,.int .i64 ox,.int .i64 oy] 45)).alloc (.cells #[.int .i64 iy,.int .i64 (-ix),.int .i64 1,.int .i64 (lm - ix*lw),.int .i64 (-oy),.int .i64 ox,.int .i64 (-1),.int .i64 (ox*lw - lm)] 130)).heap.size:=by simp; omega
   by_cases hkm:k<m
   ·have hkm':(k:Int)<(m:Int):=by omega
    go_wp2_with (at_builtin; refine wpList_appR _ rfl (.tmp 17) (.tmp 52) 72 rfl (w.heap.size+2) 130 4 32 #[.int .i64 0,.int .i64 0,.int .i64 0,.int .i64 0] Tryzx.underlying72 infoRow rfl (by decide) (by decide) _ (k*2) _ rfl (by exact HOA.out) (wr.heap.size+1) 2 2 [iy,-ix,1,lm - ix*lw,-oy,ox,-1,ox*lw - lm] rfl rfl (by exact HCN.out) (by omega) (w.heap.size+2) wr (by exact HBA.out) (Nat.le_refl _) hW0 _ HX.out ?_ (by omega); intro g' cap' w3 hown3 hb3);have HAr3:=Lib.hid (HAr.out.below hb3 (by omega));have hl3:=HL.out.below hb3 (by omega);have HL3:=Lib.hid hl3;have HBl3:=Lib.hid (HBl.out.trans (hb3.mono (by omega)));have HO3:=Lib.hid (show OwnR w3 (w.heap.size+2) 130 4 (.slice (some ⟨g',0,none⟩) (k*2+2) cap') ((k+1)*2) (rowTo zs (sumW xs) (sumM xs) (k+1)) by rw [show (k+1)*2=k*2+2 by omega]; exact hown3);have hz3:wr.heap.size≤w3.heap.size:=hb3.size;clear x0 x1 x2 x3 z0 z1 z2 z3 l0 l1 a0 hown3 e1 e2 e3 e4 e5 e6;have hc1:=HCS.out (k*2) (by omega);have hc2:=HCS.out (k*2+1) (by omega);have s0:w3.cell? ⟨bs,offs+k*2,none⟩=some (.int .i64 (nth xs (k*2))):=(HBl3.out.cell (by exact hbS)).trans hc1;have s1:w3.cell? ⟨bs,offs+k*2+1,none⟩=some (.int .i64 (nth xs (k*2+1))):=(HBl3.out.cell (by exact hbS)).trans hc2;have l0:w3.cell? ⟨w.heap.size+1,0,none⟩=some (.int .i64 lw):=hl3.cell (by omega);have l1:w3.cell? ⟨w.heap.size+1,1,none⟩=some (.int .i64 lm):=hl3.cell (by omega);have f0:=hl3.frozen 0;have f1:=hl3.frozen 1;have hbd:=HB.out (k+1) (by omega);rw [HWM.out.1,HWM.out.2] at hbd;have ne1:¬ bs=w.heap.size+1:=by omega
    have es1:IntKind.i64.wrap (lw+nth xs (k*2))=lw+nth xs (k*2):=IntWalk.i64_in _ (by omega);have es2:IntKind.i64.wrap (lm+nth xs (k*2+1))=lm+nth xs (k*2+1):=IntWalk.i64_in _ (by omega);generalize nth xs (k*2)=sw at *
    generalize nth xs (k*2+1)=sm at *
    clear hl3 hc1 hc2 hb3;have hlA:=HL3.out.set 0 (.int .i64 (lw+sw));have l1':(w3.setCell ⟨w.heap.size+1,0,none⟩ (.int .i64 (lw+sw))).cell? ⟨w.heap.size+1,1,none⟩=some (.int .i64 lm):=by
     have h:=hlA.cell (i:=1) (by omega);exact h
    have s1':(w3.setCell ⟨w.heap.size+1,0,none⟩ (.int .i64 (lw+sw))).cell? ⟨bs,offs+k*2+1,none⟩=some (.int .i64 sm):=(World.cell?_setCell_far _ _ _ _ (by simp; omega)).trans s1
    have f1':(w3.setCell ⟨w.heap.size+1,0,none⟩ (.int .i64 (lw+sw))).frozen? ⟨w.heap.size+1,1,none⟩=false:=hlA.frozen 1;have HF:Hid (RFor w ((w3.setCell ⟨w.heap.size+1,0,none⟩ (.int .i64 (lw+sw))).drew.setCell ⟨w.heap.size+1,1,none⟩ (.int .i64 (lm+sm))) (.slice (some ⟨b,off,none⟩) (m+1) c) zs xs (k+1) (.slice (some ⟨g',0,none⟩) (k*2+2) cap')):=by
     have hcg:Below (w.heap.size+2) w3 w3:=Below.refl _ _;refine ⟨(HAr3.out.set_other (by simp) _).set_other (by simp) _,?_,?_,(HBl3.out.setCell (by simp) _).drew.setCell (by simp) _⟩
     ·rw [HWM.out.1,HWM.out.2]
      exact (hlA.set 1 (.int .i64 (lm+sm))).congr (fun i hi=>by match i,hi with | 0,_=>rfl | 1,_=>rfl)
     ·exact HO3.out.set2 _ _ _ _ (by simp) (by simp)
    clear hlA;go_wp2;go_region_law (fail)
    all_goals
     go_wp2;generalize hWZ:(w3.setCell ⟨w.heap.size+1,0,none⟩ (.int .i64 (lw+sw)))=wz at *
     go_region_law (fail)
     all_goals
      go_wp2;go_roundw
      case rel=>exact ⟨k+1,by omega,by go_num,Lib.hid HF.out.drew⟩
      case measure=>simp [intOf]; omega
   ·obtain rfl:k=m:=by omega
    go_wp2_with (at_builtin; refine wpList_appR _ rfl (.tmp 17) (.tmp 52) 72 rfl (w.heap.size+2) 130 4 32 #[.int .i64 0,.int .i64 0,.int .i64 0,.int .i64 0] Tryzx.underlying72 infoRow rfl (by decide) (by decide) _ (k*2) _ rfl (by exact HOA.out) (wr.heap.size+1) 2 2 [iy,-ix,1,lm - ix*lw,-oy,ox,-1,ox*lw - lm] rfl rfl (by exact HCN.out) (by omega) (w.heap.size+2) wr (by exact HBA.out) (Nat.le_refl _) hW0 _ HX.out ?_ (by omega); intro g' cap' w3 hown3 hb3);have HAr3:=Lib.hid (HAr.out.below hb3 (by omega));have hl3:=HL.out.below hb3 (by omega);have HL3:=Lib.hid hl3;have HBl3:=Lib.hid (HBl.out.trans (hb3.mono (by omega)));have HO3:=Lib.hid (show OwnR w3 (w.heap.size+2) 130 4 (.slice (some ⟨g',0,none⟩) (k*2+2) cap') ((k+1)*2) (rowTo zs (sumW xs) (sumM xs) (k+1)) by rw [show (k+1)*2=k*2+2 by omega]; exact hown3);have hz3:wr.heap.size≤w3.heap.size:=hb3.size;clear x0 x1 x2 x3 z0 z1 z2 z3 l0 l1 a0 hown3 e1 e2 e3 e4 e5 e6;have HF:Hid (RFor w w3 (.slice (some ⟨b,off,none⟩) (k+1) c) zs xs (k+1) (.slice (some ⟨g',0,none⟩) (k*2+2) cap')) :=
     ⟨HAr3.out,by rw [HPAST.out.1,HPAST.out.2,HWk.out,HMk.out]; exact HL3.out,HO3.out,HBl3.out⟩
    clear hl3 hb3;go_wp2;go_roundw
    case rel=>exact ⟨k+1,by omega,by go_num,HF⟩
    case measure=>first | (simp [intOf]; done) | (simp [intOf]; omega)
  ·obtain rfl:k=m+1:=by omega
   have HU:Hid (rowTo zs (sumW xs) (sumM xs) (m+1) ++ [-1,0,0,0]=rowsL zs (sumW xs) (sumM xs) (m+1)):=rfl;have HO:=Lib.hid (HR.out.own.alloc (.cells #[.int .i64 (-1),.int .i64 0,.int .i64 0,.int .i64 0] 130));have HBA:=Lib.hid (HR.out.below.alloc hz (.cells #[.int .i64 (-1),.int .i64 0,.int .i64 0,.int .i64 0] 130));have HCN:Hid (∀ i,i<1*4→(wr.alloc (.cells #[.int .i64 (-1),.int .i64 0,.int .i64 0,.int .i64 0] 130)).cell? ⟨wr.heap.size,i,none⟩=some (.int .i64 (nth [-1,0,0,0] i))):=fun i hi=>(rowC_new4 wr (-1) 0 0 0 130).cell hi
   go_wp2_with (at_builtin; refine wpList_appR _ rfl (.tmp 77) (.tmp 79) 72 rfl (w.heap.size+2) 130 4 32 #[.int .i64 0,.int .i64 0,.int .i64 0,.int .i64 0] Tryzx.underlying72 infoRow rfl (by decide) (by decide) _ ((m+1)*2) _ rfl (by exact HO.out) wr.heap.size 1 1 [-1,0,0,0] rfl rfl (by exact HCN.out) (by omega) w.heap.size w (by exact HBA.out) (by omega) (by simp; omega) _ HU.out ?_ (by omega); intro g' cap' w3 hown3 hb3);have HO3:=Lib.hid hown3;have HB3:=Lib.hid hb3;clear hown3 hb3;go_wp2_with fail
   refine (rowsOk_any _ _ _ _ _ (by exact HO3.out.recs) (by omega)).mono ?_;rw [HOK.out];rintro e w4 ⟨rfl,hb4⟩;have HO4:=Lib.hid (HO3.out.below hb4);have HB4:=Lib.hid (HB3.out.trans (hb4.mono HB3.out.size));clear hb4;go_wp2;go_ret;exact ⟨_,rfl,HO4.out.weaken (by omega),HB4.out⟩
end X
namespace X
open Go.RowKit
section
variable {zs : List Int} {n : Nat} {ls : List Int} {q : Nat}
end
theorem rowF1 (w:World) (u:Value) (T:TypeId):RowF (w.alloc (.cells #[u] T)) w.heap.size T 1 (fun _=>u):=RowF.of_row (World.rowIs_alloc w #[u] T (fun _=>u) (fun i hi=>by simp at hi; subst hi; rfl))
theorem rowC_new2 (w:World) (a b:Int) (T:TypeId):RowF (w.alloc (.cells #[.int .i64 a,.int .i64 b] T)) w.heap.size T 2 (ints [a,b]) :=
 RowF.of_row (World.rowIs_alloc w #[.int .i64 a,.int .i64 b] T _ (fun j hj=>by simp at hj; match j,hj with | 0,_=>rfl | 1,_=>rfl))
end X
namespace X
open Go.RowKit
def FacCalls (f:FuncId) (F:Fac):Prop:=∀ (ax ay bx b_y:Int) (w:World),ptB ax ay=true→ptB bx b_y=true →
 Calls Tryzx.prog f #[.agg #[.int .i64 ax,.int .i64 ay],.agg #[.int .i64 bx,.int .i64 b_y]] w fun e w'=>e = .returned (.int .i64 (F ax ay bx b_y))∧Below w.heap.size w w'
theorem facOne_calls:FacCalls 172 facOne:=by
 intro ax ay bx b_y w ha hb;rw [ptB_iff] at ha hb;go_enter Tryzx.func172,Tryz.ntmps172;go_wp2;go_ret;exact ⟨rfl,((Below.refl _ _).alloc (Nat.le_refl _) _).alloc (by simp) _⟩
set_option maxRecDepth 100000 in
set_option maxHeartbeats 1600000 in
theorem overAreaTwice_any (A:Option Addr) (n c:Nat) (zs:List Int) (w:World) (h:RecsAt w w.heap.size 2 A n zs) :
  Calls Tryzx.prog 163 #[.agg #[.slice A n c],.func (.func 172) #[] #[]] w fun e w'=>e = .returned (.int .i64 (overI facOne zs n))∧Below w.heap.size w w':=by
 have hF:FacOk facOne:=facOne_ok;have hC:FacCalls 172 facOne:=facOne_calls;have HA:=Lib.hid ((Below.refl w.heap.size w).alloc (Nat.le_refl _) (.cells #[.slice A n c] 126));have H0:RecsAt (w.alloc (.cells #[.slice A n c] 126)) (w.alloc (.cells #[.slice A n c] 126)).heap.size 2 A n zs:=(h.alloc (Nat.le_refl _) _).mono (by simp);cases hs:stoneB zs n
 ·have HF:=Lib.hid (overI_f (F:=facOne) hs)
  go_enter Tryzx.func163,Tryz.ntmps163;go_wp2_with fail
  refine (iStoneOk_any _ _ _ zs _ H0).mono ?_;rw [hs];rintro e w1 ⟨rfl,hb1⟩;have HB1:=Lib.hid (HA.out.trans (hb1.mono (by simp)));clear hb1 H0;go_wp2;go_ret;exact ⟨ret_int HF.out.symm,HB1.out⟩
 ·have ho:=stoneB_out hs
  have HT:=Lib.hid (overI_t (F:=facOne) hs);have hn3:=ho.1.1;have hn6:=ho.1.2;have HPT:=Lib.hid ho.2.1;have HBD:=Lib.hid (overTo_bd hF ho.2.1);obtain ⟨b,off,rfl,hbB,hc⟩:=h.2 (by omega);have HC:=Lib.hid hc;have HFC:=Lib.hid hC;have HFO:=Lib.hid hF;clear hc h ho hC hF;go_enter Tryzx.func163,Tryz.ntmps163;go_wp2_with fail
  refine (iStoneOk_any _ _ _ zs _ H0).mono ?_;rw [hs];rintro e w1 ⟨rfl,hb1⟩;have HB1:=Lib.hid (HA.out.trans (hb1.mono (by simp)));have hbox1:=(hb1.cell (p:=⟨w.heap.size,0,none⟩) (by simp)).trans (cell_new0 _ _ _);clear hb1 H0 hs;go_wp2;go_loopw [5,15] (fun s i wr=>∃ j:Nat,j≤n∧i = .int .i64 j∧s = .int .i64 (overTo facOne zs n j)∧wr.cell? ⟨w.heap.size,0,none⟩=some (.slice (some ⟨b,off,none⟩) n c)∧Below w.heap.size w wr) (fun _ i _=>n - (intOf i).toNat)
  case atStart=>exact ⟨0,Nat.zero_le _,rfl,rfl,hbox1,HB1.out⟩
  case round =>
   clear HB1 HA hbox1;obtain ⟨j,hj,rfl,rfl,hbox,hb⟩:=hrel;have HB:=Lib.hid hb;have hgl:=World.block_lt_of_cell? _ _ hbox;simp only at hgl;have hz0:=hb.size;by_cases hlt:j<n
   ·have hm1:(j+1) % n<n:=Nat.mod_lt _ (by omega)
    obtain ⟨x0,x1⟩:=ptCells (fun i hi=>(hb.cell (by exact hbB)).trans (HC.out i hi)) hlt;obtain ⟨y0,y1⟩:=ptCells (fun i hi=>(hb.cell (by exact hbB)).trans (HC.out i hi)) hm1;have r1:Int.tmod ((j:Int)+1) (n:Int)=(((j+1) % n:Nat):Int):=rem_nat (j+1) n;have hpk:=HPT.out j hlt;have hp1:=HPT.out _ hm1;have HST:=Lib.hid (show overTo facOne zs n (j+1)=overTo facOne zs n j+part facOne zs j ((j+1) % n) from rfl);have hb0:=HBD.out j (by omega);have hpb:=part_bd HFO.out hpk hp1;clear hb;unfold ptA at hpk hp1;have HPX:=hpk;have HPY:=hp1;generalize (j+1) % n=j1 at *
    have i1:IntKind.i64.wrap ((j:Int)+1)=(j:Int)+1:=IntWalk.i64_in _ (by omega);have i3:IntKind.i64.wrap (j1:Int)=(j1:Int):=IntWalk.i64_in _ (by omega);have i5:(j:Int)<(n:Int):=by omega
    have i6:(j1:Int)<(n:Int):=by omega
    have i8:¬ n=0:=by omega
    have i9:¬ (n:Int)=0:=by omega
    have i10:((n:Int) == 0)=false:=by simp; omega
    have i11:(0:Int)≤(j:Int):=by omega
    have i12:(0:Int)≤(j1:Int):=by omega
    have l1:b<wr.heap.size:=by omega
    have l2:b<wr.heap.size+1:=by omega
    have l3:w.heap.size<wr.heap.size+1:=by omega
    have l4:¬ b=wr.heap.size:=by omega
    have l5:¬ b=wr.heap.size+1:=by omega
    have l6:¬ w.heap.size=wr.heap.size:=by omega
    have l7:¬ w.heap.size=wr.heap.size+1:=by omega
    have hcr:=crossI_bd hpk hp1;have hfb:=HFO.out _ _ _ _ hpk hp1;unfold part at HST hpb;unfold crossI at HST hpb hcr;rw [ptB_iff] at HPX HPY;have hmA:=mul_bd (m:=60) (n:=60) (a:=nth zs (j*2)) (b:=nth zs (j1*2+1)) (by omega) (by omega);have hmB:=mul_bd (m:=60) (n:=60) (a:=nth zs (j*2+1)) (b:=nth zs (j1*2)) (by omega) (by omega);clear HPX HPY;generalize nth zs (j*2)=ax at *
    generalize nth zs (j*2+1)=ay at *
    generalize nth zs (j1*2)=bx at *
    generalize nth zs (j1*2+1)=b_y at *
    generalize overTo facOne zs n j=S at *
    have e1:IntKind.i64.wrap (ax*b_y)=ax*b_y:=IntWalk.i64_in _ (by omega);have e2:IntKind.i64.wrap (ay*bx)=ay*bx:=IntWalk.i64_in _ (by omega);have e3:IntKind.i64.wrap (ax*b_y - ay*bx)=ax*b_y - ay*bx:=IntWalk.i64_in _ (by omega);have e4:IntKind.i64.wrap (facOne ax ay bx b_y*(ax*b_y - ay*bx))=facOne ax ay bx b_y*(ax*b_y - ay*bx):=IntWalk.i64_in _ (by omega);have e5:IntKind.i64.wrap (S+facOne ax ay bx b_y*(ax*b_y - ay*bx))=S+facOne ax ay bx b_y*(ax*b_y - ay*bx):=IntWalk.i64_in _ (by omega);go_wp2;go_region
    ·go_wp2
     go_region_held3 (fun w'=>w'.cell? ⟨wr.heap.size,0,none⟩=some (.int .i64 ax)∧w'.cell? ⟨wr.heap.size,1,none⟩=some (.int .i64 ay)∧w'.cell? ⟨wr.heap.size+1,0,none⟩=some (.int .i64 bx)∧w'.cell? ⟨wr.heap.size+1,1,none⟩=some (.int .i64 b_y)) (first | (go_keep; done) | (refine ⟨?_,?_,?_,?_⟩ <;> (rw [hcc _ _ (by simp <;> omega)]; go_keep))) ((refine (HFC.out _ _ _ _ _ hpk hp1).mono ?_; rintro e w2 ⟨rfl,hb2⟩; obtain ⟨hcc,hff⟩:=bcell hb2));have HB2:=Lib.hid ((((HB.out.alloc hz0 _).alloc (by simp; omega) _).drew.drew).trans (hb2.mono (by simp; omega)))
     have hbox2:=(hb2.cell (p:=⟨w.heap.size,0,none⟩) (by simp; omega)).trans ((World.cell?_alloc_lt _ _ _ (by simp; omega)).trans ((World.cell?_alloc_lt _ _ _ (by simp; omega)).trans hbox))
     clear hcc hff hb2;go_wp2;go_roundw
     case rel=>exact ⟨j+1,by omega,by go_num,by rw [HST.out],hbox2,HB2.out⟩
     case measure=>first | (simp [intOf]; done) | (simp [intOf]; omega)
    ·go_wp2
     go_region_held3 (fun w'=>w'.cell? ⟨wr.heap.size+1,0,none⟩=some (.int .i64 ax)∧w'.cell? ⟨wr.heap.size+1,1,none⟩=some (.int .i64 ay)∧w'.cell? ⟨wr.heap.size,0,none⟩=some (.int .i64 bx)∧w'.cell? ⟨wr.heap.size,1,none⟩=some (.int .i64 b_y)) (first | (go_keep; done) | (refine ⟨?_,?_,?_,?_⟩ <;> (rw [hcc _ _ (by simp <;> omega)]; go_keep))) ((refine (HFC.out _ _ _ _ _ hpk hp1).mono ?_; rintro e w2 ⟨rfl,hb2⟩; obtain ⟨hcc,hff⟩:=bcell hb2));have HB2:=Lib.hid ((((HB.out.alloc hz0 _).alloc (by simp; omega) _).drew.drew).trans (hb2.mono (by simp; omega)))
     have hbox2:=(hb2.cell (p:=⟨w.heap.size,0,none⟩) (by simp; omega)).trans ((World.cell?_alloc_lt _ _ _ (by simp; omega)).trans ((World.cell?_alloc_lt _ _ _ (by simp; omega)).trans hbox))
     clear hcc hff hb2;go_wp2;go_roundw
     case rel=>exact ⟨j+1,by omega,by go_num,by rw [HST.out],hbox2,HB2.out⟩
     case measure=>first | (simp [intOf]; done) | (simp [intOf]; omega)
   ·obtain rfl:j=n:=by omega
    clear hb;go_wp2;go_ret;exact ⟨ret_int HT.out.symm,HB.out⟩
theorem iAreaTwice_any (A:Option Addr) (n c:Nat) (zs:List Int) (w:World) (h:RecsAt w w.heap.size 2 A n zs) :
  Calls Tryzx.prog 162 #[.agg #[.slice A n c]] w fun e w'=>e = .returned (.int .i64 (overI facOne zs n))∧Below w.heap.size w w':=by
 have HA:=Lib.hid ((Below.refl w.heap.size w).alloc (Nat.le_refl _) (.cells #[.slice A n c] 126));have H0:RecsAt (w.alloc (.cells #[.slice A n c] 126)) (w.alloc (.cells #[.slice A n c] 126)).heap.size 2 A n zs:=(h.alloc (Nat.le_refl _) _).mono (by simp);go_enter Tryzx.func162,Tryz.ntmps162;go_wp2_with fail
 refine (overAreaTwice_any _ _ _ zs _ H0).mono ?_;rintro e w1 ⟨rfl,hb1⟩;have HB1:=Lib.hid (HA.out.trans (hb1.mono (by simp)));clear hb1;go_wp2;go_ret;exact ⟨rfl,HB1.out⟩
theorem iWeightOf_any (A:Option Addr) (n c:Nat) (zs:List Int) (w:World) (h:RecsAt w w.heap.size 2 A n zs) :
  Calls Tryzx.prog 142 #[.agg #[.slice A n c]] w fun e w'=>e = .returned (.int .i64 (weightI zs n))∧Below w.heap.size w w':=by
 have HA:=Lib.hid ((Below.refl w.heap.size w).alloc (Nat.le_refl _) (.cells #[.slice A n c] 126));have H0:RecsAt (w.alloc (.cells #[.slice A n c] 126)) (w.alloc (.cells #[.slice A n c] 126)).heap.size 2 A n zs:=(h.alloc (Nat.le_refl _) _).mono (by simp);have hbd:=overI_bd facOne_ok zs n;go_enter Tryzx.func142,Tryz.ntmps142;go_wp2_with fail
 refine (iAreaTwice_any _ _ _ zs _ H0).mono ?_;rintro e w1 ⟨rfl,hb1⟩;have HB1:=Lib.hid (HA.out.trans (hb1.mono (by simp)));clear hb1;go_wp2;go_ret;exact ⟨ret_int (by unfold weightI; rfl),HB1.out⟩
theorem facX_calls:FacCalls 164 facX:=by
 intro ax ay bx b_y w ha hb;rw [ptB_iff] at ha hb;go_enter Tryzx.func164,Tryz.ntmps164;go_wp2;go_ret;exact ⟨rfl,((Below.refl _ _).alloc (Nat.le_refl _) _).alloc (by simp) _⟩
set_option maxRecDepth 100000 in
set_option maxHeartbeats 1600000 in
theorem overMomentOf_any (A:Option Addr) (n c:Nat) (zs:List Int) (w:World) (h:RecsAt w w.heap.size 2 A n zs) :
  Calls Tryzx.prog 163 #[.agg #[.slice A n c],.func (.func 164) #[] #[]] w fun e w'=>e = .returned (.int .i64 (overI facX zs n))∧Below w.heap.size w w':=by
 have hF:FacOk facX:=facX_ok;have hC:FacCalls 164 facX:=facX_calls;have HA:=Lib.hid ((Below.refl w.heap.size w).alloc (Nat.le_refl _) (.cells #[.slice A n c] 126));have H0:RecsAt (w.alloc (.cells #[.slice A n c] 126)) (w.alloc (.cells #[.slice A n c] 126)).heap.size 2 A n zs:=(h.alloc (Nat.le_refl _) _).mono (by simp);cases hs:stoneB zs n
 ·have HF:=Lib.hid (overI_f (F:=facX) hs)
  go_enter Tryzx.func163,Tryz.ntmps163;go_wp2_with fail
  refine (iStoneOk_any _ _ _ zs _ H0).mono ?_;rw [hs];rintro e w1 ⟨rfl,hb1⟩;have HB1:=Lib.hid (HA.out.trans (hb1.mono (by simp)));clear hb1 H0;go_wp2;go_ret;exact ⟨ret_int HF.out.symm,HB1.out⟩
 ·have ho:=stoneB_out hs
  have HT:=Lib.hid (overI_t (F:=facX) hs);have hn3:=ho.1.1;have hn6:=ho.1.2;have HPT:=Lib.hid ho.2.1;have HBD:=Lib.hid (overTo_bd hF ho.2.1);obtain ⟨b,off,rfl,hbB,hc⟩:=h.2 (by omega);have HC:=Lib.hid hc;have HFC:=Lib.hid hC;have HFO:=Lib.hid hF;clear hc h ho hC hF;go_enter Tryzx.func163,Tryz.ntmps163;go_wp2_with fail
  refine (iStoneOk_any _ _ _ zs _ H0).mono ?_;rw [hs];rintro e w1 ⟨rfl,hb1⟩;have HB1:=Lib.hid (HA.out.trans (hb1.mono (by simp)));have hbox1:=(hb1.cell (p:=⟨w.heap.size,0,none⟩) (by simp)).trans (cell_new0 _ _ _);clear hb1 H0 hs;go_wp2;go_loopw [5,15] (fun s i wr=>∃ j:Nat,j≤n∧i = .int .i64 j∧s = .int .i64 (overTo facX zs n j)∧wr.cell? ⟨w.heap.size,0,none⟩=some (.slice (some ⟨b,off,none⟩) n c)∧Below w.heap.size w wr) (fun _ i _=>n - (intOf i).toNat)
  case atStart=>exact ⟨0,Nat.zero_le _,rfl,rfl,hbox1,HB1.out⟩
  case round =>
   clear HB1 HA hbox1;obtain ⟨j,hj,rfl,rfl,hbox,hb⟩:=hrel;have HB:=Lib.hid hb;have hgl:=World.block_lt_of_cell? _ _ hbox;simp only at hgl;have hz0:=hb.size;by_cases hlt:j<n
   ·have hm1:(j+1) % n<n:=Nat.mod_lt _ (by omega)
    obtain ⟨x0,x1⟩:=ptCells (fun i hi=>(hb.cell (by exact hbB)).trans (HC.out i hi)) hlt;obtain ⟨y0,y1⟩:=ptCells (fun i hi=>(hb.cell (by exact hbB)).trans (HC.out i hi)) hm1;have r1:Int.tmod ((j:Int)+1) (n:Int)=(((j+1) % n:Nat):Int):=rem_nat (j+1) n;have hpk:=HPT.out j hlt;have hp1:=HPT.out _ hm1;have HST:=Lib.hid (show overTo facX zs n (j+1)=overTo facX zs n j+part facX zs j ((j+1) % n) from rfl);have hb0:=HBD.out j (by omega);have hpb:=part_bd HFO.out hpk hp1;clear hb;unfold ptA at hpk hp1;have HPX:=hpk;have HPY:=hp1;generalize (j+1) % n=j1 at *
    have i1:IntKind.i64.wrap ((j:Int)+1)=(j:Int)+1:=IntWalk.i64_in _ (by omega);have i3:IntKind.i64.wrap (j1:Int)=(j1:Int):=IntWalk.i64_in _ (by omega);have i5:(j:Int)<(n:Int):=by omega
    have i6:(j1:Int)<(n:Int):=by omega
    have i8:¬ n=0:=by omega
    have i9:¬ (n:Int)=0:=by omega
    have i10:((n:Int) == 0)=false:=by simp; omega
    have i11:(0:Int)≤(j:Int):=by omega
    have i12:(0:Int)≤(j1:Int):=by omega
    have l1:b<wr.heap.size:=by omega
    have l2:b<wr.heap.size+1:=by omega
    have l3:w.heap.size<wr.heap.size+1:=by omega
    have l4:¬ b=wr.heap.size:=by omega
    have l5:¬ b=wr.heap.size+1:=by omega
    have l6:¬ w.heap.size=wr.heap.size:=by omega
    have l7:¬ w.heap.size=wr.heap.size+1:=by omega
    have hcr:=crossI_bd hpk hp1;have hfb:=HFO.out _ _ _ _ hpk hp1;unfold part at HST hpb;unfold crossI at HST hpb hcr;rw [ptB_iff] at HPX HPY;have hmA:=mul_bd (m:=60) (n:=60) (a:=nth zs (j*2)) (b:=nth zs (j1*2+1)) (by omega) (by omega);have hmB:=mul_bd (m:=60) (n:=60) (a:=nth zs (j*2+1)) (b:=nth zs (j1*2)) (by omega) (by omega);clear HPX HPY;generalize nth zs (j*2)=ax at *
    generalize nth zs (j*2+1)=ay at *
    generalize nth zs (j1*2)=bx at *
    generalize nth zs (j1*2+1)=b_y at *
    generalize overTo facX zs n j=S at *
    have e1:IntKind.i64.wrap (ax*b_y)=ax*b_y:=IntWalk.i64_in _ (by omega);have e2:IntKind.i64.wrap (ay*bx)=ay*bx:=IntWalk.i64_in _ (by omega);have e3:IntKind.i64.wrap (ax*b_y - ay*bx)=ax*b_y - ay*bx:=IntWalk.i64_in _ (by omega);have e4:IntKind.i64.wrap (facX ax ay bx b_y*(ax*b_y - ay*bx))=facX ax ay bx b_y*(ax*b_y - ay*bx):=IntWalk.i64_in _ (by omega);have e5:IntKind.i64.wrap (S+facX ax ay bx b_y*(ax*b_y - ay*bx))=S+facX ax ay bx b_y*(ax*b_y - ay*bx):=IntWalk.i64_in _ (by omega);go_wp2;go_region
    ·go_wp2
     go_region_held3 (fun w'=>w'.cell? ⟨wr.heap.size,0,none⟩=some (.int .i64 ax)∧w'.cell? ⟨wr.heap.size,1,none⟩=some (.int .i64 ay)∧w'.cell? ⟨wr.heap.size+1,0,none⟩=some (.int .i64 bx)∧w'.cell? ⟨wr.heap.size+1,1,none⟩=some (.int .i64 b_y)) (first | (go_keep; done) | (refine ⟨?_,?_,?_,?_⟩ <;> (rw [hcc _ _ (by simp <;> omega)]; go_keep))) ((refine (HFC.out _ _ _ _ _ hpk hp1).mono ?_; rintro e w2 ⟨rfl,hb2⟩; obtain ⟨hcc,hff⟩:=bcell hb2));have HB2:=Lib.hid ((((HB.out.alloc hz0 _).alloc (by simp; omega) _).drew.drew).trans (hb2.mono (by simp; omega)))
     have hbox2:=(hb2.cell (p:=⟨w.heap.size,0,none⟩) (by simp; omega)).trans ((World.cell?_alloc_lt _ _ _ (by simp; omega)).trans ((World.cell?_alloc_lt _ _ _ (by simp; omega)).trans hbox))
     clear hcc hff hb2;go_wp2;go_roundw
     case rel=>exact ⟨j+1,by omega,by go_num,by rw [HST.out],hbox2,HB2.out⟩
     case measure=>first | (simp [intOf]; done) | (simp [intOf]; omega)
    ·go_wp2
     go_region_held3 (fun w'=>w'.cell? ⟨wr.heap.size+1,0,none⟩=some (.int .i64 ax)∧w'.cell? ⟨wr.heap.size+1,1,none⟩=some (.int .i64 ay)∧w'.cell? ⟨wr.heap.size,0,none⟩=some (.int .i64 bx)∧w'.cell? ⟨wr.heap.size,1,none⟩=some (.int .i64 b_y)) (first | (go_keep; done) | (refine ⟨?_,?_,?_,?_⟩ <;> (rw [hcc _ _ (by simp <;> omega)]; go_keep))) ((refine (HFC.out _ _ _ _ _ hpk hp1).mono ?_; rintro e w2 ⟨rfl,hb2⟩; obtain ⟨hcc,hff⟩:=bcell hb2));have HB2:=Lib.hid ((((HB.out.alloc hz0 _).alloc (by simp; omega) _).drew.drew).trans (hb2.mono (by simp; omega)))
     have hbox2:=(hb2.cell (p:=⟨w.heap.size,0,none⟩) (by simp; omega)).trans ((World.cell?_alloc_lt _ _ _ (by simp; omega)).trans ((World.cell?_alloc_lt _ _ _ (by simp; omega)).trans hbox))
     clear hcc hff hb2;go_wp2;go_roundw
     case rel=>exact ⟨j+1,by omega,by go_num,by rw [HST.out],hbox2,HB2.out⟩
     case measure=>first | (simp [intOf]; done) | (simp [intOf]; omega)
   ·obtain rfl:j=n:=by omega
    clear hb;go_wp2;go_ret;exact ⟨ret_int HT.out.symm,HB.out⟩
theorem iMomentOf_any (A:Option Addr) (n c:Nat) (zs:List Int) (w:World) (h:RecsAt w w.heap.size 2 A n zs) :
  Calls Tryzx.prog 143 #[.agg #[.slice A n c]] w fun e w'=>e = .returned (.int .i64 (overI facX zs n))∧Below w.heap.size w w':=by
 have HA:=Lib.hid ((Below.refl w.heap.size w).alloc (Nat.le_refl _) (.cells #[.slice A n c] 126));have H0:RecsAt (w.alloc (.cells #[.slice A n c] 126)) (w.alloc (.cells #[.slice A n c] 126)).heap.size 2 A n zs:=(h.alloc (Nat.le_refl _) _).mono (by simp);go_enter Tryzx.func143,Tryz.ntmps143;go_wp2_with fail
 refine (overMomentOf_any _ _ _ zs _ H0).mono ?_;rintro e w1 ⟨rfl,hb1⟩;have HB1:=Lib.hid (HA.out.trans (hb1.mono (by simp)));clear hb1;go_wp2;go_ret;exact ⟨rfl,HB1.out⟩
end X
namespace X
open Go.RowKit
theorem infoWt:(Tryzx.prog.info? 143).map (fun i=>(i.zero,i.size,i.bytes))=some (some (.agg #[.int .i64 0,.int .i64 0]),2,16):=by kernel_rfl
theorem box_set {w:World} {g:Nat} {t:TypeId} {f:Nat→Value} (v:Value) (h:RowF w g t 1 f):Box (w.setCell ⟨g,0,none⟩ v) g v :=
 ⟨by have:=(h.set 0 v).cell (i:=0) (by omega); simpa using this,by simpa using h.lt⟩
theorem rowF_new1 (w:World) (u:Value) (t:TypeId):RowF (w.alloc (.cells #[u] t)) w.heap.size t 1 (fun _=>u):=RowF.of_row (World.rowIs_alloc w #[u] t (fun _=>u) (fun i hi=>by simp at hi; subst hi; rfl))
theorem rowF_new3 (w:World) (a b c:Int) (T:TypeId):RowF (w.alloc (.cells #[.int .i64 a,.int .i64 b,.int .i64 c] T)) w.heap.size T 3 (ints [a,b,c]) :=
 RowF.of_row (World.rowIs_alloc w #[.int .i64 a,.int .i64 b,.int .i64 c] T _ (fun j hj=>by simp at hj; match j,hj with | 0,_=>rfl | 1,_=>rfl | 2,_=>rfl))
def WtsPost (w:World) (L:List Int) (m:Nat) (e:Ending) (w':World):Prop :=
 ∃ g,e = .returned (.slice (some ⟨g,0,none⟩) m m)∧w.heap.size≤g∧RowF w' g 143 (m*2) (ints L)∧Below w.heap.size w w'
theorem wmL_fill {zs ls:List Int} {i m k:Nat} (hk:k<m):(fun j=>if j=k*2+1 then Value.int .i64 (kmTo zs ls k i) else if j=k*2 then Value.int .i64 (kwTo zs ls k i) else fill (wmL zs ls i m) (k*2) j)=fill (wmL zs ls i m) ((k+1)*2):=by
 funext j
 have h:=wmL_nth zs ls i hk;have h2:=fill_step2 (wmL zs ls i m) (k*2) j;rw [h.1,h.2] at h2;rw [h2,show (k+1)*2=k*2+2 by omega]
theorem wmL_load {zs ls:List Int} {i m k:Nat} (hk:k<m) (h:nth ls (i*3)=(k:Int)):∀ j,j<m*2→(if j=k*2+1 then Value.int .i64 (kmTo zs ls k (i+1)) else if j=k*2 then Value.int .i64 (kwTo zs ls k (i+1)) else ints (wmL zs ls i m) j)=ints (wmL zs ls (i+1) m) j:=by
 intro j hj;have h1:=wmL_nth zs ls (i+1) hk;by_cases e1:j=k*2+1
 ·subst e1; rw [if_pos rfl,ints_def,h1.2]
 ·by_cases e2:j=k*2
  ·subst e2; rw [if_neg e1,if_pos rfl,ints_def,h1.1]
  ·rw [if_neg e1,if_neg e2,ints_def,ints_def]
   have hne:¬ nth ls (i*3)=((j / 2:Nat):Int):=by omega
   have ha:=wmL_nth zs ls i (m:=m) (k:=j / 2) (by omega);have hb:=wmL_nth zs ls (i+1) (m:=m) (k:=j / 2) (by omega);rw [kwTo_f zs hne,kmTo_f zs hne] at hb;rcases Nat.mod_two_eq_zero_or_one j with e | e
   ·rw [show j=j / 2*2 by omega,ha.1,hb.1]
   ·rw [show j=j / 2*2+1 by omega,ha.2,hb.2]
set_option maxRecDepth 100000 in
set_option maxHeartbeats 3200000 in
theorem weightsOf_any (A : Option Addr) (n c : Nat) (zs : List Int) (B : Option Addr) (q d : Nat) (ls : List Int) (w : World) (h : RecsAt w w.heap.size 4 A n zs) (hl : RecsAt w w.heap.size 3 B q ls) (hL : loadsB zs n ls q = true) :
    Calls Tryzx.prog 91 #[.agg #[.slice A n c], .slice B q d] w (WtsPost w (wmL zs ls q (n - 1)) (n - 1)) := by
  obtain ⟨hA, hq6, hLA⟩ := loadsB_out hL;obtain ⟨hn8, hpt⟩ := archB_out hA;obtain ⟨m, rfl⟩ : ∃ m, n = m + 1 := ⟨n - 1, by omega⟩;rw [Nat.add_sub_cancel] at hpt ⊢;have hmk := fun W => run_make_recs (P := Tryzx.prog) 122 143 2 16 #[.int .i64 0, .int .i64 0] Tryzx.underlying122 infoWt m (by omega) (by omega) W
  have HPT := Lib.hid hpt;have HLA := Lib.hid hLA;have HKB := Lib.hid (fun k i hi => kwTo_bd zs hLA hq6 k (i := i) hi);have HMB := Lib.hid (fun k i hi => kmTo_bd zs hLA hq6 k (i := i) hi);obtain ⟨b, off, rfl, hbB, hcell⟩ := h.2 (by omega);have HC := Lib.hid (fun j (hj : j < m + 1) => jtCells hcell hj);have HLD := Lib.hid hl;have e1 : ((m + 1 : Nat) : Int) - 1 = (m : Int) := by omega
  have e2 : IntKind.i64.wrap (((m + 1 : Nat) : Int) - 1) = (m : Int) := by rw [e1]; exact IntWalk.i64_in _ (by omega)
  have HB0 := Lib.hid (((Below.refl w.heap.size w).alloc (Nat.le_refl _) (.cells #[.slice (some ⟨b, off, none⟩) (m + 1) c] 26)).alloc (by simp) (.cells (madeCells #[.int .i64 0, .int .i64 0] (m * 2)) 143));have HX0 := Lib.hid ((Box.new w (.slice (some ⟨b, off, none⟩) (m + 1) c) 26).alloc (.cells (madeCells #[.int .i64 0, .int .i64 0] (m * 2)) 143));have HR0 : Hid (RowF ((w.alloc (.cells #[.slice (some ⟨b, off, none⟩) (m + 1) c] 26)).alloc (.cells (madeCells #[.int .i64 0, .int .i64 0] (m * 2)) 143)) (w.heap.size + 1) 143 (m * 2) (fill (wmL zs ls 0 m) (0 * 2))) := by
    have h := RowF.of_row (rowIs_made0 (w.alloc (.cells #[.slice (some ⟨b, off, none⟩) (m + 1) c] 26)) #[.int .i64 0, .int .i64 0] 143 (m * 2) (fun j hj => by simp at hj; match j, hj with | 0, _ => rfl | 1, _ => rfl) (by simp) (wmL zs ls 0 m))
    rw [World.size_alloc] at h;exact h
  clear hcell h hl hL hA hLA hpt;go_enter Tryzx.func91, Tryz.ntmps91;go_wp2;clear hmk;go_loopw [18] (fun i wr => ∃ k : Nat, k ≤ m ∧ i = .int .i64 k ∧ Hid (RowF wr (w.heap.size + 1) 143 (m * 2) (fill (wmL zs ls 0 m) (k * 2))) ∧ Hid (Box wr w.heap.size (.slice (some ⟨b, off, none⟩) (m + 1) c)) ∧ Hid (Below w.heap.size w wr)) (fun i _ => m - (intOf i).toNat)
  case atStart => exact ⟨0, Nat.zero_le _, rfl, HR0, HX0, HB0⟩
  case round =>
    clear HR0 HX0 HB0;obtain ⟨k, hk, rfl, HR, HX, HB⟩ := hrel;by_cases hlt : k < m
    · have hq := HC.out k (by omega)
      have hq2 := HC.out (k + 1) (by omega);have hz := HB.out.size;have hbr : b < wr.heap.size := by omega
      have hgl := HX.out.2;have hrl := HR.out.lt;have hbox := HX.out.1;have x0 := (HB.out.cell (p := ⟨b, off + k * 4, none⟩) hbB).trans hq.1;have x1 := (HB.out.cell (p := ⟨b, off + k * 4 + 1, none⟩) hbB).trans hq.2.1;have x2 := (HB.out.cell (p := ⟨b, off + k * 4 + 2, none⟩) hbB).trans hq.2.2.1;have x3 := (HB.out.cell (p := ⟨b, off + k * 4 + 3, none⟩) hbB).trans hq.2.2.2;have y0 := (HB.out.cell (p := ⟨b, off + (k + 1) * 4, none⟩) hbB).trans hq2.1;have y1 := (HB.out.cell (p := ⟨b, off + (k + 1) * 4 + 1, none⟩) hbB).trans hq2.2.1;have y2 := (HB.out.cell (p := ⟨b, off + (k + 1) * 4 + 2, none⟩) hbB).trans hq2.2.2.1;have y3 := (HB.out.cell (p := ⟨b, off + (k + 1) * 4 + 3, none⟩) hbB).trans hq2.2.2.2;have i1 : IntKind.i64.wrap ((k : Int) + 1) = (k : Int) + 1 := IntWalk.i64_in _ (by omega);have i2 : (k : Int) < ((m + 1 : Nat) : Int) := by omega
      have i2' : (k : Int) < (m : Int) + 1 := by omega
      have i3 : (k : Int) + 1 < ((m + 1 : Nat) : Int) := by omega
      have i3' : (k : Int) + 1 < (m : Int) + 1 := by omega
      have i4 : (0 : Int) ≤ (k : Int) + 1 := by omega
      have i5 : ((k : Int) + 1).toNat = k + 1 := by omega
      have i6 : (0 : Int) ≤ (k : Int) := by omega
      have i7 : (k : Int) < (m : Int) := by omega
      have ne1 : wr.heap.size ≠ w.heap.size := by omega
      have ne2 : wr.heap.size ≠ b := by omega
      have HST : Hid (btwA zs k = btw (nth zs (k * 4)) (nth zs (k * 4 + 1)) (nth zs (k * 4 + 2)) (nth zs (k * 4 + 3)) (nth zs ((k + 1) * 4)) (nth zs ((k + 1) * 4 + 1)) (nth zs ((k + 1) * 4 + 2)) (nth zs ((k + 1) * 4 + 3))) := rfl;have hS : stoneB (btw (nth zs (k * 4)) (nth zs (k * 4 + 1)) (nth zs (k * 4 + 2)) (nth zs (k * 4 + 3)) (nth zs ((k + 1) * 4)) (nth zs ((k + 1) * 4 + 1)) (nth zs ((k + 1) * 4 + 2)) (nth zs ((k + 1) * 4 + 3))) 4 = true := by
        have := HPT.out k hlt;simp only [pairB, Bool.and_eq_true] at this;exact this.1
      clear hq hq2;obtain ⟨wk, rfl⟩ : ∃ wk : World, wk = wr := ⟨_, rfl⟩;go_upto_region 5 with fail
      go_cut [7] (fun s7 wx => ∃ gs gq : Nat, s7 = .pointer (some ⟨gs, 0, none⟩) ∧ wk.heap.size ≤ gs ∧ Hid (Box wx gs (.slice (some ⟨gq, 0, none⟩) 4 4)) ∧ Hid (RecsAt wx wx.heap.size 2 (some ⟨gq, 0, none⟩) 4 (btwA zs k)) ∧ Hid (Below wk.heap.size wk wx))
      case first =>
        go_region_held3 (fun w' => w'.cell? ⟨w.heap.size, 0, none⟩ = some (.slice (some ⟨b, off, none⟩) (m + 1) c) ∧ (w'.cell? ⟨b, off + k * 4, none⟩ = some (.int .i64 (nth zs (k * 4))) ∧ w'.cell? ⟨b, off + k * 4 + 1, none⟩ = some (.int .i64 (nth zs (k * 4 + 1))) ∧ w'.cell? ⟨b, off + k * 4 + 2, none⟩ = some (.int .i64 (nth zs (k * 4 + 2))) ∧ w'.cell? ⟨b, off + k * 4 + 3, none⟩ = some (.int .i64 (nth zs (k * 4 + 3)))) ∧ (w'.cell? ⟨b, off + (k + 1) * 4, none⟩ = some (.int .i64 (nth zs ((k + 1) * 4))) ∧ w'.cell? ⟨b, off + (k + 1) * 4 + 1, none⟩ = some (.int .i64 (nth zs ((k + 1) * 4 + 1))) ∧ w'.cell? ⟨b, off + (k + 1) * 4 + 2, none⟩ = some (.int .i64 (nth zs ((k + 1) * 4 + 2))) ∧ w'.cell? ⟨b, off + (k + 1) * 4 + 3, none⟩ = some (.int .i64 (nth zs ((k + 1) * 4 + 3))))) (first | exact ⟨hbox, ⟨x0, x1, x2, x3⟩, ⟨y0, y1, y2, y3⟩⟩ | (refine keepA (by assumption) (fun i => ?_) ?_ <;> first | exact cell_alloc_lt (by first | (simp; done) | (simp; omega) | omega) | exact (cell_alloc_lt (by first | (simp; done) | (simp; omega) | omega)).trans (cell_alloc_lt (by first | (simp; done) | (simp; omega) | omega)).symm | exact hcc _ _ (by first | (simp; done) | (simp; omega) | omega) | exact World.cell?_setCell_far _ _ _ _ (by first | (simp; done) | (simp; omega) | omega))) ((go_at_call 92; refine (iBetween_any _ _ _ _ _ _ _ _ _).mono ?_; rintro e w1 ⟨A1, n1, c1, rfl, ht, _, hb1⟩; obtain ⟨rfl, rfl, gq, rfl, hrq, hgq⟩ := ht hS; rw [hS]; obtain ⟨hcc, hff⟩ := bcell hb1; have k1 := hb1.size; simp at k1; have k2 : w1.heap.size ≠ w.heap.size := (by omega); have k3 : w1.heap.size ≠ b := (by omega)))
        · go_wp2_with fail
          go_meet
          have hzk := hb1.size;simp at hzk;have hgl2 := hrq.lt;exact ⟨w1.heap.size, gq, rfl, by omega, Lib.hid (Box.new _ _ _), Lib.hid ((show RowF (w1.alloc _) gq 43 (4 * 2) (ints (btwA zs k)) from hrq.alloc _).recs rfl), Lib.hid (((below_drewN (Below.refl wk.heap.size wk) 1).trans (hb1.mono (by simp))).alloc (by omega) _)⟩
        · go_wp2_with fail
          go_meet
          have hzk := hb1.size;simp at hzk;have hgl2 := hrq.lt;have hrw := (rowF_new1 wk.drew (.slice none 0 0) 126).after hb1;simp at hgq;exact ⟨wk.heap.size, gq, rfl, by omega, Lib.hid (box_set _ hrw), Lib.hid ((show RowF (w1.setCell _ _) gq 43 (4 * 2) (ints (btwA zs k)) from hrq.set_other (by simp; omega) _).recs rfl), Lib.hid ((((below_drewN (Below.refl wk.heap.size wk) 1).alloc (Nat.le_refl _) _).trans (hb1.mono (by simp))).setCell (by simp) _)⟩
      case rest =>
        clear x0 x1 x2 x3 y0 y1 y2 y3 hbox;obtain ⟨gs, gq, rfl, hgs, HBX, HRQ, HBW⟩ := hcut;have HRc := Lib.hid (HR.out.after HBW.out);have HXc := Lib.hid (HX.out.after HBW.out);have HBc := Lib.hid (HB.out.trans (HBW.out.mono hz));have hgsl := HBX.out.2;have bxc := HBX.out.1;have hrlc := HRc.out.lt;have hzc := HBW.out.size;have hnes : w.heap.size + 1 ≠ gs := by omega
        have HSW : Hid (swt zs k = weightI (btwA zs k) 4 ∧ smt zs k = overI facX (btwA zs k) 4) := ⟨rfl, rfl⟩;clear HR HX HB;go_wp2;go_region_held3 (fun w' => w'.cell? ⟨gs, 0, none⟩ = some (.slice (some ⟨gq, 0, none⟩) 4 4)) (first | exact bxc | assumption | (refine (World.cell?_setCell_far _ _ _ _ hnes).trans ((World.cell?_setCell_far _ _ _ _ hnes).trans ?_); assumption))
          ((first
            | (go_at_call 142; refine (iWeightOf_any _ _ _ (btwA zs k) _ (by exact HRQ.out)).mono ?_; rintro e w1 ⟨rfl, hb1⟩; have bx1 : w1.cell? ⟨gs, 0, none⟩ = some (.slice (some ⟨gq, 0, none⟩) 4 4) := (hb1.cell (p := ⟨gs, 0, none⟩) (by exact hgsl)).trans bxc; have HQ1 := Lib.hid ((show RecsAt wc.drew wc.drew.heap.size 2 _ 4 (btwA zs k) from HRQ.out).after hb1))
            | (go_at_call 143; refine (iMomentOf_any _ _ _ (btwA zs k) _ HQ1.out).mono ?_; rintro e w2 ⟨rfl, hb2⟩; have HR2 := Lib.hid ((show RowF wc.drew _ _ _ _ from HRc.out).after hb1 |>.after hb2); have bx2 : w2.cell? ⟨gs, 0, none⟩ = some (.slice (some ⟨gq, 0, none⟩) 4 4) := (hb2.cell (p := ⟨gs, 0, none⟩) (by have := hb1.size; simp at this; exact Nat.lt_of_lt_of_le hgsl this)).trans bx1; have d0 := HR2.out.cell (i := k * 2) (by omega); have d1 := HR2.out.cell (i := k * 2 + 1) (by omega); have f0 := HR2.out.frozen (k * 2); have f1 := HR2.out.frozen (k * 2 + 1))))
        have HB3 := Lib.hid ((((below_drewN HBc.out 1).trans (hb1.mono (by simp; omega))).trans (hb2.mono (by have := hb1.size; simp at this; omega))).setCell (p := ⟨w.heap.size + 1, k * 2, none⟩) (by simp) (.int .i64 (weightI (btwA zs k) 4)) |>.setCell (p := ⟨w.heap.size + 1, k * 2 + 1, none⟩) (by simp) (.int .i64 (overI facX (btwA zs k) 4)))
        have HX3 := Lib.hid (((show Box wc.drew _ _ from HXc.out).after hb1).after hb2);have HX4 : Hid (Box ((w2.setCell ⟨w.heap.size + 1, k * 2, none⟩ (.int .i64 (weightI (btwA zs k) 4))).setCell ⟨w.heap.size + 1, k * 2 + 1, none⟩ (.int .i64 (overI facX (btwA zs k) 4))) w.heap.size (.slice (some ⟨b, off, none⟩) (m + 1) c)) :=
          ⟨(World.cell?_setCell_far _ _ _ _ (by simp)).trans ((World.cell?_setCell_far _ _ _ _ (by simp)).trans HX3.out.1), by have := HX3.out.2; simpa using this⟩
        have HR3 : Hid (RowF ((w2.setCell ⟨w.heap.size + 1, k * 2, none⟩ (.int .i64 (weightI (btwA zs k) 4))).setCell ⟨w.heap.size + 1, k * 2 + 1, none⟩ (.int .i64 (overI facX (btwA zs k) 4))) (w.heap.size + 1) 143 (m * 2) (fill (wmL zs ls 0 m) ((k + 1) * 2))) := by
          have h := (HR2.out.set (k * 2) (.int .i64 (weightI (btwA zs k) 4))).set (k * 2 + 1) (.int .i64 (overI facX (btwA zs k) 4));have hf := wmL_fill (zs := zs) (ls := ls) (i := 0) hlt;rw [kwTo_0, kmTo_0, HSW.out.1, HSW.out.2] at hf;rw [← hf];exact h
        clear d0 d1 f0 f1 hb1 hb2 bx1 bx2 bxc;go_wp2;go_roundw
        case rel => exact ⟨k + 1, by omega, by go_num, HR3, HX4, HB3⟩
        case measure => simp [intOf]; omega
    · obtain rfl : m = k := by omega
      have HR0 : Hid (RowF wr (w.heap.size + 1) 143 (m * 2) (ints (wmL zs ls 0 m))) := HR.out.congr (fun j hj => fill_end _ hj);clear HR HC;go_wp2;go_loopw [47] (fun v wr => ∃ i : Nat, i ≤ q ∧ v = .int .i64 i ∧ Hid (RowF wr (w.heap.size + 1) 143 (m * 2) (ints (wmL zs ls i m))) ∧ Hid (Below w.heap.size w wr)) (fun v _ => q - (intOf v).toNat)
      case atStart => exact ⟨0, Nat.zero_le _, rfl, HR0, HB⟩
      case round =>
        clear HR0 HB HX;obtain ⟨i, hi, rfl, HR, HB⟩ := hrel;by_cases hli : i < q
        · obtain ⟨b2, off2, rfl, hb2B, hc2⟩ := HLD.out.2 (by omega)
          have hlc := ldCells hc2 hli;have x0 := (HB.out.cell (p := ⟨b2, off2 + i * 3, none⟩) hb2B).trans hlc.1;have x1 := (HB.out.cell (p := ⟨b2, off2 + i * 3 + 1, none⟩) hb2B).trans hlc.2.1;have x2 := (HB.out.cell (p := ⟨b2, off2 + i * 3 + 2, none⟩) hb2B).trans hlc.2.2;have hlo := loadAt_out (HLA.out i hli);obtain ⟨s, hs⟩ : ∃ s : Nat, nth ls (i * 3) = (s : Int) := ⟨(nth ls (i * 3)).toNat, by omega⟩;have hsm : s < m := by omega
          have hz := HB.out.size;have hrl := HR.out.lt;have c0 := HR.out.cell (i := s * 2) (by omega);have c1 := HR.out.cell (i := s * 2 + 1) (by omega);have hwn := wmL_nth zs ls i hsm;rw [ints_def, hwn.1] at c0;rw [ints_def, hwn.2] at c1;have hkb := HKB.out s i (by omega);have hmb := HMB.out s i (by omega);have hkb2 := HKB.out s (i + 1) (by omega);have hmb2 := HMB.out s (i + 1) (by omega);have hwx := wx_bd hlo.2.1 hlo.2.2;have e3 : IntKind.i64.wrap (kwTo zs ls s i + nth ls (i * 3 + 1)) = kwTo zs ls s (i + 1) := by rw [← kwTo_t zs hs]; exact IntWalk.i64_in _ (by omega)
          have e4 : IntKind.i64.wrap (nth ls (i * 3 + 1) * nth ls (i * 3 + 2)) = nth ls (i * 3 + 1) * nth ls (i * 3 + 2) := IntWalk.i64_in _ (by omega);have e5 : IntKind.i64.wrap (kmTo zs ls s i + nth ls (i * 3 + 1) * nth ls (i * 3 + 2)) = kmTo zs ls s (i + 1) := by rw [← kmTo_t zs hs]; exact IntWalk.i64_in _ (by omega)
          have HLW := Lib.hid (wmL_load (zs := zs) hsm hs);rw [hs] at x0;have s0 : (0 : Int) ≤ (s : Int) := by omega
          have s1 : (s : Int) < (m : Int) := by omega
          clear hs hlc hc2 hlo hwn;have HRA := Lib.hid (HR.out.alloc (.cells #[.int .i64 (s : Int), .int .i64 (nth ls (i * 3 + 1)), .int .i64 (nth ls (i * 3 + 2))] 154));have HBA := Lib.hid (HB.out.alloc hz (.cells #[.int .i64 (s : Int), .int .i64 (nth ls (i * 3 + 1)), .int .i64 (nth ls (i * 3 + 2))] 154));have g0 := HRA.out.frozen (s * 2);have g1 := HRA.out.frozen (s * 2 + 1);generalize nth ls (i * 3 + 1) = lw at *
          generalize nth ls (i * 3 + 2) = lx at *
          have HLB : Hid (RowF (wr.alloc (.cells #[.int .i64 (s : Int), .int .i64 lw, .int .i64 lx] 154)) wr.heap.size 154 3 (ints [(s : Int), lw, lx])) := RowF.of_row (World.rowIs_alloc wr #[.int .i64 (s : Int), .int .i64 lw, .int .i64 lx] 154 _ (fun j hj => by simp at hj; match j, hj with | 0, _ => rfl | 1, _ => rfl | 2, _ => rfl))
          clear hkb hmb hkb2 hmb2 hwx;obtain ⟨wk, rfl⟩ : ∃ wk : World, wk = wr := ⟨_, rfl⟩;go_upto_region 11 with fail
          go_cut [10] (fun s10 wx => s10 = .pointer (some ⟨wk.heap.size, 0, none⟩) ∧ Hid (RowF wx (w.heap.size + 1) 143 (m * 2) (fun j => if j = s * 2 then Value.int .i64 (kwTo zs ls s (i + 1)) else ints (wmL zs ls i m) j)) ∧ Hid (RowF wx wk.heap.size 154 3 (ints [(s : Int), lw, lx])) ∧ Hid (Below w.heap.size w wx))
          case first =>
            have HLN : Hid (RowF ((wk.setCell ⟨w.heap.size + 1, s * 2, none⟩ (.int .i64 (kwTo zs ls s (i + 1)))).alloc (.cells #[.int .i64 (s : Int), .int .i64 lw, .int .i64 lx] 154)) wk.heap.size 154 3 (ints [(s : Int), lw, lx])) := by
              have h := rowF_new3 (wk.setCell ⟨w.heap.size + 1, s * 2, none⟩ (.int .i64 (kwTo zs ls s (i + 1)))) (s : Int) lw lx 154;have e : (wk.setCell ⟨w.heap.size + 1, s * 2, none⟩ (.int .i64 (kwTo zs ls s (i + 1)))).heap.size = wk.heap.size := by simp
              rw [e] at h;exact h
            go_region_law (fail)
            all_goals (go_wp2_with fail; go_meet; exact ⟨rfl, Lib.hid ((HR.out.set (s * 2) _).alloc _).drew, Lib.hid HLN.out.drew, Lib.hid ((HB.out.setCell (by simp) _).alloc (by simp; omega) _).drew⟩)
          case rest =>
            clear c0 x0 x1 x2 e3 g0 g1 HRA HLB HBA;obtain ⟨rfl, HRc, HLc, HBc⟩ := hcut;have c1 : wc.cell? ⟨w.heap.size + 1, s * 2 + 1, none⟩ = some (.int .i64 (kmTo zs ls s i)) := by
              have h := HRc.out.cell (i := s * 2 + 1) (by omega);rw [if_neg (by omega), ints_def, (wmL_nth zs ls i hsm).2] at h;exact h
            have y0 : wc.cell? ⟨wk.heap.size, 0, none⟩ = some (.int .i64 (s : Int)) := HLc.out.cell (by omega);have y1 : wc.cell? ⟨wk.heap.size, 1, none⟩ = some (.int .i64 lw) := HLc.out.cell (by omega);have y2 : wc.cell? ⟨wk.heap.size, 2, none⟩ = some (.int .i64 lx) := HLc.out.cell (by omega);have g1 := HRc.out.frozen (s * 2 + 1);have HR4 : Hid (RowF (wc.drew.setCell ⟨w.heap.size + 1, s * 2 + 1, none⟩ (.int .i64 (kmTo zs ls s (i + 1)))) (w.heap.size + 1) 143 (m * 2) (ints (wmL zs ls (i + 1) m))) := (HRc.out.drew.set (s * 2 + 1) _).congr HLW.out;have HB4 : Hid (Below w.heap.size w (wc.drew.setCell ⟨w.heap.size + 1, s * 2 + 1, none⟩ (.int .i64 (kmTo zs ls s (i + 1))))) := Lib.hid (HBc.out.drew.setCell (by simp) _);go_wp2;go_region_law (fail)
            all_goals
              go_wp2;go_roundw
              case rel => exact ⟨i + 1, by omega, by go_num, HR4, HB4⟩
              case measure => simp [intOf]; omega
        · obtain rfl : q = i := by omega
          go_wp2;go_ret;exact ⟨_, rfl, by omega, HR.out, HB.out⟩
end X
section
open Go.RowKit
theorem ownB_below {B base:Nat} {E:TypeId} {a w w':World} {v:Value} {xs:List Int} {o:Obj} (hb:Below B a w) (hB:B≤w.heap.size) (hown:OwnV w base E v xs) (h:B≤base) (hg:(w.alloc o).grownBy w' v.ownBlock):Below B a w' :=
 (hb.alloc hB o).grown hg (by simp; omega) (fun k hk=>Nat.le_trans h (hown.ownLt k hk))
end
namespace X
open Go.RowKit
structure Kept (w:World) (v:Value) (wr:World):Prop where
 below:Below w.heap.size w wr
 box:Box wr w.heap.size v
 lt:w.heap.size+1≤wr.heap.size
theorem Kept.new (w:World) (v:Value) (t:TypeId):Kept w v (w.alloc (.cells #[v] t)):=⟨(Below.refl _ _).alloc (Nat.le_refl _) _,Box.new _ _ _,by simp⟩
theorem Kept.after {w wr w1:World} {v:Value} (h:Kept w v wr) (hb:Below wr.heap.size wr w1):Kept w v w1:=⟨below_then h.below hb,h.box.after hb,Nat.le_trans h.lt hb.size⟩
theorem Kept.step {w wr w1:World} {v:Value} (h:Kept w v wr) (hb:Below (w.heap.size+1) wr w1):Kept w v w1 :=
 ⟨h.below.trans (hb.mono (Nat.le_succ _)),⟨(hb.cell (p:=⟨w.heap.size,0,none⟩) (Nat.lt_succ_self _)).trans h.box.1,Nat.lt_of_lt_of_le h.box.2 hb.size⟩,Nat.le_trans h.lt hb.size⟩
theorem Kept.own {w wr w1:World} {v u:Value} {E:TypeId} {xs:List Int} {o:Obj} (h:Kept w v wr) (hown:OwnV wr (w.heap.size+1) E u xs) (hg:(wr.alloc o).grownBy w1 u.ownBlock):Kept w v w1 :=
 h.step (ownB_below (Below.refl _ _) h.lt hown (Nat.le_refl _) hg)
end X
end Go.Proofs.YtpblihmhpalkfaaGreat
