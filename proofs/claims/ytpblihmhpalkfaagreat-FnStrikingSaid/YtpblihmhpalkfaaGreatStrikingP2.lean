/-
  Texts that the law stands on, part 2.
-/
import Derived.Test.YtpblihmhpalkfaaGreatStrikingP1
import Derived.Test.YtpblihmhpalkfaaGreatJ1
import Derived.Test.YtpblihmhpalkfaaGreatJ11
import Derived.Test.YtpblihmhpalkfaaGreatJ15
import Derived.Test.YtpblihmhpalkfaaGreatJ17
import Derived.Test.YtpblihmhpalkfaaGreatJ19
import Derived.Test.YtpblihmhpalkfaaGreatJ21
import Derived.Test.YtpblihmhpalkfaaGreatJ9
import Derived.Maps.RangeWalk
import Derived.Laws.BitsAllLaws
import Derived.Laws.BitsLemmas
import Derived.Maps.OwnSet
import Derived.Deep.RegionLaw
set_option maxRecDepth 100000
set_option linter.unusedVariables false
set_option linter.unusedSimpArgs false
namespace Go.Proofs.YtpblihmhpalkfaaGreat
namespace X
open Go.RowKit Go.Maps
theorem lawIntM:Keyed Tryzx.prog 3:=int_keyed Tryzx.underlying3
theorem zeroWt (w:World):(zeroValue 143).run Tryzx.prog w = .ok (.agg #[.int .i64 0,.int .i64 0]) w:=by kernel_rfl
structure SMk (W1 wr:World) (g m k:Nat) (D:DataW Unit) (zs:List Int):Prop where
 own:wr.ownsMap Tryzx.prog 3 prR W1.heap.size k D
 mp:MapIs D (f1W zs k) (f1M zs k)
 row:RowF wr g 143 (m*2) (ints (wmL zs [] 0 m))
 below:Below W1.heap.size W1 wr
theorem rowC_new2M (w:World) (a b:Int) (T:TypeId):RowF (w.alloc (.cells #[.int .i64 a,.int .i64 b] T)) w.heap.size T 2 (ints [a,b]) :=
 RowF.of_row (World.rowIs_alloc w #[.int .i64 a,.int .i64 b] T _ (fun j hj=>by simp at hj; match j,hj with | 0,_=>rfl | 1,_=>rfl))
theorem pr_look {w:World} {D:DataW Unit} {b n:Nat} {F G:Nat→Int} (h:w.ownsMap Tryzx.prog 3 prR b n D) (hm:MapIs D F G) (j:Nat) (hj:j≤1048576) :
  (Instr.lookup 176 (.map (some b)) (.int .i64 (j:Int)) false).run Tryzx.prog w = .ok (.agg #[.int .i64 (F j),.int .i64 (G j)]) w:=by
 obtain ⟨v,ps,hrun,hv⟩:=h.lookup lawIntM Tryzx.underlying176 (zeroWt _) (prR_mk 0 0) (keyOf_int_mk Tryzx.underlying3 (wf_inM (x:=(j:Int)) (by omega)));rw [show (Lit.int .i64 (j:Int))=keyL (j:Int) from rfl,hm j] at hv;rw [hrun,prR_inj hv]
set_option maxRecDepth 100000 in
set_option maxHeartbeats 6400000 in
theorem iStageRowsN_any (A:Option Addr) (n c:Nat) (zs:List Int) (B:Option Addr) (q d:Nat) (cs:List Int) (w:World) (h:RecsAt w w.heap.size 4 A n zs) (hn:n≤1048576) (hi:IntsAt w w.heap.size B q cs) (hq:q≤1048576) :
  Calls Tryzx.prog 99 #[.agg #[.slice A n c],.slice B q d] w (RowsPostN w (stgN zs n cs q) (stgR zs n cs q)):=by
 have b0:Below w.heap.size w (w.alloc (.cells #[.slice A n c] 26)):=(Below.refl _ _).alloc (Nat.le_refl _) _;have h1:=h.after b0;have l1:=hi.after b0;have bx0:Box (w.alloc (.cells #[.slice A n c] 26)) w.heap.size (.slice A n c):=Box.new _ _ _;cases hL:carriedB zs n cs q
 ·have HF:=Lib.hid (stg_f hL)
  go_enter Tryzx.func99,Tryz.ntmps99;go_wp2_with fail
  refine (iCarriedOk_any _ _ _ zs _ _ _ cs _ h1 hn l1 hq).mono ?_;rw [hL];rintro e w1 ⟨rfl,hb1⟩;have HB1:=Lib.hid (below_then b0 hb1);clear hb1;go_wp2;go_ret;exact ⟨⟨_,rfl,by rw [HF.out.1,HF.out.2]; exact OwnR.nil _ _ _ _,HB1.out⟩,fun _=>rfl⟩
 have HT:=Lib.hid (stg_t hL);obtain ⟨hA,hasc⟩:=carriedB_out hL;have hn8:=(archB_out hA).1;obtain ⟨m,rfl⟩:∃ m,n=m+1:=⟨n - 1,by omega⟩;rw [Nat.add_sub_cancel] at HT;have HA:=Lib.hid hA;have HWM:=Lib.hid (wmok_stg (n:=m+1) cs q m hA);have HASC:=Lib.hid hasc;have HI:=Lib.hid hi;have HH:=Lib.hid h;have hmk:=fun W=>run_make_recs (P:=Tryzx.prog) 122 143 2 16 #[.int .i64 0,.int .i64 0] Tryzx.underlying122 infoWt m (by omega) (by omega) W
 have e1:((m+1:Nat):Int) - 1=(m:Int):=by omega
 have e2:IntKind.i64.wrap (((m+1:Nat):Int) - 1)=(m:Int):=by rw [e1]; exact IntWalk.i64_in _ (by omega)
 have HMK:=Lib.hid hmk;have hmm := @run_makeMap Tryzx.prog;clear h hi hA hasc hmk;go_enter Tryzx.func99,Tryz.ntmps99;go_wp2_with fail
 refine (iCarriedOk_any _ _ _ zs _ _ _ cs _ h1 hn l1 hq).mono ?_;rw [hL];rintro e W1 ⟨rfl,hb1⟩;have HB1:=Lib.hid (below_then b0 hb1);have BX1:=Lib.hid (bx0.after hb1);have h2:=h1.after hb1;have hbm:Below W1.heap.size W1 (W1.alloc (.map #[] 0)):=(Below.refl _ _).alloc (Nat.le_refl _) _;have h3:=h2.after hbm;have BX2:=Lib.hid (BX1.out.after hbm);have HBM:=Lib.hid hbm;have cx2:=BX2.out.1;have cx1:=BX1.out.1;have hLB:loadsB zs (m+1) [] 0=true:=loadsB_t HA.out (by omega) (allTo_0 _);clear hb1 b0 h1 l1 bx0 hL hbm h2;go_wp2_with fail
 refine (weightsOf_any _ _ _ zs none 0 0 [] _ h3 RecsAt.nil hLB).mono ?_;rw [Nat.add_sub_cancel];rintro e W2 ⟨g,rfl,hg,hr2,hb2⟩;have HM0:Hid (SMk W1 W2 g m 0 (.map []) zs):=by
  refine ⟨?_,mapIs_0 zs,hr2,HBM.out.trans (hb2.mono HBM.out.size)⟩;exact (World.ownsMap_made W1 Tryzx.prog 3 prR).kept (row:=none) ⟨hb2.os,hb2.tape,hb2.output,hb2.size,fun i hi _=>hb2.block i hi⟩ (by simp)
 have hgl:W1.heap.size<g:=by simp at hg; omega
 clear hr2 hb2 h3 hLB cx1 cx2 hg hmm;go_wp2;go_loopw [20] (fun v20 wr=>∃ (k:Nat) (D:DataW Unit),k≤m∧v20 = .int .i64 k∧Hid (SMk W1 wr g m k D zs)) (fun v20 _=>m - (intOf v20).toNat)
 case atStart=>exact ⟨0,_,Nat.zero_le _,rfl,HM0⟩
 case round =>
  clear HM0;obtain ⟨k,D,hk,rfl,HM⟩:=hrel;by_cases hlt:k<m
  ·have ki:(k:Int)<(m:Int):=by omega
   have k0:(0:Int)≤(k:Int):=by omega
   have hz:=HM.out.below.size;have hnth:=wmL_nth zs [] 0 hlt;rw [kwTo_0,kmTo_0] at hnth;have x0:wr.cell? ⟨g,k*2,none⟩=some (.int .i64 (swt zs k)):=by
    have h:=HM.out.row.cell (i:=k*2) (by omega);rw [ints_def,hnth.1] at h;exact h
   have x1:wr.cell? ⟨g,k*2+1,none⟩=some (.int .i64 (smt zs k)):=by
    have h:=HM.out.row.cell (i:=k*2+1) (by omega);rw [ints_def,hnth.2] at h;exact h
   have hrl:=HM.out.row.lt;have bn:=rowC_new2M wr (swt zs k) (smt zs k) 143;have y0:(wr.alloc (.cells #[.int .i64 (swt zs k),.int .i64 (smt zs k)] 143)).cell? ⟨wr.heap.size,0,none⟩=some (.int .i64 (swt zs k)):=bn.cell (by omega);have y1:(wr.alloc (.cells #[.int .i64 (swt zs k),.int .i64 (smt zs k)] 143)).cell? ⟨wr.heap.size,1,none⟩=some (.int .i64 (smt zs k)):=bn.cell (by omega);have HOW:=Lib.hid (HM.out.own.alloc (.cells #[.int .i64 (swt zs k),.int .i64 (smt zs k)] 143));have HROW:=Lib.hid (HM.out.row.alloc (.cells #[.int .i64 (swt zs k),.int .i64 (smt zs k)] 143));have HBE:=Lib.hid (HM.out.below.alloc hz (.cells #[.int .i64 (swt zs k),.int .i64 (smt zs k)] 143));have HMP:=Lib.hid (mapIs_put HM.out.own.isMap HM.out.mp);have hkey:keyOf Tryzx.prog 3 (.int .i64 (k:Int))=some (keyL (k:Int)):=keyOf_int_mk Tryzx.underlying3 (wf_inM (x:=(k:Int)) (by omega));clear hnth bn HM;go_wp2_with (at_mapUpdate; refine wpList_mapUpdate_own _ rfl (.tmp 25) (.tmp 26) (.tmp 27) 176 rfl 3 143 lawIntM Tryzx.underlying176 prR W1.heap.size k D rfl (by exact HOW.out) (by unfold maxLen; omega) (.int .i64 (k:Int)) (.agg #[.int .i64 (swt zs k),.int .i64 (smt zs k)]) (keyL (k:Int)) rfl rfl hkey (prD (swt zs k) (smt zs k)) [] rfl ?_; intro w3 hown3 hgr3);have HM3:Hid (SMk W1 w3 g m (k+1) (D.put (keyL (k:Int)) (prD (swt zs k) (smt zs k))) zs) :=
    ⟨hown3,HMP.out,HROW.out.of_block (grown_block hgr3 g (by simp; omega) (by intro e; injection e with e; omega)),HBE.out.grown hgr3 (by simp; omega) (fun j hj=>by cases hj; exact Nat.le_refl _)⟩
   clear hown3 hgr3 hkey;go_wp2;go_roundw
   case rel=>exact ⟨k+1,_,by omega,by go_num,HM3⟩
   case measure=>simp [intOf]; omega
  ·obtain rfl:m=k:=by omega
   have HD:Hid (wr.ownsMap Tryzx.prog 3 prR W1.heap.size m D∧MapIs D (f2W zs cs m 0) (f2M zs cs m 0)∧Below W1.heap.size W1 wr):=⟨HM.out.own,mapIs_12 cs HM.out.mp,HM.out.below⟩;clear HM;go_wp2;go_loopw [31] (fun v31 wr=>∃ (i:Nat) (D:DataW Unit),i≤q∧v31 = .int .i64 i∧Hid (wr.ownsMap Tryzx.prog 3 prR W1.heap.size m D∧MapIs D (f2W zs cs m i) (f2M zs cs m i)∧Below W1.heap.size W1 wr)) (fun v31 _=>q - (intOf v31).toNat)
   case atStart=>exact ⟨0,_,Nat.zero_le _,rfl,HD⟩
   case round =>
    clear HD;obtain ⟨i,D,hi',rfl,HD⟩:=hrel;by_cases hlt:i<q
    ·obtain ⟨bi,oi,rfl,hbi,hci⟩:=HI.out.2 (by omega)
     have x0:wr.cell? ⟨bi,oi+i,none⟩=some (.int .i64 (nth cs i)):=((HB1.out.trans (HD.out.2.2.mono HB1.out.size)).cell (p:=⟨bi,oi+i,none⟩) hbi).trans (hci i hlt);have hin:=asc_in HASC.out hlt;have ki:(i:Int)<(q:Int):=by omega
     have k0:(0:Int)≤(i:Int):=by omega
     have hkey:keyOf Tryzx.prog 3 (.int .i64 (nth cs i))=some (keyL (nth cs i)):=keyOf_int_mk Tryzx.underlying3 (wf_inM (x:=nth cs i) (by omega));clear hci;go_wp2_with (at_delete; refine wpList_delete_own _ rfl (.tmp 35) (.tmp 36) 176 3 rfl 143 lawIntM Tryzx.underlying176 prR W1.heap.size m D rfl (by exact HD.out.1) (.int .i64 (nth cs i)) (keyL (nth cs i)) rfl hkey ?_; intro w3 hown3 htu3);have HD3:Hid (w3.ownsMap Tryzx.prog 3 prR W1.heap.size m (D.del (keyL (nth cs i)))∧MapIs (D.del (keyL (nth cs i))) (f2W zs cs m (i+1)) (f2M zs cs m (i+1))∧Below W1.heap.size W1 w3) :=
      ⟨hown3,mapIs_del HD.out.2.1,HD.out.2.2.grown htu3.grown HD.out.2.2.size (fun j hj=>by cases hj; exact Nat.le_refl _)⟩
     clear hown3 htu3 hkey;go_wp2;go_roundw
     case rel=>exact ⟨i+1,_,by omega,by go_num,HD3⟩
     case measure=>simp [intOf]; omega
    ·obtain rfl:i=q:=by omega
     have cx:wr.cell? ⟨w.heap.size,0,none⟩=some (.slice A (m+1) c):=(HD.out.2.2.cell (p:=⟨w.heap.size,0,none⟩) BX1.out.2).trans BX1.out.1;have hz:=HD.out.2.2.size;have hmk:=HMK.out;have HS0:Hid ((wr.alloc (.cells (madeCells #[.int .i64 0,.int .i64 0] (m*2)) 143)).ownsMap Tryzx.prog 3 prR W1.heap.size m D∧RowF (wr.alloc (.cells (madeCells #[.int .i64 0,.int .i64 0] (m*2)) 143)) wr.heap.size 143 (m*2) (fill (stgL zs cs i m) (0*2))∧Below W1.heap.size W1 (wr.alloc (.cells (madeCells #[.int .i64 0,.int .i64 0] (m*2)) 143))) :=
      ⟨HD.out.1.alloc _,RowF.of_row (rowIs_made0 wr #[.int .i64 0,.int .i64 0] 143 (m*2) (fun j hj=>by simp at hj; match j,hj with | 0,_=>rfl | 1,_=>rfl) (by simp) (stgL zs cs i m)),HD.out.2.2.alloc hz _⟩
     have HMI:=Lib.hid HD.out.2.1;obtain ⟨W3,rfl⟩:∃ W3:World,W3=wr:=⟨_,rfl⟩;have hml:=HD.out.1.lt;clear HD;go_wp2;clear hmk cx;go_loopw [45] (fun v45 wr=>∃ (k:Nat),k≤m∧v45 = .int .i64 k∧Hid (wr.ownsMap Tryzx.prog 3 prR W1.heap.size m D∧RowF wr W3.heap.size 143 (m*2) (fill (stgL zs cs i m) (k*2))∧Below W1.heap.size W1 wr)) (fun v45 _=>m - (intOf v45).toNat)
     case atStart=>exact ⟨0,Nat.zero_le _,rfl,HS0⟩
     case round =>
      clear HS0;obtain ⟨k,hk,rfl,HS⟩:=hrel;by_cases hlt:k<m
      ·have ki:(k:Int)<(m:Int):=by omega
       have k0:(0:Int)≤(k:Int):=by omega
       have hl1:=pr_look HS.out.1 HMI.out k (by omega);rw [(f2_stg hlt).1,(f2_stg hlt).2] at hl1;have z0:wr.cell? ⟨W3.heap.size,k*2,none⟩=some (.int .i64 0):=by
        have h:=HS.out.2.1.cell (i:=k*2) (by omega);rw [fill_at _ (by omega)] at h;exact h
       have z1:wr.cell? ⟨W3.heap.size,k*2+1,none⟩=some (.int .i64 0):=by
        have h:=HS.out.2.1.cell (i:=k*2+1) (by omega);rw [fill_at _ (by omega)] at h;exact h
       have f0:=HS.out.2.1.frozen (k*2);have f1:=HS.out.2.1.frozen (k*2+1);have HS3:Hid (((wr.setCell ⟨W3.heap.size,k*2,none⟩ (.int .i64 (stgW zs cs i k))).setCell ⟨W3.heap.size,k*2+1,none⟩ (.int .i64 (stgM zs cs i k))).ownsMap Tryzx.prog 3 prR W1.heap.size m D∧RowF ((wr.setCell ⟨W3.heap.size,k*2,none⟩ (.int .i64 (stgW zs cs i k))).setCell ⟨W3.heap.size,k*2+1,none⟩ (.int .i64 (stgM zs cs i k))) W3.heap.size 143 (m*2) (fill (stgL zs cs i m) ((k+1)*2))∧Below W1.heap.size W1 ((wr.setCell ⟨W3.heap.size,k*2,none⟩ (.int .i64 (stgW zs cs i k))).setCell ⟨W3.heap.size,k*2+1,none⟩ (.int .i64 (stgM zs cs i k)))):=by
        refine ⟨(HS.out.1.setCell (by simp; omega) _).setCell (by simp; omega) _,?_,(HS.out.2.2.setCell (by simp; omega) _).setCell (by simp; omega) _⟩
        rw [← stgL_fill hlt];exact (HS.out.2.1.set (k*2) _).set (k*2+1) _
       generalize stgW zs cs i k=sw at *
       generalize stgM zs cs i k=sm at *
       clear HS;go_wp2;go_roundw
       case rel=>exact ⟨k+1,by omega,by go_num,HS3⟩
       case measure=>simp [intOf]; omega
      ·obtain rfl:m=k:=by omega
       have cx:wr.cell? ⟨w.heap.size,0,none⟩=some (.slice A (m+1) c):=(HS.out.2.2.cell (p:=⟨w.heap.size,0,none⟩) BX1.out.2).trans BX1.out.1;have r1:=HH.out.below (HB1.out.trans (HS.out.2.2.mono HB1.out.size)) |>.mono (Nat.le_trans HB1.out.size HS.out.2.2.size);have r2:RecsAt wr wr.heap.size 2 (some ⟨W3.heap.size,0,none⟩) m (stgL zs cs i m):=(HS.out.2.1.congr (fun j hj=>fill_end _ hj)).recs (stgL_len _ _ _ _);have HBF:=Lib.hid (HB1.out.trans (HS.out.2.2.mono HB1.out.size));clear HS;go_wp2_with fail
       refine (rowsFor_any _ _ _ zs _ _ (stgL zs cs i m) _ r1 (by exact r2) HA.out HWM.out).mono ?_;rintro e w5 ⟨v5,rfl,ho5,hb5⟩;obtain ⟨A5,c5,rfl,_⟩:=ho5.slice;have HO5:=Lib.hid (ho5.weaken HBF.out.size);have HB5:=Lib.hid (below_then HBF.out hb5);clear ho5 hb5;go_wp2;go_ret;exact ⟨⟨_,rfl,by rw [HT.out.1,HT.out.2]; exact HO5.out,HB5.out⟩,fun h0=>by have:=HT.out.1; omega⟩
end X
namespace X
open Go.RowKit
theorem stgN_few (zs:List Int) (n:Nat) (cs:List Int) (q:Nat):stgN zs n cs q≤17:=by
 unfold stgN;split
 ·rename_i h
  have:=(archB_out (carriedB_out h).1).1;omega
 ·omega
def stgB (zs:List Int) (n:Nat) (cs:List Int) (q:Nat):Bool:=decide (0<cornN (stgR zs n cs q) (stgN zs n cs q))
section
variable (A : Option Addr) (n c : Nat) (zs : List Int) (B : Option Addr) (q d : Nat) (cs : List Int) (w : World) (h : RecsAt w w.heap.size 4 A n zs) (hn : n ≤ 1048576) (hi : IntsAt w w.heap.size B q cs) (hq : q ≤ 1048576)
include h hn hi hq
set_option maxRecDepth 100000 in
set_option maxHeartbeats 3200000 in
theorem sStageStands_any:Calls Tryzx.prog 26 #[.agg #[.slice A n c],.slice B q d] w fun e w'=>e = .returned (.bool (stgB zs n cs q))∧Below w.heap.size w w':=by
 have b0:Below w.heap.size w (w.alloc (.cells #[.slice A n c] 26)):=(Below.refl _ _).alloc (Nat.le_refl _) _;have h1:=h.after b0;have l1:=hi.after b0;have bx0:Box (w.alloc (.cells #[.slice A n c] 26)) w.heap.size (.slice A n c):=Box.new _ _ _;have cx0:=bx0.1;go_enter Tryzx.func26,Tryz.ntmps26;go_wp2_with fail
 refine (sStageRows_any _ _ _ zs _ _ _ cs _ (by exact h1) hn (by exact l1) hq).mono ?_;rintro e w1 ⟨v1,rfl,ho1,hb1⟩;have bx1:=bx0.after hb1;have cx1:=bx1.1;have HB1:=Lib.hid (below_then b0 hb1);obtain ⟨A1,c1,rfl,_⟩:=ho1.slice;have r1:=ho1.recs;go_wp2_with fail
 refine (sCorners_any _ _ _ (stgR zs n cs q) _ (by exact r1) (by have:=stgN_few zs n cs q; omega)).mono ?_
 rintro e w2 ⟨v2,rfl,ho2,hb2⟩;have cx2:=(bx1.after hb2).1;have HB2:=Lib.hid (below_then HB1.out hb2);obtain ⟨A2,c2,rfl,_⟩:=ho2.slice;clear ho2 hb2 ho1 hb1 r1 bx1 cx0 cx1 cx2;go_wp2;go_ret;exact ⟨rfl,HB2.out⟩
set_option maxRecDepth 100000 in
set_option maxHeartbeats 3200000 in
theorem iStageStands_any:Calls Tryzx.prog 64 #[.agg #[.slice A n c],.slice B q d] w fun e w'=>e = .returned (.bool (stgB zs n cs q))∧Below w.heap.size w w':=by
 have b0:Below w.heap.size w (w.alloc (.cells #[.slice A n c] 26)):=(Below.refl _ _).alloc (Nat.le_refl _) _;have h1:=h.after b0;have l1:=hi.after b0;have bx0:Box (w.alloc (.cells #[.slice A n c] 26)) w.heap.size (.slice A n c):=Box.new _ _ _;have cx0:=bx0.1;go_enter Tryzx.func64,Tryz.ntmps64;go_wp2_with fail
 refine (iStageRowsN_any _ _ _ zs _ _ _ cs _ (by exact h1) hn (by exact l1) hq).mono ?_;rintro e w1 ⟨⟨v1,rfl,ho1,hb1⟩,hz1⟩;have bx1:=bx0.after hb1;have cx1:=bx1.1;have HB1:=Lib.hid (below_then b0 hb1);obtain ⟨A1,c1,rfl,_⟩:=ho1.slice;have r1:=ho1.recs;have n1:stgN zs n cs q=0→A1=none:=fun h0=>by have:=hz1 h0; simp at this; exact this.1
 go_wp2_with fail
 refine (xCorners_any _ _ _ (stgR zs n cs q) _ (by exact r1) (by have:=stgN_few zs n cs q; omega) n1).mono ?_
 rintro e w2 ⟨v2,rfl,he2,hb2⟩;have ho2:=he2.own;have cx2:=(bx1.after hb2).1;have HB2:=Lib.hid (below_then HB1.out hb2);obtain ⟨A2,c2,rfl,_⟩:=ho2.slice;clear he2 n1 hz1 ho2 hb2 ho1 hb1 r1 bx1 cx0 cx1 cx2;go_wp2;go_ret;exact ⟨rfl,HB2.out⟩
omit hi hq in
set_option maxRecDepth 100000 in
set_option maxHeartbeats 3200000 in
theorem sFree_any:Calls Tryzx.prog 24 #[.agg #[.slice A n c]] w fun e w'=>e = .returned (.bool (stgB zs n [] 0))∧Below w.heap.size w w':=by
 have b0:Below w.heap.size w (w.alloc (.cells #[.slice A n c] 26)):=(Below.refl _ _).alloc (Nat.le_refl _) _
 have h1:=h.after b0
 have bx0:Box (w.alloc (.cells #[.slice A n c] 26)) w.heap.size (.slice A n c):=Box.new _ _ _
 have cx0:=bx0.1
 go_enter Tryzx.func24,Tryz.ntmps24
 have h2:=h1.after ((Below.refl _ _).alloc (Nat.le_refl _) (.cells #[] 3))
 have b2:=b0.alloc (by simp) (.cells #[] 3)
 go_wp2_with fail
 refine (sStageStands_any _ _ _ zs _ _ _ [] _ (by exact h2) hn ⟨by simp,fun h=>absurd h (by omega)⟩ (by omega)).mono ?_
 rintro e w1 ⟨rfl,hb1⟩
 have HB1:=Lib.hid (below_then b2 hb1)
 clear hb1
 go_wp2
 go_ret
 exact ⟨rfl,HB1.out⟩
omit hi hq in
end
end X
section
open Go.RowKit
def p2 (k:Nat):Nat:=2 ^ k
theorem p2_pos (k:Nat):0<p2 k:=Nat.two_pow_pos k
end
section
open Go.RowKit
def setL (s:Nat):Nat→List Int
 | 0 => []
 | k+1=>if s / p2 k % 2=1 then setL s k ++ [(k:Int)] else setL s k
theorem setL_yes {s k:Nat} (h:s / p2 k % 2=1):setL s (k+1)=setL s k ++ [(k:Int)]:=by simp [setL,h]
theorem setL_no {s k:Nat} (h:¬ s / p2 k % 2=1):setL s (k+1)=setL s k:=by simp [setL,h]
theorem setL_len (s:Nat):∀ k,(setL s k).length≤k
 | 0=>Nat.le_refl _
 | k+1=>by
  have ih:=setL_len s k;by_cases h:s / p2 k % 2=1
  ·rw [setL_yes h,List.length_append]; simp; omega
  ·rw [setL_no h]; omega
theorem p2_add (k j:Nat):p2 k≤p2 (k+j):=Nat.pow_le_pow_right (by omega) (by omega)
theorem setL_far {s k:Nat} (h:s<p2 k):∀ j,setL s (k+j)=setL s k
 | 0=>rfl
 | j+1=>by
  have h1:=p2_add k j;have h2:s / p2 (k+j)=0:=Nat.div_eq_of_lt (by omega);rw [← Nat.add_assoc,setL_no (by rw [h2]; decide),setL_far h j]
theorem setL_top {s k m:Nat} (h:s<p2 m) (hk:s / p2 k=0):setL s k=setL s m:=by
 have hk':s<p2 k:=by
  rcases Nat.lt_or_ge s (p2 k) with h' | h'
  ·exact h'
  ·have:=Nat.div_pos h' (p2_pos k); omega
 rcases Nat.le_total k m with e | e
 ·obtain ⟨j,rfl⟩:=Nat.exists_eq_add_of_le e
  exact (setL_far hk' j).symm
 ·obtain ⟨j,rfl⟩:=Nat.exists_eq_add_of_le e
  exact setL_far h j
theorem p2_7 {n:Nat} (h:n≤7):p2 n≤128:=Nat.pow_le_pow_right (by omega) h
theorem set_more {s k:Nat} (hs:s<128) (h:s / p2 k ≠ 0):k<7:=by
 rcases Nat.lt_or_ge k 7 with e | e
 ·exact e
 ·obtain ⟨j,rfl⟩:=Nat.exists_eq_add_of_le e
  have h1:=p2_add 7 j;have h2:p2 7=128:=by decide
  exact absurd (Nat.div_eq_of_lt (by omega)) h
theorem ubit_fin:∀ S:Fin 128,bits .and .u64 (S.val:Int) 1=((S.val % 2:Nat):Int):=by decide +kernel
theorem ubit_at {s k:Nat} (h:s<128):bits .and .u64 ((s / p2 k:Nat):Int) 1=((s / p2 k % 2:Nat):Int) :=
 ubit_fin ⟨s / p2 k,Nat.lt_of_le_of_lt (Nat.div_le_self _ _) h⟩
theorem div_p2 (s k:Nat):(s:Int) / 2 ^ k=((s / p2 k:Nat):Int):=by simp [p2]
theorem u64_in (x:Int) (h:0≤x∧x≤18446744073709551615):IntKind.u64.wrap x=x:=by
 rw [IntKind.wrap_u64]; omega
theorem uwrap_p2 (n:Nat) (h:n≤7):IntKind.u64.wrap (2 ^ n)=((p2 n:Nat):Int):=by
 have h1:=p2_7 h;have e:(2:Int) ^ n=((p2 n:Nat):Int):=by simp [p2]
 rw [e];exact u64_in _ (by omega)
end
section
open Go.RowKit
theorem OwnV.sliceN {w:World} {base:Nat} {E:TypeId} {v:Value} {xs:List Int} (h:OwnV w base E v xs):∃ A l c,v = .slice A l c:=by
 rcases h.form with ⟨rfl,_⟩ | ⟨g,cap,rfl,_⟩ <;> exact ⟨_,_,_,rfl⟩
theorem OwnV.weakenN {w:World} {base base':Nat} {E:TypeId} {v:Value} {xs:List Int} (h:OwnV w base E v xs) (hb:base'≤base):OwnV w base' E v xs:=by
 refine ⟨h.1,?_⟩;rcases h.2 with h2 | ⟨g,cap,cur,h1,h2,h3⟩
 ·exact .inl h2
 ·exact .inr ⟨g,cap,cur,h1,Nat.le_trans hb h2,h3⟩
theorem OwnV.capN {w:World} {base:Nat} {E:TypeId} {A:Option Addr} {n c:Nat} {xs:List Int} (h:OwnV w base E (.slice A n c) xs):n≤c∧c≤9223372036854775807:=by
 rcases h.2 with ⟨h1,h2⟩ | ⟨g,cap,cur,h1,hb,hg,hc,h5,_⟩
 ·simp at h1; omega
 ·simp at h1
  obtain ⟨_,hn,rfl⟩:=h1;unfold maxLen at h5;omega
theorem OwnV.afterN {w w':World} {base:Nat} {E:TypeId} {v:Value} {xs:List Int} (h:OwnV w base E v xs) (hb:Below w.heap.size w w'):OwnV w' base E v xs:=h.below hb
def layI:List Int→Nat→List Int→List Int
 | xs,_,[]=>xs
 | xs,o,y :: ys=>layI (xs.set o y) (o+1) ys
theorem layI_len:∀ (ys xs:List Int) (o:Nat),(layI xs o ys).length=xs.length
 | [],xs,o=>rfl
 | y :: ys,xs,o=>by rw [layI,layI_len ys,List.length_set]
theorem layI_eq:∀ (ys xs:List Int) (o:Nat),o+ys.length≤xs.length→layI xs o ys=xs.take o ++ ys ++ xs.drop (o+ys.length)
 | [],xs,o,_=>by simp [layI]
 | y :: ys,xs,o,h=>by
  simp only [List.length_cons] at h;have ho:o<xs.length:=by omega
  rw [layI,layI_eq ys (xs.set o y) (o+1) (by rw [List.length_set]; omega)]
  have e1:(xs.set o y).take (o+1)=xs.take o ++ [y]:=by
   rw [List.take_add_one,List.getElem?_set_self ho,List.take_set_of_le (Nat.le_refl o)]; rfl
  have e2:(xs.set o y).drop (o+1+ys.length)=xs.drop (o+(y :: ys).length):=by
   rw [List.drop_set_of_lt (by omega)];congr 1
   simp;omega
  rw [e1,e2];simp
theorem OwnI.setCells {w:World} {base g cap:Nat} {E:TypeId} {xs:List Int} (h:OwnI w base E g cap xs):∀ (ys:List Int) (o:Nat),OwnI (w.setCells g o (ys.map (Value.int .i64))) base E g cap (layI xs o ys):=by
 intro ys;induction ys generalizing w xs with
 | nil=>intro o; exact h
 | cons y ys ih=>intro o; exact ih (h.set o y) (o+1)
theorem OwnI.take {w:World} {base g cap:Nat} {E:TypeId} {xs:List Int} (h:OwnI w base E g cap xs) (k:Nat) (hk:k≤xs.length):OwnI w base E g cap (xs.take k):=by
 have hl:(xs.take k).length=k:=by rw [List.length_take]; omega
 refine ⟨by simp,?_⟩;rcases h.2 with ⟨h1,h2⟩ | ⟨g0,cap0,cur,h1,h2,h3,h4,h5,h6,h7⟩
 ·simp at h1
 ·simp at h1
  obtain ⟨rfl,rfl⟩:=h1;refine .inr ⟨_,_,cur,rfl,h2,h3,by omega,h5,h6,?_⟩;rw [hl,List.map_take,← h7,List.take_take];congr 1
  omega
theorem below_setCells {B g:Nat} {a w:World} (h:Below B a w) (hg:B≤g):∀ (vs:List Value) (o:Nat),Below B a (w.setCells g o vs):=by
 intro vs;induction vs generalizing w with
 | nil=>intro o; exact h
 | cons v vs ih=>intro o; exact ih (h.setCell hg _) (o+1)
end
namespace X
open Go.RowKit
def SetPost (w:World) (L:List Int) (e:Ending) (w':World):Prop :=
 ∃ v,e = .returned v∧OwnV w' w.heap.size 3 v L∧Below w.heap.size w w'
set_option maxRecDepth 100000 in
set_option maxHeartbeats 1600000 in
theorem iSet_any (s m:Nat) (hs:s<p2 m) (hm:m≤7) (w:World):Calls Tryzx.prog 61 #[.int .u64 s] w (SetPost w (setL s m)):=by
 have hs7:s<128:=Nat.lt_of_lt_of_le hs (p2_7 hm);go_enter Tryzx.func61,Tryz.ntmps61;go_wp2;go_loopw [3,4] (fun v i wr=>∃ k:Nat,k≤7∧i = .int .i64 k∧OwnV wr w.heap.size 3 v (setL s k)∧Below w.heap.size w wr) (fun _ i _=>7 - (intOf i).toNat)
 case atStart=>exact ⟨0,Nat.zero_le _,rfl,OwnV.nil _ _ _,Below.refl _ _⟩
 case round =>
  obtain ⟨k,hk,rfl,hown,hb⟩:=hrel;have HB:=Lib.hid hb;have HO:=Lib.hid hown;have hlen:=setL_len s k;have hdiv:=div_p2 s k;clear hb hown;by_cases hz:s / p2 k=0
  ·have HT:=Lib.hid (setL_top hs hz)
   have ht:((s:Int) / 2 ^ k != 0)=false:=by rw [hdiv,hz]; rfl
   clear hz hdiv;go_wp2;go_ret;exact ⟨_,rfl,by rw [← HT.out]; exact HO.out,HB.out⟩
  ·have hlt:k<7:=set_more hs7 hz
   have i1:IntKind.i64.wrap ((k:Int)+1)=(k:Int)+1:=IntWalk.i64_in _ (by omega);have hn:((s:Int) / 2 ^ k != 0)=true:=by rw [hdiv]; simp; omega
   have HBIT:Hid (bits .and .u64 ((s:Int) / 2 ^ k) 1=((s / p2 k % 2:Nat):Int)):=Lib.hid (by rw [hdiv]; exact ubit_at hs7);clear hz hdiv;by_cases hbit:s / p2 k % 2=1
   ·have ht:(bits BinOp.and IntKind.u64 ((s:Int) / 2 ^ k) 1 == 1)=true:=by rw [HBIT.out,hbit]; rfl
    have HU:=Lib.hid (setL_yes hbit);clear hbit;go_wp2_with (at_builtin; refine wpList_append_int _ rfl (.tmp 16) (.tmp 18) 48 rfl w.heap.size 3 Tryzx.underlying48 infoInt _ (setL s k) rfl (HO.out.alloc _) _ _ (k:Int) rfl (cell_new1 _ _ _) (by omega) (by have:=HB.out.size; simp; omega) ?_; intro g' cap' w1 hown1 hgr1);have hb1:=ownB_below HB.out HB.out.size HO.out (Nat.le_refl _) hgr1;have hv1:=hown1.toV;rw [List.length_append,← HU.out] at hv1;go_wp2;go_roundw
    case rel=>exact ⟨k+1,by omega,by go_num,hv1,hb1⟩
    case measure=>simp [intOf]; omega
   ·have ho:s / p2 k % 2=0:=by omega
    have ht:(bits BinOp.and IntKind.u64 ((s:Int) / 2 ^ k) 1 == 1)=false:=by rw [HBIT.out,ho]; rfl
    have HU:=Lib.hid (setL_no hbit);clear hbit ho;go_wp2;go_roundw
    case rel=>exact ⟨k+1,by omega,by go_num,by rw [HU.out]; exact HO.out,HB.out⟩
    case measure=>simp [intOf]; omega
end X
namespace X
open Go.RowKit
def cstN (zs:List Int) (n:Nat):Nat:=if archB zs n=true then n - 1 else 0
theorem cstN_t {zs:List Int} {n:Nat} (h:archB zs n=true):cstN zs n=n - 1:=by simp only [cstN,h,if_pos]
theorem cstN_f {zs:List Int} {n:Nat} (h:archB zs n=false):cstN zs n=0:=by simp [cstN,h]
theorem cstN_le (zs:List Int) (n:Nat):cstN zs n≤7:=by
 cases h:archB zs n
 ·rw [cstN_f h]; omega
 ·have:=(archB_out h).1; rw [cstN_t h]; omega
def setB (zs:List Int) (n s:Nat):Bool:=stgB zs n (setL s (cstN zs n)) (setL s (cstN zs n)).length
section
variable (A : Option Addr) (n c : Nat) (zs : List Int) (w : World) (h : RecsAt w w.heap.size 4 A n zs) (hn : n ≤ 1048576)
include h hn
set_option maxRecDepth 100000 in
set_option maxHeartbeats 1600000 in
theorem sCst_any:Calls Tryzx.prog 21 #[.agg #[.slice A n c]] w fun e w'=>e = .returned (.int .i64 (cstN zs n:Nat))∧Below w.heap.size w w':=by
 have b0:Below w.heap.size w (w.alloc (.cells #[.slice A n c] 26)):=(Below.refl _ _).alloc (Nat.le_refl _) _;have HX:Hid (Box (w.alloc (.cells #[.slice A n c] 26)) w.heap.size (.slice A n c)):=Lib.hid (Box.new _ _ _);have h1:=h.after b0;cases hA:archB zs n
 ·have HN:Hid ((0:Int)=((cstN zs n:Nat):Int)):=Lib.hid (by rw [cstN_f hA]; rfl)
  have cx0:=HX.out.1;go_enter Tryzx.func21,Tryz.ntmps21;go_wp2_with fail
  refine (sArchOk_any _ _ _ zs _ (by exact h1) hn).mono ?_;rw [hA];rintro e w1 ⟨rfl,hb1⟩;have HB1:=Lib.hid (below_then b0 hb1);clear hb1 b0 h h1;go_wp2;go_ret;exact ⟨by rw [← HN.out]; rfl,HB1.out⟩
 ·have hn8:=(archB_out hA).1
  have HN:Hid ((n:Int) - 1=((cstN zs n:Nat):Int)):=Lib.hid (by rw [cstN_t hA]; omega)
  have e1:IntKind.i64.wrap ((n:Int) - 1)=(n:Int) - 1:=IntWalk.i64_in _ (by omega);have cx0:=HX.out.1;go_enter Tryzx.func21,Tryz.ntmps21;go_wp2_with fail
  refine (sArchOk_any _ _ _ zs _ (by exact h1) hn).mono ?_;rw [hA];rintro e w1 ⟨rfl,hb1⟩;have HB1:=Lib.hid (below_then b0 hb1);have cx1:=(HX.out.after hb1).1;clear hb1 b0 h h1 cx0;go_wp2;go_ret;exact ⟨by rw [← HN.out]; rfl,HB1.out⟩
set_option maxRecDepth 100000 in
set_option maxHeartbeats 1600000 in
theorem iCst_any:Calls Tryzx.prog 67 #[.agg #[.slice A n c]] w fun e w'=>e = .returned (.int .i64 (cstN zs n:Nat))∧Below w.heap.size w w':=by
 have b0:Below w.heap.size w (w.alloc (.cells #[.slice A n c] 26)):=(Below.refl _ _).alloc (Nat.le_refl _) _;have HX:Hid (Box (w.alloc (.cells #[.slice A n c] 26)) w.heap.size (.slice A n c)):=Lib.hid (Box.new _ _ _);have h1:=h.after b0;cases hA:archB zs n
 ·have HN:Hid ((0:Int)=((cstN zs n:Nat):Int)):=Lib.hid (by rw [cstN_f hA]; rfl)
  have cx0:=HX.out.1;go_enter Tryzx.func67,Tryz.ntmps67;go_wp2_with fail
  refine (iArchOk_any _ _ _ zs _ (by exact h1) hn).mono ?_;rw [hA];rintro e w1 ⟨rfl,hb1⟩;have HB1:=Lib.hid (below_then b0 hb1);clear hb1 b0 h h1;go_wp2;go_ret;exact ⟨by rw [← HN.out]; rfl,HB1.out⟩
 ·have hn8:=(archB_out hA).1
  have HN:Hid ((n:Int) - 1=((cstN zs n:Nat):Int)):=Lib.hid (by rw [cstN_t hA]; omega)
  have e1:IntKind.i64.wrap ((n:Int) - 1)=(n:Int) - 1:=IntWalk.i64_in _ (by omega);have cx0:=HX.out.1;go_enter Tryzx.func67,Tryz.ntmps67;go_wp2_with fail
  refine (iArchOk_any _ _ _ zs _ (by exact h1) hn).mono ?_;rw [hA];rintro e w1 ⟨rfl,hb1⟩;have HB1:=Lib.hid (below_then b0 hb1);have cx1:=(HX.out.after hb1).1;clear hb1 b0 h h1 cx0;go_wp2;go_ret;exact ⟨by rw [← HN.out]; rfl,HB1.out⟩
end
end X
section
open Go.RowKit
def woL (cs:List Int) (z:Int):Nat→List Int
 | 0 => []
 | k+1=>if nth cs k=z then woL cs z k else woL cs z k ++ [nth cs k]
theorem woL_yes {cs:List Int} {z:Int} {k:Nat} (h:nth cs k=z):woL cs z (k+1)=woL cs z k:=by simp [woL,h]
theorem woL_no {cs:List Int} {z:Int} {k:Nat} (h:¬ nth cs k=z):woL cs z (k+1)=woL cs z k ++ [nth cs k]:=by simp [woL,h]
theorem woL_len (cs:List Int) (z:Int):∀ k,(woL cs z k).length≤k
 | 0=>Nat.le_refl _
 | k+1=>by
  have ih:=woL_len cs z k;by_cases h:nth cs k=z
  ·rw [woL_yes h]; omega
  ·rw [woL_no h,List.length_append]; simp; omega
theorem take_snoc {cs:List Int} {k:Nat} (h:k<cs.length):cs.take (k+1)=cs.take k ++ [nth cs k]:=by
 rw [List.take_add_one,List.getElem?_eq_getElem h,nth_get _ _ h]; rfl
theorem woL_take {cs:List Int} {i:Nat} (hi:i<cs.length) (hd:∀ j,j<cs.length→j ≠ i→nth cs j ≠ nth cs i):∀ k,k≤i→woL cs (nth cs i) k=cs.take k
 | 0,_=>by simp [woL]
 | k+1,h=>by rw [woL_no (hd k (by omega) (by omega)),woL_take hi hd k (by omega),take_snoc (by omega)]
theorem woL_drop {cs:List Int} {i:Nat} (hi:i<cs.length) (hd:∀ j,j<cs.length→j ≠ i→nth cs j ≠ nth cs i):∀ m,i+1+m≤cs.length→woL cs (nth cs i) (i+1+m)=cs.take i ++ (cs.drop (i+1)).take m
 | 0,_=>by rw [Nat.add_zero,woL_yes rfl,woL_take hi hd i (Nat.le_refl _)]; simp
 | m+1,h=>by
  rw [← Nat.add_assoc,woL_no (hd _ (by omega) (by omega)),woL_drop hi hd m (by omega),List.append_assoc];congr 1
  have e:m<(cs.drop (i+1)).length:=by simp; omega
  rw [List.take_add_one,List.getElem?_eq_getElem e,List.getElem_drop,nth_get _ _ (by omega)];rfl
theorem woL_erase {cs:List Int} {i:Nat} (hi:i<cs.length) (hd:∀ j,j<cs.length→j ≠ i→nth cs j ≠ nth cs i):woL cs (nth cs i) cs.length=cs.eraseIdx i:=by
 have h:=woL_drop hi hd (cs.length - (i+1)) (by omega);rw [show i+1+(cs.length - (i+1))=cs.length by omega] at h;rw [h,List.eraseIdx_eq_take_drop_succ];congr 1
 exact List.take_of_length_le (by rw [List.length_drop]; exact Nat.le_refl _)
def pickL (f:Nat→Bool) (cs:List Int):Nat→List Int
 | 0 => []
 | k+1=>if f k=true then pickL f cs k ++ [nth cs k] else pickL f cs k
theorem pickL_yes {f:Nat→Bool} {cs:List Int} {k:Nat} (h:f k=true):pickL f cs (k+1)=pickL f cs k ++ [nth cs k]:=by simp [pickL,h]
theorem pickL_no {f:Nat→Bool} {cs:List Int} {k:Nat} (h:f k=false):pickL f cs (k+1)=pickL f cs k:=by simp [pickL,h]
theorem pickL_len (f:Nat→Bool) (cs:List Int):∀ k,(pickL f cs k).length≤k
 | 0=>Nat.le_refl _
 | k+1=>by
  have ih:=pickL_len f cs k;cases h:f k
  ·rw [pickL_no h]; omega
  ·rw [pickL_yes h,List.length_append]; simp; omega
end
section
open Go.RowKit
def bitS (s b:Nat):Bool:=decide (s / p2 b % 2=1)
def delB (s z:Nat):Nat:=if bitS s z=true then s - p2 z else s
theorem delB_le (s z:Nat):delB s z≤s:=by unfold delB; split <;> omega
theorem delB_fin:∀ s:Fin 128,∀ z:Fin 7,bits .andNot .u64 (s.val:Int) ((p2 z.val:Nat):Int)=((delB s.val z.val:Nat):Int)∧(∀ b:Fin 7,bitS (delB s.val z.val) b.val=(bitS s.val b.val && decide (b.val ≠ z.val))):=by decide +kernel
theorem delB_uint {s z:Nat} (hs:s<128) (hz:z<7):bits .andNot .u64 (s:Int) ((p2 z:Nat):Int)=((delB s z:Nat):Int):=(delB_fin ⟨s,hs⟩ ⟨z,hz⟩).1
theorem bit_del {s z b:Nat} (hs:s<128) (hz:z<7) (hb:b<7):bitS (delB s z) b=(bitS s b && decide (b ≠ z)):=(delB_fin ⟨s,hs⟩ ⟨z,hz⟩).2 ⟨b,hb⟩
theorem bit_full_fin:∀ m:Fin 8,∀ b:Fin 7,bitS (p2 m.val - 1) b.val=decide (b.val<m.val):=by decide +kernel
theorem bit_full {m b:Nat} (hm:m≤7) (hb:b<7):bitS (p2 m - 1) b=decide (b<m):=bit_full_fin ⟨m,by omega⟩ ⟨b,hb⟩
theorem del_set_fin:∀ s:Fin 128,∀ m:Fin 8,∀ z:Fin 7,z.val<m.val→bitS s.val z.val=true→(setL s.val m.val).filter (fun x=>decide (x ≠ (z.val:Int)))=setL (delB s.val z.val) m.val∧(setL (delB s.val z.val) m.val).length+1=(setL s.val m.val).length:=by decide +kernel
theorem woL_filter (cs:List Int) (z:Int):∀ k,k≤cs.length→woL cs z k=(cs.take k).filter (fun x=>decide (x ≠ z))
 | 0,_=>by simp [woL]
 | k+1,h=>by
  rw [take_snoc (by omega),List.filter_append];by_cases e:nth cs k=z
  ·rw [woL_yes e,woL_filter cs z k (by omega)]; simp [e]
  ·rw [woL_no e,woL_filter cs z k (by omega)]; simp [e]
theorem woL_all (cs:List Int) (z:Int):woL cs z cs.length=cs.filter (fun x=>decide (x ≠ z)):=by
 rw [woL_filter cs z _ (Nat.le_refl _),List.take_length]
theorem wo_set {s m z:Nat} (hs:s<128) (hm:m≤7) (hz:z<m) (hb:bitS s z=true):woL (setL s m) (z:Int) (setL s m).length=setL (delB s z) m∧(setL (delB s z) m).length+1=(setL s m).length:=by
 rw [woL_all];exact del_set_fin ⟨s,hs⟩ ⟨m,by omega⟩ ⟨z,by omega⟩ hz hb
def seqS (os:List Int) (m:Nat):Nat→Nat
 | 0=>p2 m - 1
 | k+1=>delB (seqS os m k) (nth os k).toNat
theorem seqS_lt (os:List Int) (m:Nat):∀ k,seqS os m k<p2 m
 | 0=>by have:=p2_pos m; unfold seqS; omega
 | k+1=>Nat.lt_of_le_of_lt (delB_le _ _) (seqS_lt os m k)
def inS (os:List Int) (m k:Nat):Bool:=inB (nth os k) 0 ((m:Int) - 1) && bitS (seqS os m k) (nth os k).toNat
def okS (f:Nat→Bool) (os:List Int) (m:Nat):Nat→Bool
 | 0=>true
 | k+1=>okS f os m k && (inS os m k && f (seqS os m (k+1)))
def okI (f:Nat→Bool) (os:List Int) (m:Nat):Nat→Bool
 | 0=>true
 | k+1=>okI f os m k && f (seqS os m (k+1))
def seenB (os:List Int) (j:Nat):Nat→Bool
 | 0=>false
 | k+1=>seenB os j k || decide (nth os k=(j:Int))
def permK (os:List Int) (m:Nat):Nat→Bool
 | 0=>true
 | k+1=>permK os m k && (inB (nth os k) 0 ((m:Int) - 1) && !seenB os (nth os k).toNat k)
theorem permK_f {os:List Int} {m k:Nat} (h:permK os m k=false):∀ d,permK os m (k+d)=false
 | 0=>h
 | d+1=>by rw [← Nat.add_assoc,permK,permK_f h d]; rfl
theorem permK_le {os:List Int} {m k n:Nat} (hk:k≤n) (h:permK os m n=true):permK os m k=true:=by
 cases e:permK os m k
 ·obtain ⟨d,rfl⟩:=Nat.exists_eq_add_of_le hk
  rw [permK_f e d] at h; cases h
 ·rfl
theorem permK_in {os:List Int} {m k:Nat} (h:permK os m (k+1)=true):inB (nth os k) 0 ((m:Int) - 1)=true:=by
 simp only [permK,Bool.and_eq_true] at h;exact h.2.1
theorem okI_f {f:Nat→Bool} {os:List Int} {m k:Nat} (h:okI f os m k=false):∀ d,okI f os m (k+d)=false
 | 0=>h
 | d+1=>by rw [← Nat.add_assoc,okI,okI_f h d]; rfl
theorem seq_bit {os:List Int} {m:Nat} (hm:m≤7):∀ k,(∀ i,i<k→inB (nth os i) 0 ((m:Int) - 1)=true)→∀ b,b<7→bitS (seqS os m k) b=(decide (b<m) && !seenB os b k)
 | 0,_,b,hb=>by rw [seqS,bit_full hm hb]; simp [seenB]
 | k+1,h,b,hb=>by
  have ih:=seq_bit hm k (fun i hi=>h i (by omega)) b hb;have h1:=inB_iff.1 (h k (by omega));have hs:=seqS_lt os m k;have hp:=p2_7 hm;rw [seqS,bit_del (by omega) (by omega) hb,ih,seenB];by_cases e:nth os k=(b:Int)
  ·have e2:¬ b ≠ (nth os k).toNat:=by omega
   simp [e]
  ·have e2:b ≠ (nth os k).toNat:=by omega
   simp [e,e2]
theorem okS_perm {f:Nat→Bool} {os:List Int} {m:Nat} (hm:m≤7):∀ k,okS f os m k=(permK os m k && okI f os m k)
 | 0=>rfl
 | k+1=>by
  rw [okS,okS_perm hm k,permK,okI,inS];cases hp:permK os m k
  ·rfl
  ·cases hi:inB (nth os k) 0 ((m:Int) - 1)
   ·simp
   ·have hr:∀ i,i<k→inB (nth os i) 0 ((m:Int) - 1)=true:=fun i hik=>permK_in (permK_le (show i+1≤k by omega) hp)
    have h1:=inB_iff.1 hi;have hlt:(nth os k).toNat<m:=by omega
    rw [seq_bit hm k hr _ (by omega),decide_eq_true hlt];cases okI f os m k <;> cases seenB os (nth os k).toNat k <;> simp
def strikeB (f:Nat→Bool) (os:List Int) (m:Nat):Bool:=decide (0<m) && decide (os.length=m) && f (p2 m - 1) && okS f os m m
theorem strike_0 {f:Nat→Bool} {os:List Int} {m:Nat} (h:¬ 0<m):strikeB f os m=false:=by simp [strikeB,show ¬ 0<m from h]
theorem strike_1 {f:Nat→Bool} {os:List Int} {m:Nat} (h:¬ os.length=m):strikeB f os m=false:=by simp [strikeB,h]
theorem strike_2 {f:Nat→Bool} {os:List Int} {m:Nat} (h:f (p2 m - 1)=false):strikeB f os m=false:=by simp [strikeB,h]
theorem strike_3 {f:Nat→Bool} {os:List Int} {m:Nat} (h:okS f os m m=false):strikeB f os m=false:=by simp [strikeB,h]
theorem strike_t {f:Nat→Bool} {os:List Int} {m:Nat} (h0:0<m) (h1:os.length=m) (h2:f (p2 m - 1)=true) (h3:okS f os m m=true):strikeB f os m=true:=by simp [strikeB,h0,h1,h2,h3]
theorem okS_on {f:Nat→Bool} {os:List Int} {m k:Nat} (h:okS f os m k=true) (h1:inS os m k=true) (h2:f (seqS os m (k+1))=true):okS f os m (k+1)=true:=by simp [okS,h,h1,h2]
theorem strike_perm {f:Nat→Bool} {os:List Int} {m:Nat} (hm:m≤7) (h:permK os m m=false):strikeB f os m=false:=strike_3 (by rw [okS_perm hm,h]; rfl)
theorem okS_I {f:Nat→Bool} {os:List Int} {m:Nat} (hm:m≤7) (h:permK os m m=true):okS f os m m=okI f os m m:=by rw [okS_perm hm,h]; rfl
theorem okI_bad {f:Nat→Bool} {os:List Int} {m k:Nat} (hk:k<m) (h:f (seqS os m (k+1))=false):okI f os m m=false:=by
 have:=okI_f (k:=k+1) (show okI f os m (k+1)=false by simp [okI,h]) (m - (k+1));rwa [show k+1+(m - (k+1))=m by omega] at this
theorem okI_on {f:Nat→Bool} {os:List Int} {m k:Nat} (h:okI f os m k=true) (h2:f (seqS os m (k+1))=true):okI f os m (k+1)=true:=by simp [okI,h,h2]
end
namespace X
open Go.RowKit
theorem infoBool:(Tryzx.prog.info? 4).map (fun i=>(i.zero,i.size,i.bytes))=some (some (.bool false),1,1):=by kernel_rfl
theorem run_make_bool (n:Nat) (hn:n≤1048576) (w:World):(Instr.makeSlice 136 (.int .i64 (n:Int)) (.int .i64 (n:Int))).run Tryzx.prog w = .ok (.slice (some ⟨w.heap.size,0,none⟩) n n) (w.alloc (.cells (madeCells #[.bool false] n) 4)):=by
 obtain ⟨i0,hi0,hz0,hz1,hz2⟩:=info_parts infoBool;have h:=run_make (P:=Tryzx.prog) w 136 4 i0 (.bool false) Tryzx.underlying136 hi0 hz0 .i64 .i64 (n:Int) (n:Int) (by omega) (by omega) (by rw [hz2]; omega) (by omega)
 simpa [hz1,Value.cells] using h
def seenF (os:List Int) (k j:Nat):Value := .bool (seenB os j k)
theorem seenF_step {os:List Int} {k j:Nat} (h:nth os k=(j:Int)) (i:Nat):(if i=j then Value.bool true else seenF os k i)=seenF os (k+1) i:=by
 unfold seenF;by_cases e:i=j
 ·subst e; simp [seenB,h]
 ·have:¬ nth os k=(i:Int):=by omega
  simp [seenB,e,this]
set_option maxRecDepth 100000 in
set_option maxHeartbeats 1600000 in
theorem perm_any (m:Nat) (hm:m≤7) (B:Option Addr) (d:Nat) (os:List Int) (w:World) (hi:IntsAt w w.heap.size B os.length os) (hq:os.length≤1048576) :
  Calls Tryzx.prog 68 #[.int .i64 m,.slice B os.length d] w fun e w'=>e = .returned (.bool (decide (os.length=m) && permK os m m))∧Below w.heap.size w w':=by
 have HI:=Lib.hid hi;clear hi;by_cases hl:os.length=m
 ·have hne:((os.length:Int) != (m:Int))=false:=by simp; omega
  have HR:Hid (∀ b,permK os m m=b→(decide (os.length=m) && permK os m m)=b):=Lib.hid (fun b h=>by rw [decide_eq_true hl,h]; rfl)
  have hmk:=run_make_bool m (by omega);have HN:Hid (os.length=m):=hl;clear hl;go_enter Tryzx.func68,Tryz.ntmps68;go_wp2;clear hmk;go_loopw [16] (fun i wr=>∃ k:Nat,k≤m∧i = .int .i64 k∧permK os m k=true∧wr.rowIs w.heap.size 4 m (seenF os k)∧Below w.heap.size w wr) (fun i _=>m - (intOf i).toNat)
  case atStart =>
   refine ⟨0,Nat.zero_le _,rfl,rfl,?_,(Below.refl _ _).alloc (Nat.le_refl _) _⟩;have hr:=World.rowIs_alloc w (madeCells #[.bool false] m) 4 (seenF os 0) (fun j hj=>by
    have hj':j<m:=by simpa [size_madeCells] using hj
    unfold seenF;simp [madeCells,hj',seenB,Nat.mod_one])
   simpa [size_madeCells] using hr
  case round =>
   obtain ⟨k,hk,rfl,hp,hr,hb⟩:=hrel;have HB:=Lib.hid hb;have HW:=Lib.hid hr;by_cases hlt:k<m
   ·obtain ⟨b,off,rfl,hbB,hc⟩:=HI.out.2 (by have:=HN.out; omega)
    have hck:wr.cell? ⟨b,off+k,none⟩=some (.int .i64 (nth os k)):=(hb.cell (by exact hbB)).trans (hc k (by have:=HN.out; omega))
    have i1:IntKind.i64.wrap ((k:Int)+1)=(k:Int)+1:=IntWalk.i64_in _ (by omega);have i2:IntKind.i64.wrap ((m:Int) - 1)=(m:Int) - 1:=IntWalk.i64_in _ (by omega);have i3:(k:Int)<(os.length:Int):=by have:=HN.out; omega
    have i0:k<os.length:=by have:=HN.out; omega
    clear hb hc;cases hin:inB (nth os k) 0 ((m:Int) - 1)
    ·have HF:=Lib.hid (permK_f (show permK os m (k+1)=false by simp [permK,hin]) (m - (k+1)))
     clear hr hp;go_wp2_with (go_at_call 76; refine (within_any _ _ _ _).mono ?_; rintro e w' ⟨rfl,rfl⟩);go_ret;exact ⟨ret_bool (HR.out _ (by have:=HF.out; rwa [show k+1+(m - (k+1))=m by omega] at this)).symm,HB.out⟩
    ·have h1:=inB_iff.1 hin
     obtain ⟨j,hj⟩:=Int.eq_ofNat_of_zero_le h1.1;have hjm:j<m:=by omega
     have hcj:=hr.cell (i:=j) hjm;have hfj:=hr.frozen j;have HJ:Hid (nth os k=(j:Int)):=hj;have HI2:Hid (inB (nth os k) 0 ((m:Int) - 1)=true):=hin;rw [hj] at hck hin;have j1:(j:Int)<(m:Int):=by omega
     cases hs:seenB os j k
     ·have HP:Hid (permK os m (k+1)=true):=Lib.hid (by rw [permK,hp,HI2.out,HJ.out]; simp [hs])
      have hcj2:wr.cell? ⟨w.heap.size,j,none⟩=some (.bool false):=by rw [hcj]; unfold seenF; rw [hs]
      clear hr hp h1 hj hcj hs;go_wp2_with (go_at_call 76; refine (within_any _ _ _ _).mono ?_; rintro e w' ⟨rfl,rfl⟩);go_roundw
      case rel=>exact ⟨k+1,by omega,by go_num,HP.out,(HW.out.set j _).congr (fun i _=>seenF_step HJ.out i),HB.out.setCell (Nat.le_refl _) _⟩
      case measure=>simp [intOf]; omega
     ·have HF:=Lib.hid (permK_f (show permK os m (k+1)=false by simp [permK,HJ.out,hs]) (m - (k+1)))
      have hcj2:wr.cell? ⟨w.heap.size,j,none⟩=some (.bool true):=by rw [hcj]; unfold seenF; rw [hs]
      clear hr hp h1 hj hcj hs;go_wp2_with (go_at_call 76; refine (within_any _ _ _ _).mono ?_; rintro e w' ⟨rfl,rfl⟩);go_ret;exact ⟨ret_bool (HR.out _ (by have:=HF.out; rwa [show k+1+(m - (k+1))=m by omega] at this)).symm,HB.out⟩
   ·obtain rfl:k=m:=by omega
    have i3:¬ (k:Int)<(os.length:Int):=by have:=HN.out; omega
    have HP:=Lib.hid hp;clear hb hr hp;go_wp2;go_ret;exact ⟨ret_bool (HR.out _ HP.out).symm,HB.out⟩
 ·have hne:((os.length:Int) != (m:Int))=true:=by simp; omega
  have HR:Hid ((decide (os.length=m) && permK os m m)=false):=Lib.hid (by rw [decide_eq_false hl]; rfl)
  clear hl;go_enter Tryzx.func68,Tryz.ntmps68;go_wp2;go_ret;exact ⟨ret_bool HR.out.symm,Below.refl _ _⟩
end X
section
open Go.RowKit Go.Maps
def sumK (f:Nat→Nat) (s:Nat):Nat→Nat
 | 0=>0
 | k+1=>if s / p2 k % 2=1 then sumK f s k+f (s - p2 k) else sumK f s k
theorem sumK_yes {f:Nat→Nat} {s k:Nat} (h:s / p2 k % 2=1):sumK f s (k+1)=sumK f s k+f (s - p2 k):=by simp [sumK,h]
theorem sumK_no {f:Nat→Nat} {s k:Nat} (h:¬ s / p2 k % 2=1):sumK f s (k+1)=sumK f s k:=by simp [sumK,h]
theorem p2_in {s k:Nat} (h:s / p2 k % 2=1):p2 k≤s∧s - p2 k<s:=by
 have h1:=p2_pos k;have h2:1≤s / p2 k:=by
  rcases Nat.eq_zero_or_pos (s / p2 k) with e | e
  ·rw [e] at h; omega
  ·exact e
 have h3:p2 k*1≤s:=Nat.le_trans (Nat.mul_le_mul_left _ h2) (Nat.mul_div_le s (p2 k));omega
theorem sumK_congr {f g:Nat→Nat} {s:Nat} (h:∀ t,t<s→f t=g t):∀ k,sumK f s k=sumK g s k
 | 0=>rfl
 | k+1=>by
  by_cases hb:s / p2 k % 2=1
  ·rw [sumK_yes hb,sumK_yes hb,sumK_congr h k,h _ (p2_in hb).2]
  ·rw [sumK_no hb,sumK_no hb,sumK_congr h k]
theorem sumK_le {f:Nat→Nat} {s B:Nat}:∀ k,(∀ j,j<k→s / p2 j % 2=1→f (s - p2 j)≤B)→sumK f s k≤k*B
 | 0,_=>Nat.zero_le _
 | k+1,h=>by
  have ih:=sumK_le k (fun j hj=>h j (by omega));rw [Nat.add_mul];by_cases hb:s / p2 k % 2=1
  ·have:=h k (by omega) hb
   rw [sumK_yes hb]; omega
  ·rw [sumK_no hb]; omega
def wayE (ok:Nat→Bool) (f:Nat→Nat) (s:Nat):Nat:=if ok s=true then (if s=0 then 1 else 0)+sumK f s 6 else 0
def wayL (ok:Nat→Bool):Nat→List Int
 | 0 => []
 | s+1=>wayL ok s ++ [((wayE ok (fun t=>(nth (wayL ok s) t).toNat) s:Nat):Int)]
def way (ok:Nat→Bool) (s:Nat):Nat:=(nth (wayL ok (s+1)) s).toNat
section
variable {ok : Nat → Bool}
theorem wayL_len:∀ s,(wayL ok s).length=s
 | 0=>rfl
 | s+1=>by simp [wayL,wayL_len s]
theorem wayL_top (s:Nat):nth (wayL ok (s+1)) s=((wayE ok (fun t=>(nth (wayL ok s) t).toNat) s:Nat):Int):=by
 have h:s<(wayL ok (s+1)).length:=by rw [wayL_len]; omega
 rw [nth_get _ s h];simp [wayL,wayL_len]
theorem wayL_old {s t:Nat} (h:t<s):nth (wayL ok (s+1)) t=nth (wayL ok s) t:=by
 have h1:t<(wayL ok (s+1)).length:=by rw [wayL_len]; omega
 have h2:t<(wayL ok s).length:=by rw [wayL_len]; omega
 rw [nth_get _ t h1,nth_get _ t h2];simp [wayL,wayL_len,h]
theorem wayL_at {t:Nat}:∀ s,t<s→nth (wayL ok s) t=((way ok t:Nat):Int)
 | 0,h=>by omega
 | s+1,h=>by
  by_cases e:t=s
  ·subst e
   unfold way;rw [wayL_top]; rfl
  ·rw [wayL_old (by omega),wayL_at s (by omega)]
theorem way_eq (s:Nat):way ok s=wayE ok (way ok) s:=by
 have h:way ok s=wayE ok (fun t=>(nth (wayL ok s) t).toNat) s:=by unfold way; rw [wayL_top]; rfl
 have e:sumK (fun t=>(nth (wayL ok s) t).toNat) s 6=sumK (way ok) s 6:=sumK_congr (fun t ht=>by
  show (nth (wayL ok s) t).toNat=way ok t
  rw [wayL_at s ht]; rfl) 6
 rw [h];unfold wayE;rw [e]
theorem way_no {s:Nat} (h:ok s=false):way ok s=0:=by rw [way_eq]; simp [wayE,h]
theorem way_yes {s:Nat} (h:ok s=true):way ok s=(if s=0 then 1 else 0)+sumK (way ok) s 6:=by rw [way_eq]; simp [wayE,h]
def pc (s:Nat):Nat:=(setL s 6).length
theorem pc_le (s:Nat):pc s≤6:=setL_len s 6
theorem pc_fin:∀ (s:Fin 64) (k:Fin 6),s.val / p2 k.val % 2=1→pc (s.val - p2 k.val)+1=pc s.val:=by decide +kernel
theorem pc_less {s k:Nat} (hs:s<64) (hk:k<6) (h:s / p2 k % 2=1):pc (s - p2 k)+1=pc s:=pc_fin ⟨s,hs⟩ ⟨k,hk⟩ h
theorem pc_0:∀ s:Fin 64,pc s.val=0→s.val=0:=by decide +kernel
theorem pow7 {l:Nat} (h:1≤l):6*7 ^ (l - 1)+7 ^ (l - 1)=7 ^ l:=by
 obtain ⟨k,rfl⟩:∃ k,l=k+1:=⟨l - 1,by omega⟩;simp only [Nat.add_sub_cancel,Nat.pow_succ];omega
theorem pow7_pos (l:Nat):1≤7 ^ l:=Nat.pow_pos (by omega)
theorem way_bd:∀ l s,s<64→pc s=l→way ok s≤7 ^ l
 | 0,s,hs,h=>by
  obtain rfl:s=0:=pc_0 ⟨s,hs⟩ h;cases hk:ok 0
  ·rw [way_no hk]; omega
  ·rw [way_yes hk]
   have h1:sumK (way ok) 0 6=0:=by simp [sumK]
   rw [h1,if_pos rfl]; decide
 | l+1,s,hs,h=>by
  cases hk:ok s
  ·rw [way_no hk]; exact Nat.zero_le _
  ·rw [way_yes hk]
   have h1:=sumK_le (f:=way ok) (s:=s) (B:=7 ^ l) 6 (fun j hj hb=>by
    have hp:=pc_less hs hj hb;have hl:=(p2_in hb).2;exact way_bd l (s - p2 j) (by omega) (by omega))
   have h2:=pow7 (l:=l+1) (by omega);have h3:=pow7_pos l;rw [Nat.add_sub_cancel] at h2;split <;> omega
theorem way_le {s:Nat} (hs:s<64):way ok s≤117649:=by
 have h1:=way_bd (ok:=ok) (pc s) s hs rfl;have h2:7 ^ pc s≤7 ^ 6:=Nat.pow_le_pow_right (by omega) (pc_le s);omega
def sumN (f:Nat→Nat) (s:Nat) (xs:List Int):Nat→Nat
 | 0=>0
 | i+1=>sumN f s xs i+f (s - p2 (nth xs i).toNat)
theorem sumN_app (f:Nat→Nat) (s:Nat) (xs:List Int) (x:Int):∀ i,i≤xs.length→sumN f s (xs ++ [x]) i=sumN f s xs i
 | 0,_=>rfl
 | i+1,h=>by
  simp only [sumN];rw [sumN_app f s xs x i (by omega),nth_get (xs ++ [x]) i (by simp; omega),nth_get xs i (by omega),List.getElem_append_left (by omega)]
theorem sumN_all (f:Nat→Nat) (s:Nat):∀ k,sumN f s (setL s k) (setL s k).length=sumK f s k
 | 0=>rfl
 | k+1=>by
  have ih:=sumN_all f s k;by_cases hb:s / p2 k % 2=1
  ·rw [setL_yes hb,sumK_yes hb,List.length_append]
   simp only [List.length_singleton,sumN];rw [sumN_app f s _ _ _ (Nat.le_refl _),ih,nth_get _ _ (by simp)];simp
  ·rw [setL_no hb,sumK_no hb,ih]
theorem setL_hit {s:Nat}:∀ {k i:Nat},i<(setL s k).length→∃ j,j<k∧nth (setL s k) i=(j:Int)∧s / p2 j % 2=1
 | 0,i,h=>by simp [setL] at h
 | k+1,i,h=>by
  by_cases hb:s / p2 k % 2=1
  ·rw [setL_yes hb] at h ⊢
   by_cases hi:i<(setL s k).length
   ·obtain ⟨j,h1,h2,h3⟩:=setL_hit hi
    refine ⟨j,by omega,?_,h3⟩;rw [nth_get _ i h,List.getElem_append_left hi,← nth_get _ i hi];exact h2
   ·have e:i=(setL s k).length:=by simp at h; omega
    refine ⟨k,by omega,?_,hb⟩;subst e;rw [nth_get _ _ h];simp
  ·rw [setL_no hb] at h ⊢
   obtain ⟨j,h1,h2,h3⟩:=setL_hit h;exact ⟨j,by omega,h2,h3⟩
theorem setL_6 {s m:Nat} (hm:m≤6) (h:s<p2 m):setL s m=setL s 6:=by
 obtain ⟨j,hj⟩:=Nat.exists_eq_add_of_le hm;have:=setL_far h j;rw [← hj] at this;exact this.symm
end
theorem p2_6 {m:Nat} (h:m≤6):p2 m≤64:=Nat.pow_le_pow_right (by omega) h
theorem andNot_fin:∀ (s:Fin 64) (k:Fin 6),s.val / p2 k.val % 2=1→bits .andNot .u64 (s.val:Int) ((p2 k.val:Nat):Int)=((s.val - p2 k.val:Nat):Int):=by decide +kernel
theorem andNot_at {s k:Nat} (hs:s<64) (hk:k<6) (h:s / p2 k % 2=1):bits .andNot .u64 (s:Int) ((p2 k:Nat):Int)=((s - p2 k:Nat):Int):=andNot_fin ⟨s,hs⟩ ⟨k,hk⟩ h
def keyU (s:Nat):Lit := .int .u64 s
theorem keyU_ne {s t:Nat} (h:s ≠ t):keyU s ≠ keyU t:=fun e=>h (by simp [keyU] at e; omega)
theorem keyU_is (s:Nat):WideAt.IsKeyLit (keyU s):=by trivial
def Memo (ok:Nat→Bool) (D:DataW Unit):Prop:=∀ s:Nat,has D (keyU s)=true→∀ z,D.atKey (keyU s) z = .lit (.int .i64 (way ok s:Nat))
theorem memo_0 (ok:Nat→Bool):Memo ok (.map []):=fun s h=>by simp [has] at h
theorem Memo.put {ok:Nat→Bool} {D:DataW Unit} (h:Memo ok D) (hD:IsMap D) (s:Nat):Memo ok (D.put (keyU s) (.lit (.int .i64 (way ok s:Nat)))):=by
 intro t ht z;by_cases e:t=s
 ·subst e
  exact atKey_put_same hD (keyU_is _) _ _
 ·rw [has_put_other (keyU_ne e)] at ht
  rw [atKey_put_other (keyU_ne e)];exact h t ht z
end
section
open Go.RowKit
def FlagsAt (w:World) (A:Option Addr) (m:Nat) (f:Nat→Bool):Prop :=
 1≤m→∃ b off,A=some ⟨b,off,none⟩∧b<w.heap.size∧∀ i,i<m→w.cell? ⟨b,off+i,none⟩=some (.bool (f i))
theorem FlagsAt.below {w w':World} {A:Option Addr} {m:Nat} {f:Nat→Bool} (h:FlagsAt w A m f) (hb:Below w.heap.size w w'):FlagsAt w' A m f:=by
 intro hm;obtain ⟨b,off,rfl,hlt,hc⟩:=h hm;have hs:=hb.size;exact ⟨b,off,rfl,by omega,fun i hi=>(hb.cell hlt).trans (hc i hi)⟩
def flagL (f:Nat→Bool):Nat→List Value
 | 0 => []
 | k+1=>flagL f k ++ [.bool (f k)]
theorem flagL_len (f:Nat→Bool):∀ k,(flagL f k).length=k
 | 0=>rfl
 | k+1=>by simp [flagL,flagL_len f k]
theorem flagL_at (f:Nat→Bool):∀ k i,i<k→(flagL f k)[i]?=some (.bool (f i))
 | 0,i,h=>by omega
 | k+1,i,h=>by
  unfold flagL;by_cases e:i=k
  ·subst e
   rw [List.getElem?_append_right (by rw [flagL_len]; omega),flagL_len]; simp
  ·rw [List.getElem?_append_left (by rw [flagL_len]; omega)]
   exact flagL_at f k i (by omega)
def OwnBl (w:World) (base:Nat) (E:TypeId) (v:Value) (f:Nat→Bool) (m:Nat):Prop:=w.ownsRow base E 1 v m (flagL f m)
section
variable {w w' : World} {base : Nat} {E : TypeId} {v : Value} {f : Nat → Bool} {m : Nat}
theorem OwnBl.alloc (h:OwnBl w base E v f m) (o:Obj):OwnBl (w.alloc o) base E v f m:=World.ownsRow.alloc h o
theorem OwnBl.drew (h:OwnBl w base E v f m):OwnBl w.drew base E v f m:=h
theorem OwnBl.below (h:OwnBl w base E v f m) (hb:Below w.heap.size w w'):OwnBl w' base E v f m:=by
 refine ⟨h.1,?_⟩;rcases h.2 with h2 | ⟨g,cap,cur,h1,h2,h3,hr⟩
 ·exact .inl h2
 ·refine .inr ⟨g,cap,cur,h1,h2,(hb.block g ?_).trans h3,hr⟩
  exact (Array.getElem?_eq_some_iff.1 h3).1
theorem OwnBl.slice (h:OwnBl w base E v f m):∃ A c,v = .slice A m c∧FlagsAt w A m f:=by
 rcases h.2 with ⟨h1,h2⟩ | ⟨g,cap,cur,h1,h2,h3,h4,h5,h6,h7⟩
 ·subst h2; exact ⟨_,_,h1,fun h=>by simp at h⟩
 ·refine ⟨_,_,h1,fun _=>⟨g,0,rfl,(Array.getElem?_eq_some_iff.1 h3).1,fun i hi => ?_⟩⟩
  have e:(cur.toList.take (m*1))[i]?=(flagL f m)[i]?:=by rw [h7]
  rw [List.getElem?_take,if_pos (by omega),flagL_at f m i hi] at e;have e2:cur[i]?=some (.bool (f i)):=by simpa using e
  simp [World.cell?,h3,e2]
theorem OwnBl.ownLt (h:OwnBl w base E v f m):∀ k,v.ownBlock=some k→base≤k:=fun k hk=>(World.ownsRow.lt h k hk).1
end
end
namespace X
open Go.RowKit
def stgC (zs:List Int) (n:Nat):Nat:=if 1≤cstN zs n∧cstN zs n≤6 then p2 (cstN zs n) else 0
def strN (zs:List Int) (n:Nat):Nat:=if 1≤cstN zs n∧cstN zs n≤6 then way (setB zs n) (p2 (cstN zs n) - 1) else 0
section
variable (A : Option Addr) (n c : Nat) (zs : List Int) (w : World) (h : RecsAt w w.heap.size 4 A n zs) (hn : n ≤ 1048576)
include h hn
theorem iSetStands (m:Nat) (hm:cstN zs n=m) (S:Nat) (B:Option Addr) (q d:Nat) (hi:IntsAt w w.heap.size B q (setL S m)) (hq:q=(setL S m).length):Calls Tryzx.prog 64 #[.agg #[.slice A n c],.slice B q d] w fun e w'=>e = .returned (.bool (setB zs n S))∧Below w.heap.size w w':=by
 subst hm hq;have:=setL_len S (cstN zs n);have:=cstN_le zs n;exact iStageStands_any A n c zs B _ d (setL S (cstN zs n)) w h hn hi (by omega)
end
end X
end Go.Proofs.YtpblihmhpalkfaaGreat
