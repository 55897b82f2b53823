/-
  Texts that the law stands on, part 6.
-/
import Derived.Test.YtpblihmhpalkfaaGreatCracksP1
import Derived.Test.YtpblihmhpalkfaaGreatCracksP3
import Derived.Test.YtpblihmhpalkfaaGreatCracksP4
import Derived.Test.YtpblihmhpalkfaaGreatCracksP5
import Derived.Test.YtpblihmhpalkfaaGreatJ20
set_option maxRecDepth 100000
set_option linter.unusedVariables false
set_option linter.unusedSimpArgs false
namespace Go.Proofs.YtpblihmhpalkfaaGreat
namespace X
open Go.RowKit
structure CkL (w wr:World) (X b m d:Nat) (Z:List Int) (A':Option Addr) (q:Nat) (Ld:List Int):Prop where
 box:Box wr X (.slice (some ⟨b,0,none⟩) m d)
 recs:RecsAt wr wr.heap.size 4 (some ⟨b,0,none⟩) m Z
 lds:RecsAt wr wr.heap.size 3 A' q Ld
 below:Below w.heap.size w wr
theorem CkL.after {w wr w':World} {X b m d:Nat} {Z:List Int} {A':Option Addr} {q:Nat} {Ld:List Int} (h:CkL w wr X b m d Z A' q Ld) (hb:Below wr.heap.size wr w'):CkL w w' X b m d Z A' q Ld :=
 ⟨h.box.after hb,h.recs.after hb,h.lds.after hb,below_then h.below hb⟩
namespace fnCracks
set_option maxRecDepth 100000 in
set_option maxHeartbeats 12800000 in
theorem walk (A:Option Addr) (n c:Nat) (zs:List Int) (w:World) (h:BytesAt w w.heap.size A n zs) :
  Calls Tryzx.prog 6 #[.slice A n c] w fun e w'=>e = .returned (.bool true)∧Below w.heap.size w w':=by
 by_cases hbig:(1048576:Int)<(n:Int)
 ·have HB:=Lib.hid (show decide ((1048576:Int)<(n:Int))=true by simp [hbig])
  clear h;go_enter Tryzx.func6,Tryz.ntmps6;go_wp2_with fail
  refine (big_any _ _ _ _).mono ?_;rw [HB.out];rintro e w1 ⟨rfl,rfl⟩;go_wp2;go_ret;exact ⟨rfl,Below.refl _ _⟩
 ·have hn:n≤1048576:=by omega
  have HB:=Lib.hid (show decide ((1048576:Int)<(n:Int))=false by simp [hbig]);have HBY:=Lib.hid h;clear hbig h;go_enter Tryzx.func6,Tryz.ntmps6;go_wp2_with fail
  refine (big_any _ _ _ _).mono ?_;rw [HB.out];rintro e w1 ⟨rfl,rfl⟩;go_wp2_with fail
  refine (drawStanding_any A n c zs _ HBY.out hn).mono ?_;rintro e w2 ⟨b,m,d,Z,A',q,cp,Ld,rfl,hm8,hq,hb,hl,ho,hr,hx,hb2⟩;have hm3:=(archB_out ho).1.1;have HA:=Lib.hid ho;have ba:Below w2.heap.size w2 (w2.alloc (.cells #[.slice (some ⟨b,0,none⟩) m d] 26)):=(Below.refl _ _).alloc (Nat.le_refl _) _;have HC3:Hid (CkL w (w2.alloc (.cells #[.slice (some ⟨b,0,none⟩) m d] 26)) w2.heap.size b m d Z A' q Ld):=Lib.hid ⟨Box.new _ _ _,(rowRecs hr hl).after ba,hx.recs.after ba,below_then hb2 ba⟩;have cx3:=HC3.out.box.1;obtain ⟨X,hX⟩:∃ X,w2.heap.size=X:=⟨_,rfl⟩;rw [hX] at HC3 cx3;clear hr hl ho hb2 ba hx hb HBY HB;go_wp2_with fail
  refine (sThr_any _ _ _ Z _ _ _ Ld _ (by exact HC3.out.recs) (by omega) (by exact HC3.out.lds) (by omega)).mono ?_;rintro e w5 ⟨v5,rfl,ho5,hb5⟩;have HC5:=Lib.hid (HC3.out.after hb5);obtain ⟨A5,c5,rfl,_⟩:=ho5.slice;have HT5:=Lib.hid ho5.recs;have HE:=Lib.hid (exp_zN (ls:=Ld) (q:=q) HA.out);have HF:Hid (∀ (j:Nat) (H V M D:Int),j<thrN Z m Ld q→nth (thrL Z m Ld q) (j*4)=H→nth (thrL Z m Ld q) (j*4+1)=V→nth (thrL Z m Ld q) (j*4+2)=M→nth (thrL Z m Ld q) (j*4+3)=D →
    (crRes Z m Ld q H V M D).length=m∧cracksB Z m (crRes Z m Ld q H V M D) m=true∧0<expN Z m Ld q (crRes Z m Ld q H V M D) m∧cnt (crRes Z m Ld q H V M D) m≤(hgJ Z m Ld q H V M D).length):=Lib.hid (fun j H V M D hj h0 h1 h2 h3=>crk_facts HA.out hj h0 h1 h2 h3)
  have hacc:=corn_acc (rowsZ Z m Ld q) (rowsN Z m Ld q);have hT8:thrN Z m Ld q≤8000:=hacc.few;clear hb5 ho5 HC3 cx3 hacc;generalize thrN Z m Ld q=T at *
  generalize thrL Z m Ld q=TL at *
  have HCK:=Lib.hid (cracks_zN HA.out);have HBS:Hid (Below w5.heap.size w5 (w5.alloc (.cells #[] 3))):=Lib.hid ((Below.refl _ _).alloc (Nat.le_refl _) _);have HOS:Hid (OwnV (w5.alloc (.cells #[] 3)) w5.heap.size 3 (.slice (some ⟨w5.heap.size,0,none⟩) 0 0) (zN 0)):=Lib.hid (OwnI.new w5 3).toV;go_wp2;go_loopw [6,7] (fun v6 v7 wr=>∃ k:Nat,v7 = .int .i64 k∧k≤m∧Hid (OwnV wr w5.heap.size 3 v6 (zN k))∧Hid (Below w5.heap.size w5 wr)) (fun _ v7 _=>m - (intOf v7).toNat)
  case atStart=>exact ⟨0,rfl,Nat.zero_le _,HOS,HBS⟩
  case round =>
   clear HOS HBS;obtain ⟨k,rfl,hk,HO,HB⟩:=hrel;have hlen:=zN_len k;have cx:=(HC5.out.after HB.out).box.1;by_cases hlt:k<m
   ·have i1:IntKind.i64.wrap ((k:Int)+1)=(k:Int)+1:=IntWalk.i64_in _ (by omega)
    have ik:(k:Int)<(m:Int):=by omega
    have hz:=HB.out.size;go_wp2_with (at_builtin; refine wpList_append_int _ rfl (.tmp 29) (.tmp 30) 48 rfl w5.heap.size 3 Tryzx.underlying48 infoInt _ (zN k) rfl (by exact HO.out.alloc _) _ _ (0:Int) rfl (by exact cell_new1 _ _ _) (by omega) (by simp; omega) ?_; intro g' cap' w7 hown7 hgr7);have HB7:=Lib.hid (ownB_below HB.out HB.out.size HO.out (Nat.le_refl _) hgr7);have hv7:=hown7.toV;rw [List.length_append,hlen,show zN k ++ [(0:Int)]=zN (k+1) from rfl] at hv7;have HV7:=Lib.hid hv7;clear hown7 hgr7 hv7 cx;go_wp2;go_roundw
    case rel=>exact ⟨k+1,by go_num,by omega,HV7,HB7⟩
    case measure=>simp [intOf]; omega
   ·obtain rfl:m=k:=by omega
    have ik:¬ (m:Int)<(m:Int):=by omega
    obtain ⟨A8,q8,d8,rfl⟩:=HO.out.sliceN;have hq8:=HO.out.len;rw [hlen] at hq8;have hq8':=hq8.symm;subst hq8';have HC8:=Lib.hid (HC5.out.after HB.out);have HT8:=Lib.hid (HT5.out.after HB.out);have HN8:=Lib.hid HO.out.intsAt;clear HC5 HT5 HO HB hlen;have hTT:((T:Int) != (T:Int))=false:=by simp
    obtain ⟨y,hgt,HEY⟩:∃ y,((y=true∧(T:Int) > 0) ∨ (y=false∧¬ (T:Int) > 0))∧Hid (decide (0<expN Z m Ld q (zN m) m)=y):=by
     rw [HE.out];by_cases h0:0<T
     ·exact ⟨true,.inl ⟨rfl,by omega⟩,Lib.hid (decide_eq_true h0)⟩
     ·exact ⟨false,.inr ⟨rfl,by omega⟩,Lib.hid (decide_eq_false h0)⟩
    go_wp2_with fail
    refine (iExp_any _ _ _ Z _ _ _ Ld _ _ _ (zN m) _ (by exact HC8.out.recs) (by omega) (by exact HC8.out.lds) (by omega) (by exact HN8.out) (by omega)).mono ?_;rw [HEY.out];rintro e w9 ⟨rfl,hb9⟩;have HC9:=Lib.hid (HC8.out.after hb9);have HT9:=Lib.hid (HT8.out.after hb9);have HN9:=Lib.hid (HN8.out.after hb9);have cx9:=HC9.out.box.1;clear hb9 HC8 HT8 HN8 cx;rcases hgt with ⟨rfl,hgt⟩ | ⟨rfl,hgt⟩;all_goals
     go_wp2_with fail
     refine (iFor_any _ _ _ Z _ _ _ Ld _ _ _ (zN m) _ (by exact HC9.out.recs) (by omega) (by exact HC9.out.lds) (by omega) (by exact HN9.out) (by omega)).mono ?_;rw [HE.out];rintro e wa ⟨Aa,ca,rfl,hba⟩;have HCa:=Lib.hid (HC9.out.after hba);have HTa:=Lib.hid (HT9.out.after hba);have HNa:=Lib.hid (HN9.out.after hba);have cxa:=HCa.out.box.1;clear hba cx9;go_wp2_with fail
     refine (iCracksOk_any _ _ _ Z _ _ _ (zN m) _ (by exact HCa.out.recs) (by omega) (by exact HNa.out) (by omega)).mono ?_;rw [HCK.out];rintro e wb ⟨rfl,hbb⟩;have HCb:=Lib.hid (HCa.out.after hbb);have HTb:=Lib.hid (HTa.out.after hbb);have HNb:=Lib.hid (HNa.out.after hbb);clear hbb cxa;go_wp2;go_loopw [8] (fun v8 wr=>∃ j:Nat,v8 = .int .i64 j∧j≤T∧Hid (Below wb.heap.size wb wr)) (fun v8 _=>T - (intOf v8).toNat)
     case atStart=>exact ⟨0,rfl,Nat.zero_le _,Lib.hid (Below.refl _ _)⟩
     case round =>
      obtain ⟨j,rfl,hj,HB⟩:=hrel;by_cases hlt2:j<T
      ·try (exfalso; omega)
       all_goals
        have i1:IntKind.i64.wrap ((j:Int)+1)=(j:Int)+1:=IntWalk.i64_in _ (by omega);have jj:(j:Int)<(T:Int):=by omega
        have j0:(0:Int)≤(j:Int):=by omega
        have HC:=Lib.hid (HCb.out.after HB.out);have HTj:=Lib.hid (HTb.out.after HB.out);have HTO:=HTj.out;obtain ⟨tb,tf,rfl,htb,htc⟩:=HTO.2 (by omega);have jc:=jtCells htc hlt2;obtain ⟨H,hH⟩:∃ H,nth TL (j*4)=H:=⟨_,rfl⟩;obtain ⟨V,hV⟩:∃ V,nth TL (j*4+1)=V:=⟨_,rfl⟩;obtain ⟨M,hM⟩:∃ M,nth TL (j*4+2)=M:=⟨_,rfl⟩;obtain ⟨D,hD⟩:∃ D,nth TL (j*4+3)=D:=⟨_,rfl⟩;have hfa:=HF.out j H V M D hlt2 hH hV hM hD;rw [hH,hV,hM,hD] at jc;have HFA:=Lib.hid hfa.2;have HCL:=Lib.hid hfa.1;have HJC:=Lib.hid (show ∀ w',Below wr.heap.size wr w'→(w'.cell? ⟨tb,tf+j*4,none⟩=some (.int .i64 H)∧w'.cell? ⟨tb,tf+j*4+1,none⟩=some (.int .i64 V)∧w'.cell? ⟨tb,tf+j*4+2,none⟩=some (.int .i64 M)∧w'.cell? ⟨tb,tf+j*4+3,none⟩=some (.int .i64 D)) from fun w' hb=>⟨(hb.cell (by exact htb)).trans jc.1,(hb.cell (by exact htb)).trans jc.2.1,(hb.cell (by exact htb)).trans jc.2.2.1,(hb.cell (by exact htb)).trans jc.2.2.2⟩);have cx:=HC.out.box.1;clear htc hfa HTO hH hV hM hD;go_wp2_with fail
        go_region_held3 (fun w'=>w'.cell? ⟨X,0,none⟩=some (.slice (some ⟨b,0,none⟩) m d)∧w'.cell? ⟨tb,tf+j*4,none⟩=some (.int .i64 H)∧w'.cell? ⟨tb,tf+j*4+1,none⟩=some (.int .i64 V)∧w'.cell? ⟨tb,tf+j*4+2,none⟩=some (.int .i64 M)∧w'.cell? ⟨tb,tf+j*4+3,none⟩=some (.int .i64 D)) (first | exact ⟨cx,jc⟩ | exact ⟨HC1.out.box.1,jc1⟩) ((go_at_call 39; refine (iCracksOf_any _ _ _ Z _ _ _ Ld _ _ _ _ _ (by exact (HC.out.recs).drewN 1) (by omega) (by exact (HC.out.lds).drewN 1) (by omega)).mono ?_; rintro e w1 ⟨A1,l1,c1,rfl,ho1,hbx⟩; have hb1:=below_undrew hbx; have HC1:=Lib.hid (HC.out.after hb1); have HB1:=Lib.hid hb1; have jc1:=HJC.out _ hb1; obtain rfl:=ho1.len; have HI1:=Lib.hid ho1.intsAt));clear hbx hb1 ho1 cx jc HC;rw [HCL.out] at HI1;rw [HCL.out];have cx:=HC1.out.box.1;go_wp2_with fail
        go_region_held3 (fun w'=>w'.cell? ⟨X,0,none⟩=some (.slice (some ⟨b,0,none⟩) m d)∧w'.cell? ⟨tb,tf+j*4,none⟩=some (.int .i64 H)∧w'.cell? ⟨tb,tf+j*4+1,none⟩=some (.int .i64 V)∧w'.cell? ⟨tb,tf+j*4+2,none⟩=some (.int .i64 M)∧w'.cell? ⟨tb,tf+j*4+3,none⟩=some (.int .i64 D)) (first | exact ⟨cx,jc1⟩ | exact ⟨HC2.out.box.1,jc2⟩) ((go_at_call 40; refine (sHng_any _ _ _ Z _ _ _ Ld _ _ _ _ _ (by exact (HC1.out.recs).drewN 1) (by omega) (by exact (HC1.out.lds).drewN 1) (by omega)).mono ?_; rintro e w2 ⟨A2,c2,rfl,_,hbx⟩; have hb2:=below_undrew hbx; have HC2:=Lib.hid (HC1.out.after hb2); have HB2:=Lib.hid (below_then HB1.out hb2); have jc2:=HJC.out _ (below_then HB1.out hb2); have HI2:=Lib.hid (HI1.out.after hb2)));clear hbx hb2 cx jc1 jc2 HC1 HB1 HI1;have cx:=HC2.out.box.1;have HFB:=HFA.out;have hex:decide (0<expN Z m Ld q (crRes Z m Ld q H V M D) m)=true:=decide_eq_true HFB.2.1;have HEX:=Lib.hid hex;go_wp2_with fail
        refine (iCracksOk_any _ _ _ Z _ _ _ (crRes Z m Ld q H V M D) _ (by exact HC2.out.recs) (by omega) (by exact HI2.out) (by omega)).mono ?_;rw [HFA.out.1];rintro e w3 ⟨rfl,hb3⟩;have HC3:=Lib.hid (HC2.out.after hb3);have HB3:=Lib.hid (below_then HB2.out hb3);have HI3:=Lib.hid (HI2.out.after hb3);clear hb3 cx HC2 HB2 HI2 HFB hex;have cx:=HC3.out.box.1;go_wp2_with fail
        refine (iExp_any _ _ _ Z _ _ _ Ld _ _ _ (crRes Z m Ld q H V M D) _ (by exact HC3.out.recs) (by omega) (by exact HC3.out.lds) (by omega) (by exact HI3.out) (by omega)).mono ?_;rw [HEX.out];rintro e w4 ⟨rfl,hb4⟩;have HB4:=Lib.hid (below_then HB3.out hb4);have HI4:=Lib.hid (HI3.out.after hb4);clear hb4 cx HC3 HB3 HI3;have hle:=HFA.out.2.2;generalize hgJ Z m Ld q H V M D=GJ at *
        go_wp2_with fail
        refine (iCountCracks_any _ _ _ (crRes Z m Ld q H V M D) _ (by exact HI4.out) (by omega)).mono ?_;generalize cnt (crRes Z m Ld q H V M D) m=CC at *
        rintro e w6 ⟨rfl,rfl⟩;have hnle:¬ ((CC:Nat):Int) > ((GJ.length:Nat):Int):=by omega
        have HB6:=Lib.hid (below_then HB.out HB4.out);go_wp2;go_roundw
        case rel=>exact ⟨j+1,by go_num,by omega,HB6⟩
        case measure=>simp [intOf]; omega
      ·obtain rfl:j=T:=by omega
       have jj:¬ (j:Int)<(j:Int):=by omega
       have HN:=Lib.hid (HNb.out.after HB.out);have HCf:=Lib.hid (HCb.out.after HB.out);go_wp2_with fail
       refine (iCountCracks_any _ _ _ (zN m) _ (by exact HN.out) (by omega)).mono ?_;rw [cnt_zN];rintro e w6 ⟨rfl,rfl⟩;go_wp2;go_ret;exact ⟨by simp,HCf.out.below⟩
end fnCracks
end X
end Go.Proofs.YtpblihmhpalkfaaGreat
