/-
  Texts that the law stands on, part 6.
-/
import Derived.Test.YtpblihmhpalkfaaGreatStrikingP1
import Derived.Test.YtpblihmhpalkfaaGreatStrikingP5
import Derived.Test.YtpblihmhpalkfaaGreatJ20
set_option maxRecDepth 100000
set_option linter.unusedVariables false
set_option linter.unusedSimpArgs false
namespace Go.Proofs.YtpblihmhpalkfaaGreat
namespace X
open Go.RowKit
structure StL (w wr:World) (X b m d:Nat) (Z:List Int):Prop where
 box:Box wr X (.slice (some ⟨b,0,none⟩) m d)
 recs:RecsAt wr (X+1) 4 (some ⟨b,0,none⟩) m Z
 below:Below w.heap.size w wr
 far:w.heap.size≤X
theorem StL.low {w wr w':World} {X b m d:Nat} {Z:List Int} (h:StL w wr X b m d Z) (hb:Below (X+1) wr w'):StL w w' X b m d Z :=
 ⟨⟨(hb.cell (p:=⟨X,0,none⟩) (by simp)).trans h.box.1,Nat.lt_of_lt_of_le h.box.2 hb.size⟩,h.recs.below hb,h.below.trans (hb.mono (by have:=h.far; omega)),h.far⟩
theorem StL.after {w wr w':World} {X b m d:Nat} {Z:List Int} (h:StL w wr X b m d Z) (hb:Below wr.heap.size wr w'):StL w w' X b m d Z:=h.low (hb.mono h.box.2)
theorem StL.now {w wr:World} {X b m d:Nat} {Z:List Int} (h:StL w wr X b m d Z):RecsAt wr wr.heap.size 4 (some ⟨b,0,none⟩) m Z:=h.recs.mono h.box.2
theorem ints_nil (w:World) (B:Nat):IntsAt w B none 0 []:=⟨rfl,fun h=>absurd h (by omega)⟩
theorem beq_dec (x:Int):(x == 0)=decide (x=0):=rfl
namespace fnStriking
set_option maxRecDepth 100000 in
set_option maxHeartbeats 12800000 in
theorem walk (A:Option Addr) (n c:Nat) (zs:List Int) (w:World) (h:BytesAt w w.heap.size A n zs) :
  Calls Tryzx.prog 4 #[.slice A n c] w fun e w'=>e = .returned (.bool true)∧Below w.heap.size w w':=by
 by_cases hbig:(1048576:Int)<(n:Int)
 ·have HB:=Lib.hid (show decide ((1048576:Int)<(n:Int))=true by simp [hbig])
  clear h;go_enter Tryzx.func4,Tryz.ntmps4;go_wp2_with fail
  refine (big_any _ _ _ _).mono ?_;rw [HB.out];rintro e w1 ⟨rfl,rfl⟩;go_wp2;go_ret;exact ⟨rfl,Below.refl _ _⟩
 ·have hn:n≤1048576:=by omega
  have HB:=Lib.hid (show decide ((1048576:Int)<(n:Int))=false by simp [hbig]);have HBY:=Lib.hid h;clear hbig h;go_enter Tryzx.func4,Tryz.ntmps4;go_wp2_with fail
  refine (big_any _ _ _ _).mono ?_;rw [HB.out];rintro e w1 ⟨rfl,rfl⟩;go_wp2_with fail
  refine (drawSmall_any A n c zs _ HBY.out hn).mono ?_;rintro e w2 ⟨b,m,d,Z,rfl,hb,hmd,hr,hl,ho,hb2⟩;have hm:=(archB_out ho).1;have hbl:b<w2.heap.size:=hr.lt;have ba:Below w2.heap.size w2 (w2.alloc (.cells #[.slice (some ⟨b,0,none⟩) m d] 26)):=(Below.refl _ _).alloc (Nat.le_refl _) _;have HC3:Hid (StL w (w2.alloc (.cells #[.slice (some ⟨b,0,none⟩) m d] 26)) w2.heap.size b m d Z):=Lib.hid ⟨Box.new _ _ _,((RowF.recs hr hl).below ba).mono (by omega),hb2.trans (ba.mono hb2.size),hb2.size⟩;have HA:=Lib.hid ho;have cx3:=HC3.out.box.1;obtain ⟨X,hX⟩:∃ X,w2.heap.size=X:=⟨_,rfl⟩;rw [hX] at HC3 cx3 ba;clear hr hl ho hb2 ba hbl HBY HB;go_wp2_with fail
  refine (iFind_any _ _ _ Z _ (by exact HC3.out.now) (by omega)).mono ?_;rintro e w4 ⟨A4,l4,c4,rfl,ho4,hb4⟩;have HC4:=Lib.hid (HC3.out.after hb4);obtain rfl:=ho4.len;have HO4:=Lib.hid ho4.intsAt;have cx4:=HC4.out.box.1;clear hb4 ho4 HC3 cx3;go_wp2_with fail
  refine (iCntStr_any _ _ _ Z _ (by exact HC4.out.now) (by omega)).mono ?_;rintro e w5 ⟨rfl,hb5⟩;have HC5:=Lib.hid (HC4.out.after hb5);have HO5:=Lib.hid (HO4.out.after hb5);have cx5:=HC5.out.box.1;clear hb5 HC4 HO4 cx4;go_wp2_with fail
  refine (sCst_any _ _ _ Z _ (by exact HC5.out.now) (by omega)).mono ?_;have HCST:=Lib.hid (cstN_t HA.out);have HSF:=Lib.hid (str_fac (zs:=Z) (n:=m));rw [HCST.out] at HSF ⊢;rintro e w6 ⟨rfl,hb6⟩;have HC6:=Lib.hid (HC5.out.after hb6);have HO6:=Lib.hid (HO5.out.after hb6);clear hb6 HC5 HO5 cx5;obtain ⟨N,hN⟩:∃ N,m - 1=N:=⟨_,rfl⟩;have HNN:=Lib.hid hN;rw [hN] at HSF ⊢;have HBS:Hid (Below w6.heap.size w6 (w6.alloc (.cells #[] 3))):=Lib.hid ((Below.refl _ _).alloc (Nat.le_refl _) _);have HOA:Hid (OwnV (w6.alloc (.cells #[] 3)) w6.heap.size 3 (.slice (some ⟨w6.heap.size,0,none⟩) 0 0) []):=Lib.hid (OwnI.new w6 3).toV;go_wp2;go_loopw [8,9,10] (fun vall vways vi wr=>∃ k:Nat,vi = .int .i64 k∧k≤N∧vways = .int .i64 (fac k:Nat)∧Hid (OwnV wr w6.heap.size 3 vall (allN k))∧Hid (Below w6.heap.size w6 wr)) (fun _ _ vi _=>N - (intOf vi).toNat)
  case atStart=>exact ⟨0,rfl,Nat.zero_le _,rfl,HOA,HBS⟩
  case round =>
   clear HOA HBS;obtain ⟨k,rfl,hk,rfl,HO,HB⟩:=hrel;have hlen:=allN_len k;by_cases hlt:k<N
   ·have i1:IntKind.i64.wrap ((k:Int)+1)=(k:Int)+1:=IntWalk.i64_in _ (by omega)
    have hf:=fac_le (m:=k+1) (by omega);have i2:IntKind.i64.wrap (((fac k:Nat):Int)*((k:Int)+1))=((fac (k+1):Nat):Int):=by
     have e:((fac (k+1):Nat):Int)=((fac k:Nat):Int)*((k:Int)+1):=by simp [fac]
     rw [← e,IntWalk.i64_in _ (by omega)]
    have ik:(k:Int)<(N:Int):=by omega
    have hz:=HB.out.size;clear hf;go_wp2_with (at_builtin; refine wpList_append_int _ rfl (.tmp 34) (.tmp 36) 48 rfl w6.heap.size 3 Tryzx.underlying48 infoInt _ (allN k) rfl (by exact HO.out.alloc _) _ _ (k:Int) rfl (by exact cell_new1 _ _ _) (by omega) (by simp; omega) ?_; intro g' cap' w7 hown7 hgr7);have HB7:=Lib.hid (ownB_below HB.out HB.out.size HO.out (Nat.le_refl _) hgr7);have hv7:=hown7.toV;rw [List.length_append,hlen,show allN k ++ [(k:Int)]=allN (k+1) from rfl] at hv7;have HV7:=Lib.hid hv7;clear hown7 hgr7 hv7;go_wp2;go_roundw
    case rel=>exact ⟨k+1,by go_num,by omega,rfl,HV7,HB7⟩
    case measure=>simp [intOf]; omega
   ·obtain rfl:N=k:=by omega
    have ik:¬ (N:Int)<(N:Int):=by omega
    obtain ⟨A8,q8,d8,rfl⟩:=HO.out.sliceN;have hq8:=HO.out.len;rw [hlen] at hq8;have hq8':=hq8.symm;subst hq8';have HC8:=Lib.hid (HC6.out.after HB.out);have HO8:=Lib.hid (HO6.out.after HB.out);have HI8:=Lib.hid HO.out.intsAt;have cx8:=HC8.out.box.1;clear HC6 HO6 HO HB;go_wp2_with fail
    refine (iSafe_at _ _ _ Z _ _ _ (allN N) _ (by exact HC8.out.now) (by omega) (by exact HI8.out) (by omega)).mono ?_;rintro e w9 ⟨v9,rfl,ho9,hb9⟩;obtain ⟨A9,q9,d9,rfl⟩:=ho9.sliceN;obtain rfl:=ho9.len;have HC9:=Lib.hid (HC8.out.after hb9);have HO9:=Lib.hid (HO8.out.after hb9);have HI9:=Lib.hid (HI8.out.after hb9);have HS9:=Lib.hid ho9.intsAt;clear hb9 ho9 HC8 HO8 HI8 cx8;have hsl:(safeL Z m (allN N)).length≤7:=by have:=safeL_len Z m (allN N); omega
    have HSS:Hid (∀ i,i<(safeL Z m (allN N)).length→stgB Z m (woL (allN N) (nth (safeL Z m (allN N)) i) N) (woL (allN N) (nth (safeL Z m (allN N)) i) N).length=true):=Lib.hid (fun i hi=>by
     have e:=HNN.out;have:=safe_stands HA.out (i:=i) (by rw [e]; exact hi);rw [e] at this;exact this)
    have HTR:Hid (trapB Z m (allN N)=(((safeL Z m (allN N)).length:Int) == 0)):=Lib.hid (by
     have e:=HNN.out;have:=trap_all HA.out;rw [e] at this;rw [this,beq_dec])
    have HFN:Hid (0<strN Z m→hasI (safeL Z m (allN N)) (nth (fndL Z m) 0) (safeL Z m (allN N)).length=true):=Lib.hid (fun h=>by
     have e:=HNN.out;have:=find_next HA.out h;rw [e] at this;exact this)
    have HFF:Hid (0<strN Z m→(fndL Z m).length=N∧strkB Z m (fndL Z m)=true∧stgB Z m [] 0=true):=Lib.hid (fun h=>by rw [← HNN.out]; exact find_facts HA.out h);have HBB:Hid (fndB Z m=decide (0<strN Z m)):=Lib.hid rfl;have HSK:Hid (strkB Z m []=false):=Lib.hid (by unfold strkB; rw [HCST.out]; exact strike_1 (by simp; omega))
    have HTN:Hid (trapB Z m []=false):=Lib.hid (trap_3 (by simp));generalize safeL Z m (allN N)=SL at *
    generalize fndL Z m=FL at *
    generalize fndB Z m=FB at *
    have hsf:=HSF.out;generalize strN Z m=ST at *
    have hle:¬ ((fac N:Nat):Int)<((ST:Nat):Int):=by omega
    have hge:¬ ((ST:Nat):Int)<0:=by omega
    clear hsf;have cx9:=HC9.out.box.1;by_cases hst:0<ST
    ·obtain rfl:FB=true:=by rw [HBB.out]; exact decide_eq_true hst
     have hgt:((ST:Nat):Int) > 0:=by omega
     generalize ((fac N:Nat):Int)=wI at *
     generalize ((ST:Nat):Int)=nI at *
     have hff:=HFF.out hst;have HFH:=Lib.hid (HFN.out hst);have HST:=Lib.hid hff.2;have HFL:=Lib.hid hff.1;have hne:((FL.length:Int) != (N:Int))=false:=by simp [hff.1]
     have hfq:FL.length≤1048576:=by have:=hff.1; omega
     clear hff HFF HFN HBB;go_wp2_with fail
     refine (iStrk_at _ _ _ Z _ _ _ FL _ (by exact HC9.out.now) (by omega) (by exact HO9.out) (by omega)).mono ?_;rw [HST.out.1];rintro e wa ⟨rfl,hba⟩;have HCa:=Lib.hid (HC9.out.after hba);have HOa:=Lib.hid (HO9.out.after hba);have HIa:=Lib.hid (HI9.out.after hba);have HSa:=Lib.hid (HS9.out.after hba);clear hba HC9 HO9 HI9 HS9 cx9;have cxa:=HCa.out.box.1;go_wp2_with fail
     refine (sFree_any _ _ _ Z _ (by exact HCa.out.now) (by omega)).mono ?_;rw [HST.out.2];rintro e wb ⟨rfl,hbb⟩;have HCb:=Lib.hid (HCa.out.after hbb);have HOb:=Lib.hid (HOa.out.after hbb);have HIb:=Lib.hid (HIa.out.after hbb);have HSb:=Lib.hid (HSa.out.after hbb);clear hbb HCa HOa HIa HSa cxa;have l0:(0:Int)<(FL.length:Int):=by have:=HFL.out; omega
     have HOO:=HOb.out;obtain ⟨ob,oo,rfl,_,hoc⟩:=HOO.2 (by have:=HFL.out; omega)
     have o0:=hoc 0 (by have:=HFL.out; omega)
     rw [Nat.add_zero] at o0;clear hoc HOO;go_wp2_with fail
     refine (has_any _ _ _ SL _ _ (by exact HSb.out) (by omega)).mono ?_;rw [HFH.out];rintro e wc ⟨rfl,rfl⟩;clear o0 HOb;go_wp2;go_loopw [12] (fun vi wr=>∃ i:Nat,vi = .int .i64 i∧i≤SL.length∧Hid (Below wb.heap.size wb wr)) (fun vi _=>SL.length - (intOf vi).toNat)
     case atStart=>exact ⟨0,rfl,Nat.zero_le _,Lib.hid (Below.refl _ _)⟩
     case round =>
      obtain ⟨i,rfl,hi,HB⟩:=hrel;obtain ⟨w10,hw10⟩:∃ x,x=wr:=⟨wr,rfl⟩;subst hw10;have HC:=Lib.hid (HCb.out.after HB.out);have HI:=Lib.hid (HIb.out.after HB.out);have HS:=Lib.hid (HSb.out.after HB.out);have cx:=HC.out.box.1;by_cases hlt3:i<SL.length
      ·have i1:IntKind.i64.wrap ((i:Int)+1)=(i:Int)+1:=IntWalk.i64_in _ (by omega)
       have ii:(i:Int)<(SL.length:Int):=by omega
       have ii0:(0:Int)≤(i:Int):=by omega
       have HSO:=HS.out;obtain ⟨sb,so,rfl,hsb,hsc⟩:=HSO.2 (by omega);have hx:=hsc i hlt3;have HSI:=Lib.hid (HSS.out i hlt3);obtain ⟨x,hxx⟩:∃ x,nth SL i=x:=⟨_,rfl⟩;rw [hxx] at hx HSI;have HBS:Hid (Below w10.heap.size w10 (w10.alloc (.cells #[] 3))):=Lib.hid ((Below.refl _ _).alloc (Nat.le_refl _) _);have HOL:Hid (OwnV (w10.alloc (.cells #[] 3)) w10.heap.size 3 (.slice (some ⟨w10.heap.size,0,none⟩) 0 0) []):=Lib.hid (OwnI.new w10 3).toV;have HX:=Lib.hid hx;clear hsc HSO hxx hx;go_wp2;go_loopw [13,14] (fun vl vj wx=>∃ j:Nat,vj = .int .i64 j∧j≤N∧Hid (OwnV wx w10.heap.size 3 vl (woL (allN N) x j))∧Hid (Below w10.heap.size w10 wx)) (fun _ vj _=>N - (intOf vj).toNat)
       case atStart=>exact ⟨0,rfl,Nat.zero_le _,HOL,HBS⟩
       case round =>
        clear HOL HBS;obtain ⟨j,rfl,hj,HO,HBx⟩:=hrel;by_cases hlt4:j<N
        ·have hxj:=(HBx.out.cell (p:=⟨sb,so+i,none⟩) (by exact hsb)).trans HX.out
         have j1:IntKind.i64.wrap ((j:Int)+1)=(j:Int)+1:=IntWalk.i64_in _ (by omega);have jj:(j:Int)<(N:Int):=by omega
         have haj:=allN_at (k:=N) (i:=j) hlt4;by_cases hjx:(j:Int)=x
         ·have hne3:((j:Int) != x)=false:=by simp [hjx]
          have hbe3:((j:Int) == x)=true:=by simp [hjx]
          have HW:=Lib.hid (woL_yes (cs:=allN N) (z:=x) (k:=j) (by rw [haj]; exact hjx));clear hjx haj;go_wp2;go_roundw
          case rel=>exact ⟨j+1,by go_num,by omega,by rw [HW.out]; exact HO,HBx⟩
          case measure=>simp [intOf]; omega
         ·have hne3:((j:Int) != x)=true:=by simp [hjx]
          have hbe3:((j:Int) == x)=false:=by simp [hjx]
          have HW:=Lib.hid (woL_no (cs:=allN N) (z:=x) (k:=j) (by rw [haj]; exact hjx));rw [haj] at HW;have hwl:=woL_len (allN N) x j;have hz:=HBx.out.size;clear hjx haj;go_wp2_with (at_builtin; refine wpList_append_int _ rfl (.tmp 104) (.tmp 106) 48 rfl w10.heap.size 3 Tryzx.underlying48 infoInt _ (woL (allN N) x j) rfl (by exact HO.out.alloc _) _ _ (j:Int) rfl (by exact cell_new1 _ _ _) (by omega) (by simp; omega) ?_; intro g' cap' w11 hown11 hgr11);have HB11:=Lib.hid (ownB_below HBx.out HBx.out.size HO.out (Nat.le_refl _) hgr11);have hv11:=hown11.toV;rw [List.length_append,← HW.out] at hv11;have HV11:=Lib.hid hv11;clear hown11 hgr11 hv11;go_wp2
          (try simp only [Bool.not_true,hbe3,Bool.not_false])
          go_roundw
          case rel=>exact ⟨j+1,by go_num,by omega,HV11,HB11⟩
          case measure=>simp [intOf]; omega
        ·obtain rfl:N=j:=by omega
         have jj:¬ (N:Int)<(N:Int):=by omega
         obtain ⟨A12,q12,d12,rfl⟩:=HO.out.sliceN;obtain rfl:=HO.out.len;have hwl:=woL_len (allN N) x N;have HC12:=Lib.hid (HC.out.after HBx.out);have cx12:=HC12.out.box.1;have HI12:=Lib.hid HO.out.intsAt;clear HO cx;go_wp2_with fail
         refine (sStageStands_any _ _ _ Z _ _ _ (woL (allN N) x N) _ (by exact HC12.out.now) (by omega) (by exact HI12.out) (by omega)).mono ?_;rw [HSI.out];rintro e w13 ⟨rfl,hb13⟩;have HB13:=Lib.hid (below_then HB.out (below_then HBx.out hb13));clear hb13 HBx HC12 HI12 cx12;go_wp2
         (try simp only [Bool.not_true])
         go_roundw
         case rel=>exact ⟨i+1,by go_num,by omega,HB13⟩
         case measure=>simp [intOf]; omega
      ·obtain rfl:i=SL.length:=by omega
       have ii:¬ (SL.length:Int)<(SL.length:Int):=by omega
       obtain ⟨y,hy⟩:∃ y,((SL.length:Int) == 0)=y:=⟨_,rfl⟩;have HTY:=Lib.hid (HTR.out.trans hy);clear HS HTR;go_wp2_with fail
       refine (iTrap_at _ _ _ Z _ _ _ (allN N) _ (by exact HC.out.now) (by omega) (by exact HI.out) (by omega)).mono ?_;rw [HTY.out];rintro e w14 ⟨rfl,hb14⟩;have HC14:=Lib.hid (HC.out.after hb14);have cx14:=HC14.out.box.1;clear hb14 HC HI cx HTY;cases y;all_goals
        go_wp2_with fail
        refine (iTrap_at _ _ _ Z _ _ _ [] _ (by exact HC14.out.now) (by omega) (by exact ints_nil _ _) (by omega)).mono ?_;rw [HTN.out];rintro e w15 ⟨rfl,hb15⟩;have HC15:=Lib.hid (HC14.out.after hb15);have cx15:=HC15.out.box.1;clear hb15 cx14;go_wp2_with fail
        refine (iStrk_at _ _ _ Z _ _ _ [] _ (by exact HC15.out.now) (by omega) (by exact ints_nil _ _) (by omega)).mono ?_;rw [HSK.out];rintro e w16 ⟨rfl,hb16⟩;have HC16:=Lib.hid (HC15.out.after hb16);clear hb16 cx15;go_wp2;go_ret;exact ⟨by simp,HC16.out.below⟩
    ·obtain rfl:FB=false:=by rw [HBB.out]; exact decide_eq_false hst
     have hgt:¬ ((ST:Nat):Int) > 0:=by omega
     generalize ((fac N:Nat):Int)=wI at *
     generalize ((ST:Nat):Int)=nI at *
     clear HFF HFN HBB HO9;have HCb:=HC9;have HIb:=HI9;have HSb:=HS9;clear HC9 HI9 HS9 cx9;go_wp2;go_loopw [12] (fun vi wr=>∃ i:Nat,vi = .int .i64 i∧i≤SL.length∧Hid (Below w9.heap.size w9 wr)) (fun vi _=>SL.length - (intOf vi).toNat)
     case atStart=>exact ⟨0,rfl,Nat.zero_le _,Lib.hid (Below.refl _ _)⟩
     case round =>
      obtain ⟨i,rfl,hi,HB⟩:=hrel;obtain ⟨w10,hw10⟩:∃ x,x=wr:=⟨wr,rfl⟩;subst hw10;have HC:=Lib.hid (HCb.out.after HB.out);have HI:=Lib.hid (HIb.out.after HB.out);have HS:=Lib.hid (HSb.out.after HB.out);have cx:=HC.out.box.1;by_cases hlt3:i<SL.length
      ·have i1:IntKind.i64.wrap ((i:Int)+1)=(i:Int)+1:=IntWalk.i64_in _ (by omega)
       have ii:(i:Int)<(SL.length:Int):=by omega
       have ii0:(0:Int)≤(i:Int):=by omega
       have HSO:=HS.out;obtain ⟨sb,so,rfl,hsb,hsc⟩:=HSO.2 (by omega);have hx:=hsc i hlt3;have HSI:=Lib.hid (HSS.out i hlt3);obtain ⟨x,hxx⟩:∃ x,nth SL i=x:=⟨_,rfl⟩;rw [hxx] at hx HSI;have HBS:Hid (Below w10.heap.size w10 (w10.alloc (.cells #[] 3))):=Lib.hid ((Below.refl _ _).alloc (Nat.le_refl _) _);have HOL:Hid (OwnV (w10.alloc (.cells #[] 3)) w10.heap.size 3 (.slice (some ⟨w10.heap.size,0,none⟩) 0 0) []):=Lib.hid (OwnI.new w10 3).toV;have HX:=Lib.hid hx;clear hsc HSO hxx hx;go_wp2;go_loopw [13,14] (fun vl vj wx=>∃ j:Nat,vj = .int .i64 j∧j≤N∧Hid (OwnV wx w10.heap.size 3 vl (woL (allN N) x j))∧Hid (Below w10.heap.size w10 wx)) (fun _ vj _=>N - (intOf vj).toNat)
       case atStart=>exact ⟨0,rfl,Nat.zero_le _,HOL,HBS⟩
       case round =>
        clear HOL HBS;obtain ⟨j,rfl,hj,HO,HBx⟩:=hrel;by_cases hlt4:j<N
        ·have hxj:=(HBx.out.cell (p:=⟨sb,so+i,none⟩) (by exact hsb)).trans HX.out
         have j1:IntKind.i64.wrap ((j:Int)+1)=(j:Int)+1:=IntWalk.i64_in _ (by omega);have jj:(j:Int)<(N:Int):=by omega
         have haj:=allN_at (k:=N) (i:=j) hlt4;by_cases hjx:(j:Int)=x
         ·have hne3:((j:Int) != x)=false:=by simp [hjx]
          have hbe3:((j:Int) == x)=true:=by simp [hjx]
          have HW:=Lib.hid (woL_yes (cs:=allN N) (z:=x) (k:=j) (by rw [haj]; exact hjx));clear hjx haj;go_wp2;go_roundw
          case rel=>exact ⟨j+1,by go_num,by omega,by rw [HW.out]; exact HO,HBx⟩
          case measure=>simp [intOf]; omega
         ·have hne3:((j:Int) != x)=true:=by simp [hjx]
          have hbe3:((j:Int) == x)=false:=by simp [hjx]
          have HW:=Lib.hid (woL_no (cs:=allN N) (z:=x) (k:=j) (by rw [haj]; exact hjx));rw [haj] at HW;have hwl:=woL_len (allN N) x j;have hz:=HBx.out.size;clear hjx haj;go_wp2_with (at_builtin; refine wpList_append_int _ rfl (.tmp 104) (.tmp 106) 48 rfl w10.heap.size 3 Tryzx.underlying48 infoInt _ (woL (allN N) x j) rfl (by exact HO.out.alloc _) _ _ (j:Int) rfl (by exact cell_new1 _ _ _) (by omega) (by simp; omega) ?_; intro g' cap' w11 hown11 hgr11);have HB11:=Lib.hid (ownB_below HBx.out HBx.out.size HO.out (Nat.le_refl _) hgr11);have hv11:=hown11.toV;rw [List.length_append,← HW.out] at hv11;have HV11:=Lib.hid hv11;clear hown11 hgr11 hv11;go_wp2
          (try simp only [Bool.not_true,hbe3,Bool.not_false])
          go_roundw
          case rel=>exact ⟨j+1,by go_num,by omega,HV11,HB11⟩
          case measure=>simp [intOf]; omega
        ·obtain rfl:N=j:=by omega
         have jj:¬ (N:Int)<(N:Int):=by omega
         obtain ⟨A12,q12,d12,rfl⟩:=HO.out.sliceN;obtain rfl:=HO.out.len;have hwl:=woL_len (allN N) x N;have HC12:=Lib.hid (HC.out.after HBx.out);have cx12:=HC12.out.box.1;have HI12:=Lib.hid HO.out.intsAt;clear HO cx;go_wp2_with fail
         refine (sStageStands_any _ _ _ Z _ _ _ (woL (allN N) x N) _ (by exact HC12.out.now) (by omega) (by exact HI12.out) (by omega)).mono ?_;rw [HSI.out];rintro e w13 ⟨rfl,hb13⟩;have HB13:=Lib.hid (below_then HB.out (below_then HBx.out hb13));clear hb13 HBx HC12 HI12 cx12;go_wp2
         (try simp only [Bool.not_true])
         go_roundw
         case rel=>exact ⟨i+1,by go_num,by omega,HB13⟩
         case measure=>simp [intOf]; omega
      ·obtain rfl:i=SL.length:=by omega
       have ii:¬ (SL.length:Int)<(SL.length:Int):=by omega
       obtain ⟨y,hy⟩:∃ y,((SL.length:Int) == 0)=y:=⟨_,rfl⟩;have HTY:=Lib.hid (HTR.out.trans hy);clear HS HTR;go_wp2_with fail
       refine (iTrap_at _ _ _ Z _ _ _ (allN N) _ (by exact HC.out.now) (by omega) (by exact HI.out) (by omega)).mono ?_;rw [HTY.out];rintro e w14 ⟨rfl,hb14⟩;have HC14:=Lib.hid (HC.out.after hb14);have cx14:=HC14.out.box.1;clear hb14 HC HI cx HTY;cases y;all_goals
        go_wp2_with fail
        refine (iTrap_at _ _ _ Z _ _ _ [] _ (by exact HC14.out.now) (by omega) (by exact ints_nil _ _) (by omega)).mono ?_;rw [HTN.out];rintro e w15 ⟨rfl,hb15⟩;have HC15:=Lib.hid (HC14.out.after hb15);have cx15:=HC15.out.box.1;clear hb15 cx14;go_wp2_with fail
        refine (iStrk_at _ _ _ Z _ _ _ [] _ (by exact HC15.out.now) (by omega) (by exact ints_nil _ _) (by omega)).mono ?_;rw [HSK.out];rintro e w16 ⟨rfl,hb16⟩;have HC16:=Lib.hid (HC15.out.after hb16);clear hb16 cx15;go_wp2;go_ret;exact ⟨by simp,HC16.out.below⟩
end fnStriking
end X
end Go.Proofs.YtpblihmhpalkfaaGreat
