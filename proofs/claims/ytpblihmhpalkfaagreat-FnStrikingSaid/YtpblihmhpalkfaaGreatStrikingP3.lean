/-
  Texts that the law stands on, part 3.
-/
import Derived.Test.YtpblihmhpalkfaaGreatStrikingP2
import Derived.Test.YtpblihmhpalkfaaGreatJ17
import Derived.Test.YtpblihmhpalkfaaGreatJ9
import Derived.Maps.OwnSet
import Derived.Maps.Range
import Derived.Maps.AppendAt
import Derived.Deep.RegionLaw
import Derived.Lib.SliceRun
set_option maxRecDepth 100000
set_option linter.unusedVariables false
set_option linter.unusedSimpArgs false
namespace Go.Proofs.YtpblihmhpalkfaaGreat
namespace X
open Go.RowKit Go.Maps
theorem keyedU:Keyed Tryzx.prog 89:=int_keyed Tryzx.underlying89
theorem zeroI (w:World):(zeroValue 3).run Tryzx.prog w = .ok (.int .i64 0) w:=by kernel_rfl
theorem below_grownR {w w':World} (hb:Below w.heap.size w w') (row:Option Nat):w.grownBy w' row:=⟨hb.os,hb.tape,hb.output,hb.size,fun i hi _=>hb.block i hi⟩
theorem keyU_of {S:Nat} (h:S<64):keyOf Tryzx.prog 89 (.int .u64 S)=some (keyU S) :=
 keyOf_int_mk Tryzx.underlying89 (by simp [Lit.wf,IntKind.min,IntKind.max,IntKind.signed,IntKind.bits]; omega)
structure StkIn (ok:Nat→Bool) (A:Option Addr) (n:Nat) (zs:List Int) (w:World) (mb k:Nat) (D:DataW Unit):Prop where
 own:w.ownsMap Tryzx.prog 89 (plainElem Tryzx.prog 3) mb k D
 memo:Memo ok D
 recs:RecsAt w mb 4 A n zs
section
variable {ok : Nat → Bool} {A : Option Addr} {n : Nat} {zs : List Int} {w w' : World} {mb k : Nat} {D : DataW Unit}
theorem recs_grown (h:RecsAt w mb 4 A n zs) (hg:w.grownBy w' (some mb)) (hm:mb≤w.heap.size):RecsAt w' mb 4 A n zs:=by
 refine ⟨h.1,fun hn => ?_⟩;obtain ⟨b,off,rfl,hb,hc⟩:=h.2 hn;exact ⟨b,off,rfl,hb,fun i hi=>hg.cell (hc i hi) (by simp; omega)⟩
theorem StkIn.lt (h:StkIn ok A n zs w mb k D):mb<w.heap.size:=h.own.lt
theorem StkIn.now (h:StkIn ok A n zs w mb k D):RecsAt w w.heap.size 4 A n zs:=h.recs.mono (by have:=h.lt; omega)
theorem StkIn.below (h:StkIn ok A n zs w mb k D) (hb:Below w.heap.size w w'):StkIn ok A n zs w' mb k D :=
 ⟨h.own.kept (below_grownR hb none) (by simp),h.memo,recs_grown h.recs (below_grownR hb _) (by have:=h.lt; omega)⟩
theorem StkIn.put {S:Nat} (h:StkIn ok A n zs w mb k D) (ho:w'.ownsMap Tryzx.prog 89 (plainElem Tryzx.prog 3) mb (k+1) (D.put (keyU S) (.lit (.int .i64 (way ok S:Nat))))) (hg:w.grownBy w' (some mb)):StkIn ok A n zs w' mb (k+1) (D.put (keyU S) (.lit (.int .i64 (way ok S:Nat)))) :=
 ⟨ho,h.memo.put h.own.isMap S,recs_grown h.recs hg (by have:=h.lt; omega)⟩
end
structure StkAt (w wr:World) (mb:Nat) (va:Value) (A:Option Addr) (L:List Int):Prop where
 gr:w.grownBy wr (some mb)
 c0:wr.cell? ⟨w.heap.size,0,none⟩=some va
 c1:wr.cell? ⟨w.heap.size,1,none⟩=some (.map (some mb))
 lt:w.heap.size<wr.heap.size
 li:∀ i,i<L.length→∃ b off,A=some ⟨b,off,none⟩∧b ≠ mb∧wr.cell? ⟨b,off+i,none⟩=some (.int .i64 (nth L i))
theorem StkAt.after {w wr w':World} {mb:Nat} {va:Value} {A:Option Addr} {L:List Int} (h:StkAt w wr mb va A L) (hm:mb<w.heap.size) (hg:wr.grownBy w' (some mb)):StkAt w w' mb va A L :=
 ⟨h.gr.trans hg,hg.cell h.c0 (by simp; omega),hg.cell h.c1 (by simp; omega),Nat.lt_of_lt_of_le h.lt hg.size,fun i hi=>by
  obtain ⟨b,off,e,hb,hc⟩:=h.li i hi;exact ⟨b,off,e,hb,hg.cell hc (by simp; omega)⟩⟩
theorem box_two (w:World) (a b:Value) (T:TypeId):(w.alloc (.cells #[a,b] T)).cell? ⟨w.heap.size,0,none⟩=some a∧(w.alloc (.cells #[a,b] T)).cell? ⟨w.heap.size,1,none⟩=some b:=by
 have h:=World.rowIs_alloc w #[a,b] T (fun i=>if i=0 then a else b) (fun i hi=>by simp at hi; match i,hi with | 0,_=>rfl | 1,_=>rfl)
 exact ⟨World.rowIs.cell h (by simp),World.rowIs.cell h (by simp)⟩
def stV (ok:Nat→Bool) (S m i:Nat):Nat:=(if S=0 then 1 else 0)+sumN (way ok) S (setL S m) i
theorem stV_le {ok:Nat→Bool} {S m:Nat} (hs:S<64):∀ i,i≤(setL S m).length→stV ok S m i≤1+i*117649
 | 0,_=>by unfold stV sumN; split <;> omega
 | i+1,h=>by
  have ih:=stV_le (ok:=ok) (m:=m) hs i (by omega);have hw:=way_le (ok:=ok) (s:=S - p2 (nth (setL S m) i).toNat) (by omega);simp only [stV,sumN] at *
  omega
theorem stV_all {ok:Nat→Bool} {S m:Nat} (hk:ok S=true) (hm:m≤6) (h:S<p2 m):stV ok S m (setL S m).length=way ok S:=by
 rw [setL_6 hm h,way_yes hk];unfold stV;rw [setL_6 hm h,sumN_all]
def CntPost (A:Option Addr) (n:Nat) (zs:List Int) (mb K S:Nat) (w:World) (e:Ending) (w':World):Prop :=
 e = .returned (.int .i64 (way (setB zs n) S:Nat))∧∃ k' D',StkIn (setB zs n) A n zs w' mb k' D'∧k'≤K∧w.grownBy w' (some mb)
theorem plainI {a b:Int} (h:a=b) (hb : -9223372036854775808≤b∧b≤9223372036854775807):plainElem (H:=Unit) Tryzx.prog 3 (.int .i64 a)=some (.lit (.int .i64 b),[]):=by
 subst h;exact plainElem_int Tryzx.underlying3 (by simp [Lit.wf,IntKind.min,IntKind.max,IntKind.signed,IntKind.bits]; omega)
theorem StkIn.drew {ok:Nat→Bool} {A:Option Addr} {n:Nat} {zs:List Int} {w:World} {mb k:Nat} {D:DataW Unit} (h:StkIn ok A n zs w mb k D):StkIn ok A n zs w.drew mb k D:=⟨h.own.drew,h.memo,h.recs⟩
theorem grown_undrew {w w':World} {row:Option Nat} (h:w.drew.grownBy w' row):w.grownBy w' row:=⟨h.os,h.tape,h.output,h.size,h.block⟩
theorem own_li {w:World} {base mb q d:Nat} {E:TypeId} {A:Option Addr} {L:List Int} (h:OwnV w base E (.slice A q d) L) (hm:mb<base):∀ i,i<L.length→∃ b off,A=some ⟨b,off,none⟩∧b ≠ mb∧w.cell? ⟨b,off+i,none⟩=some (.int .i64 (nth L i)):=by
 intro i hi;obtain ⟨b,off,rfl,hb,hc⟩:=h.intsAt.2 (by rw [h.len]; omega)
 refine ⟨b,off,rfl,?_,hc i (by rw [h.len]; omega)⟩
 have:=h.ownLt b rfl;omega
section
variable (A : Option Addr) (n c : Nat) (zs : List Int) (hn : n ≤ 1048576) (m : Nat) (hm : cstN zs n = m) (hm1 : 1 ≤ m) (hm6 : m ≤ 6)
include hn hm hm1 hm6
set_option maxRecDepth 100000 in
set_option maxHeartbeats 6400000 in
theorem count_step (mb l S:Nat) (w:World) (k:Nat) (D:DataW Unit) (hS:S<p2 m) (hl:pc S=l) (hin:StkIn (setB zs n) A n zs w mb k D) (hk:k+7 ^ l≤10000000)
  (hih:∀ (T:Nat) (w1:World) (k1:Nat) (D1:DataW Unit),pc T+1=l→T<p2 m→StkIn (setB zs n) A n zs w1 mb k1 D1→k1+7 ^ (l - 1)≤10000000 →
   Calls Tryzx.prog 60 #[.agg #[.slice A n c,.map (some mb)],.int .u64 T] w1 (CntPost A n zs mb (k1+7 ^ (l - 1)) T w1)) :
  Calls Tryzx.prog 60 #[.agg #[.slice A n c,.map (some mb)],.int .u64 S] w (CntPost A n zs mb (k+7 ^ l) S w):=by
 have h64:S<64:=Nat.lt_of_lt_of_le hS (p2_6 hm6);have hpow:=pow7_pos l;have hlt:=hin.lt;have HM:=Lib.hid hm;have HIH:=Lib.hid hih;have hbx:=box_two w (.slice A n c) (.map (some mb)) 88;have c0:=hbx.1;have c1:=hbx.2;have HG0:=Lib.hid (World.grownBy_alloc w (.cells #[.slice A n c,.map (some mb)] 88) (some mb));have HA0:Hid (StkAt w (w.alloc (.cells #[.slice A n c,.map (some mb)] 88)) mb (.slice A n c) none []):=Lib.hid ⟨HG0.out,c0,c1,by simp,fun i hi=>absurd hi (by simp)⟩;have HI0:Hid (StkIn (setB zs n) A n zs (w.alloc (.cells #[.slice A n c,.map (some mb)] 88)) mb k D):=Lib.hid (hin.below ((Below.refl _ _).alloc (Nat.le_refl _) _));have hkey:=keyU_of h64;have hwl:=way_le (ok:=setB zs n) h64;clear hin hbx hm hih;cases hh:has D (keyU S)
 ·cases hy:setB zs n S
  ·have HW:Hid (way (setB zs n) S=0):=Lib.hid (way_no hy)
   go_enter Tryzx.func60,Tryz.ntmps60;go_wp2_with (at_lookup; refine wpList_lookup_own_ok_int _ rfl _ _ 86 rfl 89 3 .i64 keyedU Tryzx.underlying86 Tryzx.underlying3 (zeroI _) mb k D rfl (by exact HI0.out.own) _ (keyU S) rfl hkey ?_; intro cL hat hwc; rw [hh]);go_wp2_with fail
   go_region_held3 (fun w'=>w'.cell? ⟨w.heap.size,0,none⟩=some (.slice A n c)) (first | exact c0 | exact HA3.out.c0 | exact HA4.out.c0) ((first | (go_at_call 61; refine (iSet_any S m hS (by omega) _).mono ?_; rintro e w3 ⟨v3,rfl,ho3,hbx⟩; have hb3:=below_undrew hbx; obtain ⟨A3,q3,d3,rfl⟩:=ho3.sliceN; have HI3:=Lib.hid (HI0.out.below hb3); have HA3:=Lib.hid (HA0.out.after hlt (below_grownR hb3 _)); obtain rfl:=ho3.len; have l3:=ho3.intsAt) | (go_at_call 64; refine (iSetStands A n c zs _ (by exact HI3.out.now) hn m HM.out S _ _ _ (by exact l3) rfl).mono ?_; rw [hy]; rintro e w4 ⟨rfl,hb4⟩; have HI4:=Lib.hid (HI3.out.below hb4); have HA4:=Lib.hid (HA3.out.after hlt (below_grownR hb4 _)))));clear hb3 hbx hb4 ho3 l3 HI3 HA3 HI0 HA0 c0 c1 hat hwc;have c1:=HA4.out.c1;go_wp2_with (at_mapUpdate; refine wpList_mapUpdate_own _ rfl _ _ _ 86 rfl 89 3 keyedU Tryzx.underlying86 _ mb k D rfl (by exact HI4.out.own) (by unfold maxLen; omega) _ _ (keyU S) rfl rfl hkey (.lit (.int .i64 (way (setB zs n) S:Nat))) [] (plainI (by rw [HW.out]; rfl) (by omega)) ?_; intro w9 hown9 hgr9);go_wp2;go_ret;exact ⟨by rw [HW.out]; rfl,k+1,_,HI4.out.put hown9 hgr9,by omega,HA4.out.gr.trans hgr9⟩
  ·have HY:=Lib.hid hy
   have HW:Hid (stV (setB zs n) S m (setL S m).length=way (setB zs n) S):=Lib.hid (stV_all hy hm6 hS);obtain ⟨sz,hsz⟩:∃ sz,((S:Int) == 0)=sz:=⟨_,rfl⟩;have HV0:Hid (stV (setB zs n) S m 0=if sz=true then 1 else 0):=Lib.hid (by
    unfold stV sumN;cases sz
    ·rw [if_neg (by simpa using hsz)]; rfl
    ·rw [if_pos (by simpa using hsz)]; rfl)
   have hlen:=setL_len S m;cases sz;all_goals
    go_enter Tryzx.func60,Tryz.ntmps60;go_wp2_with (at_lookup; refine wpList_lookup_own_ok_int _ rfl _ _ 86 rfl 89 3 .i64 keyedU Tryzx.underlying86 Tryzx.underlying3 (zeroI _) mb k D rfl (by exact HI0.out.own) _ (keyU S) rfl hkey ?_; intro cL hat hwc; rw [hh]);go_wp2_with fail
    go_region_held3 (fun w'=>w'.cell? ⟨w.heap.size,0,none⟩=some (.slice A n c)) (first | exact c0 | exact HA3.out.c0 | exact HA4.out.c0) ((first | (go_at_call 61; refine (iSet_any S m hS (by omega) _).mono ?_; rintro e w3 ⟨v3,rfl,ho3,hbx⟩; have hb3:=below_undrew hbx; obtain ⟨A3,q3,d3,rfl⟩:=ho3.sliceN; have HI3:=Lib.hid (HI0.out.below hb3); have HA3:=Lib.hid (HA0.out.after hlt (below_grownR hb3 _)); obtain rfl:=ho3.len; have l3:=ho3.intsAt) | (go_at_call 64; refine (iSetStands A n c zs _ (by exact HI3.out.now) hn m HM.out S _ _ _ (by exact l3) rfl).mono ?_; rw [hy]; rintro e w4 ⟨rfl,hb4⟩; have HI4:=Lib.hid (HI3.out.below hb4); have HA4:=Lib.hid (HA3.out.after hlt (below_grownR hb4 _)))));clear hb3 hbx hb4 ho3 l3 HI3 HA3 HI0 HA0 c0 c1 hat hwc;go_wp2_with fail
    refine (iSet_any S m hS (by omega) _).mono ?_;rintro e w5 ⟨v5,rfl,ho5,hb5⟩;obtain ⟨A5,q5,d5,rfl⟩:=ho5.sliceN;have hq5:=ho5.len;subst hq5;have HI5:=Lib.hid (HI4.out.below hb5);have HA5:Hid (StkAt w w5 mb (.slice A n c) A5 (setL S m)):=Lib.hid (by
     have h0:=HA4.out.after hlt (below_grownR hb5 _);exact ⟨h0.gr,h0.c0,h0.c1,h0.lt,own_li ho5 (by have:=HA4.out.lt; omega)⟩)
    clear hb5 ho5 HI4 HA4;go_wp2;go_loopw [7,29] (fun v7 v29 wr=>∃ (i k1:Nat) (D1:DataW Unit),v29 = .int .i64 i∧i≤(setL S m).length∧v7 = .int .i64 (stV (setB zs n) S m i:Nat)∧k1≤k+i*7 ^ (l - 1)∧Hid (StkIn (setB zs n) A n zs wr mb k1 D1)∧Hid (StkAt w wr mb (.slice A n c) A5 (setL S m))) (fun _ v29 _=>(setL S m).length - (intOf v29).toNat)
    case atStart=>exact ⟨0,k,D,rfl,Nat.zero_le _,by rw [HV0.out]; rfl,by omega,HI5,HA5⟩
    case round =>
     clear HI5 HA5 HV0;obtain ⟨i,k1,D1,rfl,hi,rfl,hk1,HI,HA⟩:=hrel;by_cases hlt2:i<(setL S m).length
     ·have ii:(i:Int)<((setL S m).length:Int):=by omega
      have i0:(0:Int)≤(i:Int):=by omega
      have i1:IntKind.i64.wrap ((i:Int)+1)=(i:Int)+1:=IntWalk.i64_in _ (by omega);obtain ⟨j,hj,hnj,hbit⟩:=setL_hit hlt2;obtain ⟨b,off,rfl,hbm,hcz⟩:=HA.out.li i hlt2;rw [hnj] at hcz;have hp:=p2_in hbit;have hpc:=pc_less h64 (show j<6 by omega) hbit;have handn:=andNot_at h64 (show j<6 by omega) hbit;have hshj:=uwrap_p2 j (by omega);have j0:(0:Int)≤(j:Int):=by omega
      have hmul:(i+1)*7 ^ (l - 1)≤6*7 ^ (l - 1):=Nat.mul_le_mul_right _ (by omega);have hp7:=pow7 (l:=l) (by omega);rw [Nat.succ_mul] at hmul;obtain ⟨T,hT⟩:∃ T,S - p2 j=T:=⟨_,rfl⟩;have hsl:=stV_le (ok:=setB zs n) (m:=m) h64 (i+1) (by omega);have HU:Hid (stV (setB zs n) S m (i+1)=stV (setB zs n) S m i+way (setB zs n) T):=Lib.hid (by
       unfold stV;rw [sumN,hnj];simp only [Int.toNat_natCast,hT]
       omega)
      have i3:IntKind.i64.wrap (((stV (setB zs n) S m i:Nat):Int)+((way (setB zs n) T:Nat):Int))=((stV (setB zs n) S m (i+1):Nat):Int):=by have:=HU.out; rw [IntWalk.i64_in _ (by omega)]; omega
      rw [hT] at handn hpc;have hTm:T<p2 m:=by omega
      have hbd:k1+7 ^ (l - 1)≤10000000:=by omega
      have HPC:Hid (pc T+1=l):=Lib.hid (by omega);have HK:Hid (∀ k2,k2≤k1+7 ^ (l - 1)→k2≤k+(i+1)*7 ^ (l - 1)):=Lib.hid (fun k2 h=>by rw [Nat.succ_mul]; omega)
      have c0:=HA.out.c0;have c1:=HA.out.c1;clear hbit hnj hpc hmul hp7;go_wp2_with fail
      go_region_held3 (fun w'=>w'.cell? ⟨w.heap.size,0,none⟩=some (.slice A n c)∧w'.cell? ⟨w.heap.size,1,none⟩=some (.map (some mb))) (first | exact ⟨c0,c1⟩ | exact ⟨HA6.out.c0,HA6.out.c1⟩) ((go_at_call 60; refine (HIH.out T _ k1 D1 HPC.out hTm (by exact HI.out.drew) hbd).mono ?_; rintro e w6 ⟨rfl,k2,D2,hi6,hk6,hgx⟩; have hg6:=grown_undrew hgx; have HI6:=Lib.hid hi6; have HA6:=Lib.hid (HA.out.after hlt hg6)));clear hgx hg6 hi6 c0 c1 hcz handn hshj;go_wp2;go_roundw
      case rel=>exact ⟨i+1,k2,D2,by go_num,by omega,rfl,HK.out _ hk6,HI6,HA6⟩
      case measure=>simp [intOf]; omega
     ·obtain rfl:i=(setL S m).length:=by omega
      have ii:¬ (((setL S m).length:Nat):Int)<(((setL S m).length:Nat):Int):=by omega
      have c1:=HA.out.c1;have hkk:k1+1≤k+7 ^ l:=by
       rcases Nat.eq_zero_or_pos l with e | e
       ·subst e
        have hz:(setL S m).length=0:=by rw [setL_6 hm6 hS]; exact hl
        rw [hz] at hk1;omega
       ·have h1:(setL S m).length*7 ^ (l - 1)≤6*7 ^ (l - 1):=Nat.mul_le_mul_right _ (by omega)
        have h2:=pow7 (l:=l) e;have h3:=pow7_pos (l - 1);omega
      go_wp2_with (at_mapUpdate; refine wpList_mapUpdate_own _ rfl _ _ _ 86 rfl 89 3 keyedU Tryzx.underlying86 _ mb k1 D1 rfl (by exact HI.out.own) (by unfold maxLen; omega) _ _ (keyU S) rfl rfl hkey (.lit (.int .i64 (way (setB zs n) S:Nat))) [] (plainI (by rw [HW.out]) (by omega)) ?_; intro w9 hown9 hgr9);go_wp2;go_ret;exact ⟨by rw [HW.out]; rfl,k1+1,_,HI.out.put hown9 hgr9,hkk,HA.out.gr.trans hgr9⟩
 ·have HAT:=Lib.hid (HI0.out.memo S hh)
  go_enter Tryzx.func60,Tryz.ntmps60;go_wp2_with (at_lookup; refine wpList_lookup_own_ok_int _ rfl _ _ 86 rfl 89 3 .i64 keyedU Tryzx.underlying86 Tryzx.underlying3 (zeroI _) mb k D rfl (by exact HI0.out.own) _ (keyU S) rfl hkey ?_; intro cL hat hwc; rw [hh]);have hcl:cL=((way (setB zs n) S:Nat):Int):=by
   rw [HAT.out] at hat;simp at hat;exact hat.symm
  subst hcl;go_wp2;go_ret;exact ⟨rfl,k,D,HI0.out,by omega,HG0.out⟩
theorem count_any (mb:Nat):∀ (l S:Nat) (w:World) (k:Nat) (D:DataW Unit),S<p2 m→pc S=l→StkIn (setB zs n) A n zs w mb k D→k+7 ^ l≤10000000 →
  Calls Tryzx.prog 60 #[.agg #[.slice A n c,.map (some mb)],.int .u64 S] w (CntPost A n zs mb (k+7 ^ l) S w)
 | 0,S,w,k,D,hS,hl,hin,hk=>count_step A n c zs hn m hm hm1 hm6 mb 0 S w k D hS hl hin hk (fun T w1 k1 D1 hT _ _ _=>absurd hT (by omega))
 | l+1,S,w,k,D,hS,hl,hin,hk=>count_step A n c zs hn m hm hm1 hm6 mb (l+1) S w k D hS hl hin hk (fun T w1 k1 D1 hT h2 h3 h4=>by
   simp only [Nat.add_sub_cancel] at h4 ⊢;exact count_any mb l T w1 k1 D1 h2 (by omega) h3 h4)
end
end X
namespace X
open Go.RowKit Go.Maps
theorem sub_p2 {m:Nat} (hm:m≤7):IntKind.u64.wrap (((p2 m:Nat):Int) - 1)=((p2 m - 1:Nat):Int):=by
 have:=p2_7 hm;have:=p2_pos m;rw [u64_in _ (by omega)]; omega
section
variable (A : Option Addr) (n c : Nat) (zs : List Int) (w : World) (h : RecsAt w w.heap.size 4 A n zs) (hn : n ≤ 1048576)
include h hn
set_option maxRecDepth 100000 in
set_option maxHeartbeats 3200000 in
theorem newStk_any (m:Nat) (hm:cstN zs n=m):Calls Tryzx.prog 59 #[.agg #[.slice A n c]] w fun e w'=>∃ mb,e = .returned (.tuple #[.agg #[.slice A n c,.map (some mb)],.int .u64 (p2 m - 1:Nat),.bool (inB (m:Int) 1 6)])∧StkIn (setB zs n) A n zs w' mb 0 (.map [])∧w.heap.size≤mb∧Below w.heap.size w w':=by
 have hmm := @run_makeMap Tryzx.prog;have b0:Below w.heap.size w ((w.alloc (.cells #[.slice A n c] 26)).alloc (.cells #[.slice none 0 0,.map none] 88)):=((Below.refl _ _).alloc (Nat.le_refl _) _).alloc (by simp) _;have h1:=h.after b0;have bx0:Box (w.alloc (.cells #[.slice A n c] 26)) w.heap.size (.slice A n c):=Box.new _ _ _;have bx1:=bx0.after ((Below.refl _ _).alloc (Nat.le_refl _) (.cells #[.slice none 0 0,.map none] 88));have HR0:Hid (RowF ((w.alloc (.cells #[.slice A n c] 26)).alloc (.cells #[.slice none 0 0,.map none] 88)) (w.heap.size+1) 88 2 (fun i=>if i=0 then .slice none 0 0 else .map none)):=Lib.hid (by
  have h:=RowF.of_row (World.rowIs_alloc (w.alloc (.cells #[.slice A n c] 26)) #[.slice none 0 0,.map none] 88 (fun i=>if i=0 then .slice none 0 0 else .map none) (fun i hi=>by simp at hi; match i,hi with | 0,_=>rfl | 1,_=>rfl))
  simpa using h)
 have cx0:=bx1.1;have HX:=Lib.hid bx1;have HB0:=Lib.hid b0;have HH:=Lib.hid h;have hm7:m≤7:=by have:=cstN_le zs n; omega
 have hsh:=uwrap_p2 m hm7;have hsub:=sub_p2 hm7;clear b0 bx0 bx1 h;go_enter Tryzx.func59,Tryz.ntmps59;go_wp2_with fail
 refine (iCst_any _ _ _ zs _ (by exact h1) hn).mono ?_;rw [hm];rintro e w1 ⟨rfl,hb1⟩;have HX1:=Lib.hid (HX.out.after hb1);have HB1:=Lib.hid (below_then HB0.out hb1);have HR1:=Lib.hid (HR0.out.after hb1);have cx1:=HX1.out.1;have r0:w1.cell? ⟨w.heap.size+1,0,none⟩=some (.slice none 0 0):=HR1.out.cell (i:=0) (by omega);have r1:w1.cell? ⟨w.heap.size+1,1,none⟩=some (.map none):=HR1.out.cell (i:=1) (by omega);have z0:=HR1.out.frozen 0;have z1:=HR1.out.frozen 1;have hl:=HR1.out.lt;have cxm:(w1.alloc (.map #[] 0)).cell? ⟨w.heap.size,0,none⟩=some (.slice A n c):=(World.cell?_alloc_lt w1 _ ⟨w.heap.size,0,none⟩ HX1.out.2).trans cx1;clear hb1 h1 cx0 HX HB0 HR0;go_wp2_with fail
 go_region_held3 (fun w'=>w'.cell? ⟨w.heap.size,0,none⟩=some (.slice A n c)) (first | exact cx1 | exact cxm | go_keep) ((go_at_call 76; refine (within_any _ _ _ _).mono ?_; rintro e w' ⟨rfl,rfl⟩));all_goals
  go_wp2;refine bodyPost_ret (v := .tuple #[.agg #[.slice A n c,.map (some w1.heap.size)],.int .u64 (p2 m - 1:Nat),.bool (inB (m:Int) 1 6)]) (by simp [results,Tryz.results59,go_sem, *]) rfl ?_;have hb9:=HB1.out.size;have hW:Below w.heap.size w ((w1.setCell ⟨w.heap.size+1,0,none⟩ (.slice A n c)).setCell ⟨w.heap.size+1,1,none⟩ (.map (some w1.heap.size))):=(HB1.out.setCell (by simp) _).setCell (by simp) _;have hM:=World.ownsMap_made (H:=Unit) ((w1.setCell ⟨w.heap.size+1,0,none⟩ (.slice A n c)).setCell ⟨w.heap.size+1,1,none⟩ (.map (some w1.heap.size))) Tryzx.prog 89 (plainElem Tryzx.prog 3);rw [show ((w1.setCell ⟨w.heap.size+1,0,none⟩ (.slice A n c)).setCell ⟨w.heap.size+1,1,none⟩ (.map (some w1.heap.size))).heap.size=w1.heap.size by simp] at hM;have hba:=below_dr (hW.alloc hW.size (.map #[] 0));exact ⟨w1.heap.size,rfl,⟨hM.drew,memo_0 _,(HH.out.below hba).mono hb9⟩,hb9,hba⟩
set_option maxRecDepth 100000 in
set_option maxHeartbeats 3200000 in
theorem iCntStr_any:Calls Tryzx.prog 20 #[.agg #[.slice A n c]] w fun e w'=>e = .returned (.int .i64 (strN zs n:Nat))∧Below w.heap.size w w':=by
 have b0:Below w.heap.size w (w.alloc (.cells #[.slice A n c] 26)):=(Below.refl _ _).alloc (Nat.le_refl _) _;have h1:=h.after b0;have bx0:Box (w.alloc (.cells #[.slice A n c] 26)) w.heap.size (.slice A n c):=Box.new _ _ _;have cx0:=bx0.1;have hm7:=cstN_le zs n;have HF:Hid (strN zs n=if 1≤cstN zs n∧cstN zs n≤6 then way (setB zs n) (p2 (cstN zs n) - 1) else 0):=Lib.hid rfl;obtain ⟨m,hm⟩:∃ m,cstN zs n=m:=⟨_,rfl⟩;rw [hm] at hm7 HF;have HM:=Lib.hid hm;clear h hm;go_enter Tryzx.func20,Tryz.ntmps20;go_wp2_with fail
 refine (newStk_any _ _ _ zs _ (by exact h1) hn m HM.out).mono ?_;rintro e w1 ⟨mb,rfl,hi1,hmb,hb1⟩;have hz1:w.heap.size≤w1.heap.size:=by have:=hb1.size; simp at this; omega
 have HB1:=Lib.hid ((below_then b0 hb1).alloc hz1 (.cells #[.slice A n c,.map (some mb)] 88));have HI1:=Lib.hid (hi1.below ((Below.refl _ _).alloc (Nat.le_refl _) (.cells #[.slice A n c,.map (some mb)] 88)));have hbx:=box_two w1 (.slice A n c) (.map (some mb)) 88;have c0:=hbx.1;have c1:=hbx.2;have hmb':w.heap.size≤mb:=by simp at hmb; omega
 clear hi1 hb1 b0 h1 cx0 bx0 hbx hmb;cases hy:inB (m:Int) 1 6
 ·have HN:Hid (strN zs n=0):=Lib.hid (by
   rw [HF.out,if_neg];intro hc;have:inB (m:Int) 1 6=true:=inB_iff.2 (by omega);rw [hy] at this; cases this)
  clear HF;go_wp2;go_ret;exact ⟨by rw [HN.out]; rfl,HB1.out⟩
 ·have hin:=inB_iff.1 hy
  have HN:Hid (strN zs n=way (setB zs n) (p2 m - 1)):=Lib.hid (by rw [HF.out,if_pos (by omega)]);have hp1:=p2_pos m;have h7:0+7 ^ pc (p2 m - 1)≤10000000:=by
   have h2:7 ^ pc (p2 m - 1)≤7 ^ 6:=Nat.pow_le_pow_right (by omega) (pc_le _);omega
  clear HF hy;go_wp2_with fail
  refine (count_any A n c zs hn m HM.out (by omega) (by omega) mb (pc (p2 m - 1)) (p2 m - 1) _ 0 (.map []) (by omega) rfl (by exact HI1.out) h7).mono ?_;rintro e w2 ⟨rfl,k2,D2,hi2,hk2,hg2⟩;have HB2:=Lib.hid (HB1.out.grown hg2 HB1.out.size (fun k hk=>by cases hk; exact hmb'));clear hi2 hk2 hg2 c0 c1 h7;go_wp2;go_ret;exact ⟨by rw [HN.out]; rfl,HB2.out⟩
end
end X
section
open Go.RowKit Go.Maps
def hit (ok:Nat→Bool) (S k:Nat):Bool:=decide (S / p2 k % 2=1) && decide (0<way ok (S - p2 k))
def nxtF (p:Nat→Bool):Nat→Nat→Nat
 | 0,k=>k
 | t+1,k=>if p k=true then k else nxtF p t (k+1)
theorem nxtF_is {p:Nat→Bool} {x:Nat} (hx:p x=true):∀ t k,k≤x→x<k+t→(∀ j,k≤j→j<x→p j=false)→nxtF p t k=x
 | 0,k,h1,h2,_=>by omega
 | t+1,k,h1,h2,h3=>by
  unfold nxtF;by_cases e:k=x
  ·subst e; rw [if_pos hx]
  ·rw [if_neg (by rw [h3 k (Nat.le_refl _) (by omega)]; decide)]
   exact nxtF_is hx t (k+1) (by omega) (by omega) (fun j hj=>h3 j (by omega))
def nxt (ok:Nat→Bool) (S:Nat):Nat:=nxtF (hit ok S) 6 0
theorem nxt_is {ok:Nat→Bool} {S k:Nat} (hk:k<6) (h:hit ok S k=true) (h0:∀ j,j<k→hit ok S j=false):nxt ok S=k :=
 nxtF_is h 6 0 (Nat.zero_le _) (by omega) (fun j _ hj=>h0 j hj)
theorem hit_out {ok:Nat→Bool} {S k:Nat} (h:hit ok S k=true):S / p2 k % 2=1∧0<way ok (S - p2 k):=by simpa [hit] using h
theorem hit_t {ok:Nat→Bool} {S k:Nat} (h1:S / p2 k % 2=1) (h2:0<way ok (S - p2 k)):hit ok S k=true:=by simp [hit,h1,h2]
theorem hit_f1 {ok:Nat→Bool} {S k:Nat} (h1:¬ S / p2 k % 2=1):hit ok S k=false:=by simp [hit,h1]
theorem hit_f2 {ok:Nat→Bool} {S k:Nat} (h1:way ok (S - p2 k)=0):hit ok S k=false:=by simp [hit,h1]
theorem sum_hit {ok:Nat→Bool} {S:Nat}:∀ k,(∀ j,j<k→hit ok S j=false)→sumK (way ok) S k=0
 | 0,_=>rfl
 | k+1,h=>by
  have ih:=sum_hit k (fun j hj=>h j (by omega));have hk:=h k (by omega);by_cases hb:S / p2 k % 2=1
  ·rw [sumK_yes hb,ih]
   simp [hit,hb] at hk;omega
  ·rw [sumK_no hb,ih]
theorem hit_ex {ok:Nat→Bool} {S:Nat} (h:0<way ok S) (h0:S ≠ 0):¬ ∀ j,j<6→hit ok S j=false:=by
 intro hall;cases hk:ok S
 ·rw [way_no hk] at h; omega
 ·rw [way_yes hk,sum_hit 6 hall,if_neg h0] at h; omega
def stF (ok:Nat→Bool) (F:Nat):Nat→Nat
 | 0=>F
 | i+1=>stF ok F i - p2 (nxt ok (stF ok F i))
def pikL (ok:Nat→Bool) (F:Nat):Nat→List Int
 | 0 => []
 | i+1=>pikL ok F i ++ [(nxt ok (stF ok F i):Int)]
theorem pikL_len (ok:Nat→Bool) (F:Nat):∀ i,(pikL ok F i).length=i
 | 0=>rfl
 | i+1=>by simp [pikL,pikL_len ok F i]
structure FAt (ok:Nat→Bool) (F i S:Nat):Prop where
 st:stF ok F i=S
 on:0<way ok S
 num:pc S+i=pc F
 lt:S<64
theorem FAt.start {ok:Nat→Bool} {F:Nat} (h:0<way ok F) (hF:F<64):FAt ok F 0 F:=⟨rfl,h,rfl,hF⟩
theorem FAt.step {ok:Nat→Bool} {F i S k:Nat} (h:FAt ok F i S) (hk:k<6) (hh:hit ok S k=true) (h0:∀ j,j<k→hit ok S j=false):FAt ok F (i+1) (S - p2 k)∧pikL ok F (i+1)=pikL ok F i ++ [(k:Int)]:=by
 have hn:=nxt_is hk hh h0;have ho:=hit_out hh;have hp:=pc_less h.lt hk ho.1;have hi:=(p2_in ho.1).2;refine ⟨⟨by simp only [stF,h.st,hn],ho.2,by have:=h.num; omega,by have:=h.lt; omega⟩,by simp only [pikL,h.st,hn]⟩
def findL (ok:Nat→Bool) (F:Nat):List Int:=pikL ok F (pc F)
theorem FAt.done {ok:Nat→Bool} {F i:Nat} (h:FAt ok F i 0):pikL ok F i=findL ok F:=by
 have h0:pc 0=0:=by decide
 have:=h.num;rw [h0] at this;unfold findL;rw [← this,Nat.zero_add]
theorem setL_mono (S:Nat) (a:Nat):∀ d,(setL S a).length≤(setL S (a+d)).length
 | 0=>Nat.le_refl _
 | d+1=>by
  have ih:=setL_mono S a d;rw [← Nat.add_assoc];by_cases hb:S / p2 (a+d) % 2=1
  ·rw [setL_yes hb,List.length_append]; omega
  ·rw [setL_no hb]; exact ih
theorem setL_up {S a b:Nat} (h:a≤b):(setL S a).length≤(setL S b).length:=by
 obtain ⟨d,rfl⟩:=Nat.exists_eq_add_of_le h;exact setL_mono S a d
theorem setL_lt {S j b:Nat} (hj:j<b) (hb:S / p2 j % 2=1):(setL S j).length<(setL S b).length:=by
 have h:=setL_up (S:=S) (a:=j+1) (b:=b) hj;rw [setL_yes hb,List.length_append] at h;simp at h;omega
theorem setL_ix {S:Nat}:∀ {m j:Nat},j<m→S / p2 j % 2=1→nth (setL S m) (setL S j).length=(j:Int)
 | 0,j,h,_=>by omega
 | m+1,j,h,hb=>by
  by_cases e:j=m
  ·subst e
   rw [setL_yes hb,nth_get _ _ (by simp)];simp
  ·have ih:=setL_ix (S:=S) (m:=m) (j:=j) (by omega) hb
   have hl:=setL_lt (S:=S) (j:=j) (b:=m) (by omega) hb;by_cases hm:S / p2 m % 2=1
   ·rw [setL_yes hm,nth_get _ _ (by simp; omega),List.getElem_append_left hl,← nth_get _ _ hl]
    exact ih
   ·rw [setL_no hm]; exact ih
theorem setL_at {S:Nat}:∀ {m i:Nat},i<(setL S m).length→∃ j,j<m∧nth (setL S m) i=(j:Int)∧S / p2 j % 2=1∧(setL S j).length=i
 | 0,i,h=>by simp [setL] at h
 | m+1,i,h=>by
  by_cases hb:S / p2 m % 2=1
  ·by_cases hi:i<(setL S m).length
   ·obtain ⟨j,h1,h2,h3,h4⟩:=setL_at hi
    refine ⟨j,by omega,?_,h3,h4⟩;rw [setL_yes hb,nth_get _ i (by rw [← setL_yes hb]; exact h),List.getElem_append_left hi,← nth_get _ i hi];exact h2
   ·have e:i=(setL S m).length:=by rw [setL_yes hb] at h; simp at h; omega
    refine ⟨m,by omega,?_,hb,e.symm⟩;subst e;exact setL_ix (by omega) hb
  ·rw [setL_no hb] at h ⊢
   obtain ⟨j,h1,h2,h3,h4⟩:=setL_at h;exact ⟨j,by omega,h2,h3,h4⟩
def noneTo (ok:Nat→Bool) (S m i:Nat):Prop:=∀ j,j<m→(setL S j).length<i→S / p2 j % 2=1→way ok (S - p2 j)=0
theorem none_0 (ok:Nat→Bool) (S m:Nat):noneTo ok S m 0:=fun j _ h=>absurd h (by omega)
theorem none_step {ok:Nat→Bool} {S m i j:Nat} (h:noneTo ok S m i) (hj:(setL S j).length=i) (hjm:j<m) (hb:S / p2 j % 2=1) (hw:way ok (S - p2 j)=0):noneTo ok S m (i+1):=by
 intro x hx hl hbx;by_cases e:(setL S x).length=i
 ·have:x=j:=by
   rcases Nat.lt_trichotomy x j with h1 | h1 | h1
   ·have:=setL_lt h1 hbx; omega
   ·exact h1
   ·have:=setL_lt h1 hb; omega
  subst this; exact hw
 ·exact h x hx (by omega) hbx
theorem none_before {ok:Nat→Bool} {S m i j:Nat} (h:noneTo ok S m i) (hj:(setL S j).length=i) (hjm:j<m):∀ x,x<j→hit ok S x=false:=by
 intro x hx;by_cases hbx:S / p2 x % 2=1
 ·exact hit_f2 (h x (by omega) (by have:=setL_lt hx hbx; omega) hbx)
 ·exact hit_f1 hbx
theorem none_all {ok:Nat→Bool} {S m:Nat} (hS:S<p2 m) (h:noneTo ok S m (setL S m).length):∀ j,j<6→hit ok S j=false:=by
 intro j hj;by_cases hb:S / p2 j % 2=1
 ·have hjm:j<m:=by
   rcases Nat.lt_or_ge j m with e | e
   ·exact e
   ·have h1:=p2_in hb
    obtain ⟨d,rfl⟩:=Nat.exists_eq_add_of_le e;have:=p2_add m d;omega
  exact hit_f2 (h j hjm (setL_lt hjm hb) hb)
 ·exact hit_f1 hb
end
section
open Go.RowKit
theorem OwnV.grownR {w w':World} {base mb:Nat} {E:TypeId} {v:Value} {xs:List Int} (h:OwnV w base E v xs) (hg:w.grownBy w' (some mb)) (hm:mb<base):OwnV w' base E v xs:=by
 refine ⟨h.1,?_⟩;rcases h.2 with h2 | ⟨g,cap,cur,h1,h2,h3,hr⟩
 ·exact .inl h2
 ·exact .inr ⟨g,cap,cur,h1,h2,(hg.block g (Array.getElem?_eq_some_iff.1 h3).1 (by simp; omega)).trans h3,hr⟩
end
namespace X
open Go.RowKit Go.Maps
def fndB (zs:List Int) (n:Nat):Bool:=decide (0<strN zs n)
def fndL (zs:List Int) (n:Nat):List Int:=if fndB zs n=true then findL (setB zs n) (stgC zs n - 1) else []
theorem fnd_no {zs:List Int} {n:Nat} (h:strN zs n=0):fndB zs n=false∧fndL zs n = []:=by
 have h1:fndB zs n=false:=by simp [fndB,h]
 exact ⟨h1,by simp [fndL,h1]⟩
theorem fnd_yes {zs:List Int} {n:Nat} (h:0<strN zs n):fndB zs n=true∧fndL zs n=findL (setB zs n) (stgC zs n - 1):=by
 have h1:fndB zs n=true:=by simp [fndB,h]
 exact ⟨h1,by simp [fndL,h1]⟩
def FndPost (w:World) (L:List Int) (b:Bool) (e:Ending) (w':World):Prop :=
 ∃ A l c,e = .returned (.tuple #[.slice A l c,.bool b])∧OwnV w' w.heap.size 3 (.slice A l c) L∧Below w.heap.size w w'
def LAt (wr:World) (bl bo N:Nat) (ok:Nat→Bool):Prop:=bl<wr.heap.size∧∀ t,t<N→wr.cell? ⟨bl,bo+t,none⟩=some (.int .i64 (way ok t:Nat))
theorem LAt.kept {w w':World} {bl bo N:Nat} {ok:Nat→Bool} {row:Option Nat} (h:LAt w bl bo N ok) (hg:w.grownBy w' row) (hne:row ≠ some bl):LAt w' bl bo N ok :=
 ⟨Nat.lt_of_lt_of_le h.1 hg.size,fun t ht=>hg.cell (h.2 t ht) (fun e=>hne e.symm)⟩
theorem LAt.alloc {w:World} {bl bo N:Nat} {ok:Nat→Bool} (h:LAt w bl bo N ok) (o:Obj):LAt (w.alloc o) bl bo N ok:=h.kept (World.grownBy_alloc w o none) (by simp)
theorem grown_of_alloc {w w':World} {o:Obj} {row:Option Nat} (h:(w.alloc o).grownBy w' row):w.grownBy w' row:=(World.grownBy_alloc w o row).trans h
section
variable (A : Option Addr) (n c : Nat) (zs : List Int) (w : World) (h : RecsAt w w.heap.size 4 A n zs) (hn : n ≤ 1048576)
include h hn
end
theorem pow7_le (T:Nat):7 ^ pc T≤117649:=by
 have:7 ^ pc T≤7 ^ 6:=Nat.pow_le_pow_right (by omega) (pc_le T);omega
structure FsAt (w wr:World) (X mb:Nat) (va:Value):Prop where
 c0:wr.cell? ⟨X,0,none⟩=some va
 c1:wr.cell? ⟨X,1,none⟩=some (.map (some mb))
 below:Below w.heap.size w wr
 lt:X<wr.heap.size
 far:w.heap.size≤mb∧mb<X
theorem FsAt.grown {w wr w':World} {X mb:Nat} {va:Value} {row:Option Nat} (h:FsAt w wr X mb va) (hg:wr.grownBy w' row) (hr:∀ k,row=some k→k=mb ∨ X<k):FsAt w w' X mb va:=by
 have hf:=h.far;have hx:some X ≠ row:=fun e=>by have:=hr X e.symm; omega
 exact ⟨hg.cell h.c0 hx,hg.cell h.c1 hx,h.below.grown hg h.below.size (fun k hk=>by have:=hr k hk; omega),Nat.lt_of_lt_of_le h.lt hg.size,hf⟩
theorem StkIn.keptR {ok:Nat→Bool} {A:Option Addr} {n:Nat} {zs:List Int} {w w':World} {mb k:Nat} {D:DataW Unit} {row:Option Nat} (h:StkIn ok A n zs w mb k D) (hg:w.grownBy w' row) (hr:∀ k,row=some k→mb<k):StkIn ok A n zs w' mb k D:=by
 refine ⟨h.own.kept hg (fun e=>by have:=hr mb e.symm; omega),h.memo,h.recs.1,fun hn => ?_⟩
 obtain ⟨b,off,rfl,hb,hc⟩:=h.recs.2 hn;exact ⟨b,off,rfl,hb,fun i hi=>hg.cell (hc i hi) (fun e=>by have:=hr b e.symm; omega)⟩
def LiAt (w:World) (A:Option Addr) (mb:Nat) (L:List Int):Prop:=∀ i,i<L.length→∃ b off,A=some ⟨b,off,none⟩∧b ≠ mb∧w.cell? ⟨b,off+i,none⟩=some (.int .i64 (nth L i))
theorem LiAt.kept {w w':World} {A:Option Addr} {mb:Nat} {L:List Int} (h:LiAt w A mb L) (hg:w.grownBy w' (some mb)):LiAt w' A mb L:=fun i hi=>by
 obtain ⟨b,off,e,hb,hc⟩:=h i hi;exact ⟨b,off,e,hb,hg.cell hc (by simp; omega)⟩
section
variable (A : Option Addr) (n c : Nat) (zs : List Int) (w : World) (h : RecsAt w w.heap.size 4 A n zs) (hn : n ≤ 1048576)
include h hn
set_option maxRecDepth 100000 in
set_option maxHeartbeats 6400000 in
theorem iFind_any:Calls Tryzx.prog 19 #[.agg #[.slice A n c]] w (FndPost w (fndL zs n) (fndB zs n)):=by
 have b0:Below w.heap.size w (w.alloc (.cells #[.slice A n c] 26)):=(Below.refl _ _).alloc (Nat.le_refl _) _;have h1:=h.after b0;have bx0:Box (w.alloc (.cells #[.slice A n c] 26)) w.heap.size (.slice A n c):=Box.new _ _ _;have cx0:=bx0.1;have hm7:=cstN_le zs n;have HF:Hid (strN zs n=if 1≤cstN zs n∧cstN zs n≤6 then way (setB zs n) (p2 (cstN zs n) - 1) else 0):=Lib.hid rfl;have HG:Hid (1≤cstN zs n∧cstN zs n≤6→stgC zs n=p2 (cstN zs n)):=Lib.hid (fun h=>by unfold stgC; rw [if_pos h]);have HNO:Hid (strN zs n=0→fndB zs n=false∧fndL zs n = []):=Lib.hid fnd_no;have HYES:Hid (0<strN zs n→fndB zs n=true∧fndL zs n=findL (setB zs n) (stgC zs n - 1)):=Lib.hid fnd_yes;obtain ⟨m,hm⟩:∃ m,cstN zs n=m:=⟨_,rfl⟩;rw [hm] at hm7 HF HG;have HM:=Lib.hid hm;clear h hm;go_enter Tryzx.func19,Tryz.ntmps19;go_wp2_with fail
 refine (newStk_any _ _ _ zs _ (by exact h1) hn m HM.out).mono ?_;rintro e w1 ⟨mb,rfl,hi1,hmb,hb1⟩;have hz1:w.heap.size≤w1.heap.size:=by have:=hb1.size; simp at this; omega
 have hbx:=box_two w1 (.slice A n c) (.map (some mb)) 88;have hlt1:=hi1.lt;have HS1:Hid (FsAt w (w1.alloc (.cells #[.slice A n c,.map (some mb)] 88)) w1.heap.size mb (.slice A n c)):=Lib.hid ⟨hbx.1,hbx.2,(below_then b0 hb1).alloc hz1 _,by simp,by simp at hmb; omega,hlt1⟩
 have HI1:=Lib.hid (hi1.below ((Below.refl _ _).alloc (Nat.le_refl _) (.cells #[.slice A n c,.map (some mb)] 88)));obtain ⟨X,hX⟩:∃ X,w1.heap.size=X:=⟨_,rfl⟩;rw [hX] at HS1;have c0:(w1.alloc (.cells #[.slice A n c,.map (some mb)] 88)).cell? ⟨X,0,none⟩=some (.slice A n c):=HS1.out.c0;have c1:(w1.alloc (.cells #[.slice A n c,.map (some mb)] 88)).cell? ⟨X,1,none⟩=some (.map (some mb)):=HS1.out.c1;clear hi1 hb1 b0 h1 cx0 bx0 hbx hmb hlt1;cases hy:inB (m:Int) 1 6
 ·have HR:=Lib.hid (HNO.out (by
   rw [HF.out,if_neg];intro hc;have:inB (m:Int) 1 6=true:=inB_iff.2 (by omega);rw [hy] at this; cases this))
  clear HF HG HNO HYES;go_wp2;go_ret2;exact ⟨none,0,0,by rw [HR.out.1]; rfl,by rw [HR.out.2]; exact OwnV.nil _ _ _,HS1.out.below⟩
 ·have hin:=inB_iff.1 hy
  have hm1:1≤m:=by omega
  have hm6:m≤6:=by omega
  have HW:Hid (strN zs n=way (setB zs n) (p2 m - 1)):=Lib.hid (by rw [HF.out,if_pos ⟨hm1,hm6⟩]);have hp1:=p2_pos m;have hp6:=p2_6 hm6;have HST:=HG.out ⟨hm1,hm6⟩;rw [HST] at HYES;obtain ⟨F,hF⟩:∃ F,p2 m - 1=F:=⟨_,rfl⟩;rw [hF] at HW HYES;have hFm:F<p2 m:=by omega
  have h7:0+7 ^ pc F≤10000000:=by have:=pow7_le F; omega
  clear HF HG hy HST hin;rw [hF];go_wp2_with fail
  refine (count_any A n c zs hn m HM.out hm1 hm6 mb (pc F) F _ 0 (.map []) hFm rfl (by exact HI1.out) h7).mono ?_;rintro e w2 ⟨rfl,k2,D2,hi2,hk2,hg2⟩;have HS2:=Lib.hid (HS1.out.grown hg2 (fun k hk=>by cases hk; exact .inl rfl));have HI2:=Lib.hid hi2;have hk2':k2≤117649:=by have:=pow7_le F; omega
  clear hi2 hk2 hg2 c0 c1 h7 HS1 HI1;by_cases hw0:way (setB zs n) F=0
  ·have HR:=Lib.hid (HNO.out (HW.out.trans hw0))
   have z0:(((way (setB zs n) F:Nat):Int) == 0)=true:=by simp [hw0]
   clear HNO HYES;go_wp2;go_ret2;exact ⟨none,0,0,by rw [HR.out.1]; rfl,by rw [HR.out.2]; exact OwnV.nil _ _ _,HS2.out.below⟩
  ·have HR:=Lib.hid (HYES.out (by rw [HW.out]; omega))
   have z0:(((way (setB zs n) F:Nat):Int) == 0)=false:=by simp [hw0]
   have HFA0:Hid (FAt (setB zs n) F 0 F):=Lib.hid (FAt.start (by omega) (by omega));clear HNO HYES HW;go_wp2;go_loopw [5,7] (fun v5 v7 wr=>∃ (i S k:Nat) (D:DataW Unit) (V:Value),V=v7∧v5 = .int .u64 S∧S<p2 m∧k≤117649*(1+6*i)∧Hid (FAt (setB zs n) F i S)∧Hid (OwnV wr (X+1) 3 V (pikL (setB zs n) F i))∧Hid (StkIn (setB zs n) A n zs wr mb k D)∧Hid (FsAt w wr X mb (.slice A n c))) (fun v5 _ _=>(intOf v5).toNat)
   case atStart=>exact ⟨0,F,k2,D2,_,rfl,rfl,hFm,by omega,HFA0,Lib.hid (OwnV.nil _ _ _),HI2,HS2⟩
   case round =>
    clear HFA0 HI2 HS2;obtain ⟨i,S,k,D,V,rfl,rfl,hSm,hk,HFA,HO,HI,HS⟩:=hrel;by_cases hS0:S=0
    ·subst hS0
     have s0:((0:Int) != 0)=false:=rfl;have HD:=Lib.hid HFA.out.done;have HR2:Hid (OwnV wr (X+1) 3 V (fndL zs n)):=Lib.hid (by rw [HR.out.2,← HD.out]; exact HO.out);obtain ⟨A9,l9,c9,rfl⟩:=HO.out.sliceN;clear HFA HO HD;go_wp2;go_ret2;exact ⟨A9,l9,c9,by rw [HR.out.1]; rfl,HR2.out.weakenN (by have:=HS.out.far; omega),HS.out.below⟩
    ·have s0:((S:Int) != 0)=true:=by simp; omega
     have h64:=HFA.out.lt;have HEX:=Lib.hid (hit_ex HFA.out.on hS0);have hpl:=pikL_len (setB zs n) F i;have hpc:=pc_le F;have hnum:=HFA.out.num;have hi6:i≤6:=by omega
     have hlen:=setL_len S m;go_wp2_with fail
     refine (iSet_any S m hSm (by omega) _).mono ?_;rintro e w3 ⟨v3,rfl,ho3,hb3⟩;obtain ⟨A3,q3,d3,rfl⟩:=ho3.sliceN;have hq3:=ho3.len;subst hq3;have HI3:=Lib.hid (HI.out.below hb3);have HS3:=Lib.hid (HS.out.grown (below_grownR hb3 none) (fun k hk=>by cases hk));have HO3:=Lib.hid (HO.out.afterN hb3);have HL3:Hid (LiAt w3 A3 mb (setL S m)):=Lib.hid (own_li ho3 (by have:=HI.out.lt; omega))
     clear hb3 ho3 HI HS HO;go_wp2;go_loopw [5,7,29] (fun u5 u7 u29 wx=>∃ (t k1:Nat) (D1:DataW Unit),u29 = .int .i64 t∧t≤(setL S m).length∧V=u7∧u5 = .int .u64 S∧k1≤k+t*117649∧Hid (noneTo (setB zs n) S m t)∧Hid (OwnV wx (X+1) 3 V (pikL (setB zs n) F i))∧Hid (StkIn (setB zs n) A n zs wx mb k1 D1)∧Hid (FsAt w wx X mb (.slice A n c))∧Hid (LiAt wx A3 mb (setL S m))) (fun _ _ u29 _=>(setL S m).length - (intOf u29).toNat)
     case atStart=>exact ⟨0,k,D,rfl,Nat.zero_le _,rfl,rfl,by omega,Lib.hid (none_0 _ _ _),HO3,HI3,HS3,HL3⟩
     case round =>
      clear HO3 HI3 HS3 HL3;obtain ⟨t,k1,D1,rfl,ht,rfl,rfl,hk1,HN,HO,HI,HS,HL⟩:=hrel;by_cases hlt2:t<(setL S m).length
      ·have ii:(t:Int)<((setL S m).length:Int):=by omega
       have i0:(0:Int)≤(t:Int):=by omega
       have i1:IntKind.i64.wrap ((t:Int)+1)=(t:Int)+1:=IntWalk.i64_in _ (by omega);obtain ⟨j,hj,hnj,hbit,hjl⟩:=setL_at hlt2;obtain ⟨b,off,rfl,hbm,hcz⟩:=HL.out t hlt2;rw [hnj] at hcz;have hp:=p2_in hbit;have handn:=andNot_at h64 (show j<6 by omega) hbit;have hshj:=uwrap_p2 j (by omega);have j0:(0:Int)≤(j:Int):=by omega
       obtain ⟨T,hT⟩:∃ T,S - p2 j=T:=⟨_,rfl⟩;rw [hT] at handn;have hTm:T<p2 m:=by omega
       have hTS:T<S:=by omega
       have h7T:=pow7_le T;have hbd:k1+7 ^ pc T≤10000000:=by omega
       have c0:=HS.out.c0;have c1:=HS.out.c1;clear hp hnj;by_cases hw:0<way (setB zs n) T
       ·have hgt:((way (setB zs n) T:Nat):Int) > 0:=by omega
        have HSTEP:=Lib.hid (HFA.out.step (show j<6 by omega) (hit_t hbit (by rw [hT]; exact hw)) (none_before HN.out hjl hj));rw [hT] at HSTEP;have hk3:∀ k3,k3≤k1+7 ^ pc T→k3≤117649*(1+6*(i+1)):=fun k3 h3=>by omega
        have HK3:=Lib.hid hk3;clear hbit hnum hpc HN hw hk3;go_wp2_with fail
        go_region_held3 (fun w'=>w'.cell? ⟨X,0,none⟩=some (.slice A n c)∧w'.cell? ⟨X,1,none⟩=some (.map (some mb))) (first | exact ⟨c0,c1⟩ | exact ⟨HS6.out.c0,HS6.out.c1⟩) ((go_at_call 60; refine (count_any A n c zs hn m HM.out hm1 hm6 mb (pc T) T _ k1 D1 hTm rfl (by exact HI.out.drew) hbd).mono ?_; rintro e w6 ⟨rfl,k3,D3,hi6',hk6,hgx⟩; have hg6:=grown_undrew hgx; have HI6:=Lib.hid hi6'; have HS6:=Lib.hid (HS.out.grown hg6 (fun k hk=>by cases hk; exact .inl rfl)); have HO6:=Lib.hid (HO.out.grownR hg6 (by have:=HS.out.far; omega))))
        have hz6:=HS6.out.lt;clear hgx hg6 hi6' c0 c1 hcz HL HI HS HO;go_wp2_with (at_builtin; refine wpList_append_int _ rfl (.tmp 40) (.tmp 42) 48 rfl (X+1) 3 Tryzx.underlying48 infoInt _ (pikL (setB zs n) F i) rfl (by exact HO6.out.alloc _) _ _ (j:Int) rfl (by exact cell_new1 _ _ _) (by omega) (by simp; omega) ?_; intro g' cap' w7 hown7 hgr7);have hgr:=grown_of_alloc hgr7;have HI7:=Lib.hid (HI6.out.keptR hgr (fun k hk=>by have:=HO6.out.ownLt k hk; have:=HS6.out.far; omega))
        have HS7:=Lib.hid (HS6.out.grown hgr (fun k hk=>by have:=HO6.out.ownLt k hk; exact .inr (by omega)));have hv7:=hown7.toV;rw [List.length_append,hpl,← HSTEP.out.2] at hv7;have HV7:=Lib.hid hv7;have HA7:=Lib.hid HSTEP.out.1;clear hown7 hgr7 hgr hv7 HSTEP;go_wp2;go_roundw
        case rel=>exact ⟨i+1,T,k3,D3,_,rfl,rfl,hTm,HK3.out _ hk6,HA7,HV7,HI7,HS7⟩
        case measure=>simp [intOf]; omega
       ·have hgt:¬ ((way (setB zs n) T:Nat):Int) > 0:=by omega
        have HN1:=Lib.hid (none_step HN.out hjl hj hbit (by rw [hT]; omega))
        have HK3:Hid (∀ k3,k3≤k1+7 ^ pc T→k3≤k+(t+1)*117649):=Lib.hid (fun k3 h3=>by omega);clear hbit hnum hpc HN hw;go_wp2_with fail
        go_region_held3 (fun w'=>w'.cell? ⟨X,0,none⟩=some (.slice A n c)∧w'.cell? ⟨X,1,none⟩=some (.map (some mb))) (first | exact ⟨c0,c1⟩ | exact ⟨HS6.out.c0,HS6.out.c1⟩) ((go_at_call 60; refine (count_any A n c zs hn m HM.out hm1 hm6 mb (pc T) T _ k1 D1 hTm rfl (by exact HI.out.drew) hbd).mono ?_; rintro e w6 ⟨rfl,k3,D3,hi6',hk6,hgx⟩; have hg6:=grown_undrew hgx; have HI6:=Lib.hid hi6'; have HS6:=Lib.hid (HS.out.grown hg6 (fun k hk=>by cases hk; exact .inl rfl)); have HO6:=Lib.hid (HO.out.grownR hg6 (by have:=HS.out.far; omega)); have HL6:=Lib.hid (HL.out.kept hg6)));clear hgx hg6 hi6' c0 c1 hcz HL HI HS HO;go_wp2;go_roundw
        case rel=>exact ⟨t+1,k3,D3,by go_num,by omega,rfl,rfl,HK3.out _ hk6,HN1,HO6,HI6,HS6,HL6⟩
        case measure=>simp [intOf]; omega
      ·obtain rfl:t=(setL S m).length:=by omega
       exact absurd (none_all hSm HN.out) HEX.out
end
end X
namespace X
open Go.RowKit
section
variable {rs : List Int} {n : Nat}
theorem foldN_mono {f:Nat→List Int→List Int} (hf:∀ j a,a.length≤(f j a).length) (a:List Int):∀ t,a.length≤(foldN f t a).length
 | 0=>Nat.le_refl _
 | t+1=>Nat.le_trans (foldN_mono hf a t) (hf t _)
theorem foldN_hit {f:Nat→List Int→List Int} (hf:∀ j a,a.length≤(f j a).length) {j:Nat} (hj:∀ a,0<(f j a).length) (a:List Int):∀ t,j<t→0<(foldN f t a).length
 | 0,h=>absurd h (by omega)
 | t+1,h=>by
  by_cases e:j=t
  ·subst e; exact hj _
  ·exact Nat.lt_of_lt_of_le (foldN_hit hf hj a t (by omega)) (hf t _)
theorem crStep_mono (i k m:Nat) (acc:List Int):acc.length≤(crStep rs n i k m acc).length:=by
 unfold crStep;split
 ·rw [List.length_append]; omega
 ·exact Nat.le_refl _
theorem crStep_hit {i k m:Nat} (h1:crB rs i k m=true) (h3:crAll rs n i k m=true) (acc:List Int):0<(crStep rs n i k m acc).length:=by
 cases h2:crHas rs acc i k m
 ·rw [crStep_t h1 h2 h3,List.length_append]; simp
 ·rw [crStep_2 h2]
  rcases Nat.eq_zero_or_pos acc.length with e | e
  ·rw [crHas,e] at h2; simp [hasTo] at h2
  ·exact e
theorem corM_mono (i k:Nat) (acc:List Int) (t:Nat):acc.length≤(corM rs n i k acc t).length:=foldN_mono (fun _ _=>crStep_mono _ _ _ _) _ _
theorem corK_mono (i:Nat) (acc:List Int) (t:Nat):acc.length≤(corK rs n i acc t).length:=foldN_mono (fun _ _=>corM_mono _ _ _ _) _ _
theorem cornN_pos (hB:cornB rs n=true) {i k m:Nat} (hik:i<k) (hkm:k<m) (hmn:m<n) (h1:crB rs i k m=true) (h3:crAll rs n i k m=true):0<cornN rs n:=by
 have hpos:0<(cornL rs n).length:=by
  rw [cornL_t hB];refine foldN_hit (fun _ _=>corK_mono _ _ _) (j:=i) (fun a => ?_) _ _ (by omega);refine foldN_hit (fun _ _=>corM_mono _ _ _ _) (j:=k - (i+1)) (fun a => ?_) _ _ (by omega);have e1:i+1+(k - (i+1))=k:=by omega
  rw [e1];refine foldN_hit (fun _ _=>crStep_mono _ _ _ _) (j:=m - (k+1)) (fun a => ?_) _ _ (by omega);have e2:k+1+(m - (k+1))=m:=by omega
  rw [e2];exact crStep_hit h1 h3 a
 have:=(corn_acc rs n).len;omega
end
theorem mkG_0 (D:Int):mkG 0 0 0 D=D:=by
 unfold mkG gcd4;simp;split <;> omega
theorem mkI_0 (D:Int):mkI 0 0 0 D 0=0:=by
 unfold mkI;split <;> simp
theorem mkB_00 {D:Int} (h0:¬ D=0) (hD:okG D):mkB 0 0 0 D=true:=by
 refine mkB_t h0 ?_ ?_
 ·unfold okG at hD
  simp only [mkBd,Bool.and_eq_true,inB_iff];omega
 ·unfold mkT
  rw [mkG_0,Int.tdiv_self h0];simp only [Int.zero_tdiv];decide
theorem mkI_D {D:Int} (h0:¬ D=0) (hD:okG D):mkI 0 0 0 D D=1:=by
 rw [mkI_t (mkB_00 h0 hD),mkG_0,Int.tdiv_self h0]
theorem det_d0 (a1 a2 b1 b2 c1 c2:Int):det9 0 a1 a2 0 b1 b2 0 c1 c2=0:=by simp [det9]
theorem det_d1 (a1 a2 b1 b2 c1 c2:Int):det9 a1 0 a2 b1 0 b2 c1 0 c2=0:=by simp [det9]
theorem det_d2 (a1 a2 b1 b2 c1 c2:Int):det9 a1 a2 0 b1 b2 0 c1 c2 0=0:=by simp [det9]
theorem cornN_zero {rs:List Int} {n:Nat} (hB:cornB rs n=true) (hz:∀ i,i<n→nth rs (i*4+3)=0) (hn:3≤n)
  (hD:¬ det9 (nth rs 0) (nth rs 1) (nth rs 2) (nth rs 4) (nth rs 5) (nth rs 6) (nth rs 8) (nth rs 9) (nth rs 10)=0):0<cornN rs n:=by
 have hr:∀ i,i<n→rowAt rs i=true:=by
  simp only [cornB,Bool.and_eq_true] at hB;exact fun i hi=>allB_out hB.1 i hi
 have r0:=hr 0 (by omega);have r1:=hr 1 (by omega);have r2:=hr 2 (by omega);have z0:=hz 0 (by omega);have z1:=hz 1 (by omega);have z2:=hz 2 (by omega);unfold rowAt at r0 r1 r2;have hs:solD (nth rs (0*4)) (nth rs (0*4+1)) (nth rs (0*4+2)) (nth rs (0*4+3)) (nth rs (1*4)) (nth rs (1*4+1)) (nth rs (1*4+2)) (nth rs (1*4+3)) (nth rs (2*4)) (nth rs (2*4+1)) (nth rs (2*4+2)) (nth rs (2*4+3))=det9 (nth rs 0) (nth rs 1) (nth rs 2) (nth rs 4) (nth rs 5) (nth rs 6) (nth rs 8) (nth rs 9) (nth rs 10):=by
  unfold solD;rw [r0,r1,r2];rfl
 have hok:=(rows_det r0 r1 r2).1.out;have hok':okG (det9 (nth rs 0) (nth rs 1) (nth rs 2) (nth rs 4) (nth rs 5) (nth rs 6) (nth rs 8) (nth rs 9) (nth rs 10)):=hok;have hb:crB rs 0 1 2=true:=by
  unfold crB solB;rw [hs,z0,z1,z2,det_d0,det_d1,det_d2];exact mkB_00 hD hok'
 have hI:∀ x,crI rs 0 1 2 x=mkI 0 0 0 (det9 (nth rs 0) (nth rs 1) (nth rs 2) (nth rs 4) (nth rs 5) (nth rs 6) (nth rs 8) (nth rs 9) (nth rs 10)) x:=fun x=>by
  unfold crI solI;rw [hs,z0,z1,z2,det_d0,det_d1,det_d2]
 refine cornN_pos hB (i:=0) (k:=1) (m:=2) (by omega) (by omega) (by omega) hb ?_;have e1:crH rs 0 1 2=0:=by unfold crH; rw [hI,z0,z1,z2,det_d0,mkI_0]
 have e2:crV rs 0 1 2=0:=by unfold crV; rw [hI,z0,z1,z2,det_d1,mkI_0]
 have e3:crM rs 0 1 2=0:=by unfold crM; rw [hI,z0,z1,z2,det_d2,mkI_0]
 have e4:crD rs 0 1 2=1:=by unfold crD; rw [hI,hs,mkI_D hD hok']
 unfold crAll;rw [e1,e2,e3,e4];refine allB_t fun i hi => ?_
 unfold metAt metB;rw [hz i hi];simp
def allN:Nat→List Int
 | 0 => []
 | k+1=>allN k ++ [(k:Int)]
theorem allN_len:∀ k,(allN k).length=k
 | 0=>rfl
 | k+1=>by simp [allN,allN_len k]
theorem allN_at:∀ {k i:Nat},i<k→nth (allN k) i=(i:Int)
 | 0,i,h=>by omega
 | k+1,i,h=>by
  have hl:=allN_len k;rw [nth_get _ i (by rw [allN_len]; exact h)];by_cases e:i=k
  ·subst e
   simp [allN,hl]
  ·have hi:i<(allN k).length:=by omega
   have h2:=allN_at (k:=k) (i:=i) (by omega);rw [nth_get _ i hi] at h2;simp only [allN];rw [List.getElem_append_left hi];exact h2
theorem asc_all {n:Nat} (hn:3≤n):ascB (allN (n - 1)) (n - 1) 0 ((n:Int) - 2)=true:=by
 simp only [ascB,List.all_eq_true,List.mem_range];intro i hi;simp only [ascAt,Bool.and_eq_true,Bool.or_eq_true,decide_eq_true_eq,inB_iff,allN_at hi];refine ⟨by omega,?_⟩;rcases Nat.eq_zero_or_pos i with e | e
 ·exact .inl e
 ·right
  rw [allN_at (by omega)];omega
theorem isC_all {k j:Nat} (h:j<k):isC (allN k) k j=true:=(isC_iff _ _ _).2 ⟨j,h,allN_at h⟩
theorem carried_all {zs:List Int} {n:Nat} (hA:archB zs n=true):carriedB zs n (allN (n - 1)) (n - 1)=true:=by
 have:=(archB_out hA).1;rw [carriedB_3 (asc_all (by omega))];exact hA
theorem sum_all (zs:List Int) {n:Nat}:∀ k,k<n→sumW (stgL zs (allN (n - 1)) (n - 1) (n - 1)) k=0∧sumM (stgL zs (allN (n - 1)) (n - 1) (n - 1)) k=0
 | 0,_=>⟨rfl,rfl⟩
 | k+1,h=>by
  have ih:=sum_all zs (n:=n) k (by omega);have hk:k<n - 1:=by omega
  simp only [sumW,sumM];rw [(stgL_nth zs _ _ hk).1,(stgL_nth zs _ _ hk).2];simp only [stgW,stgM,isC_all hk,if_true];omega
theorem stgR_all {zs:List Int} {n:Nat} (hA:archB zs n=true):stgR zs n (allN (n - 1)) (n - 1)=rowsL zs (fun _=>0) (fun _=>0) n:=by
 rw [(stg_t (carried_all hA)).2];exact rowsL_congr fun k hk=>sum_all zs k hk
theorem rows0_d {zs:List Int} {n:Nat}:∀ i,i<n*2+1→nth (rowsL zs (fun _=>0) (fun _=>0) n) (i*4+3)=0:=by
 intro i hi;have hl:=rowTo_len zs (fun _=>0) (fun _=>0) n;unfold rowsL;by_cases h:i<n*2
 ·rw [nthA_l (by omega)]
  rcases Nat.mod_two_eq_zero_or_one i with e | e
  ·have e2:i*4+3=i / 2*8+3:=by omega
   rw [e2,rowTo_nth zs _ _ (by omega) (by omega)];simp [rowJ,nth]
  ·have e2:i*4+3=i / 2*8+7:=by omega
   rw [e2,rowTo_nth zs _ _ (by omega) (by omega)];simp [rowJ,nth]
 ·rw [nthA_r 3 (by omega)]
  rfl
theorem wmok_0 (n:Nat):WMok (fun _=>0) (fun _=>0) n:=fun k _=>by constructor <;> constructor <;> simp
theorem side_det (px py qx qy rx ry:Int):det9 py (-px) 1 (-qy) qx (-1) ry (-rx) 1=sideI qx qy px py rx ry:=by
 unfold det9 sideI;grind
theorem stands_all {zs:List Int} {n:Nat} (hA:archB zs n=true):stgB zs n (allN (n - 1)) (n - 1)=true:=by
 have h0:=archB_out hA;have hn:=h0.1;unfold stgB;rw [stgR_all hA,(stg_t (carried_all hA)).1];refine decide_eq_true ?_;have hrow:∀ k j,k<n→j<8→nth (rowsL zs (fun _=>0) (fun _=>0) n) (k*8+j)=nth (rowJ zs (fun _=>0) (fun _=>0) k) j:=fun k j hk hj=>by
  have hl:=rowTo_len zs (fun _=>0) (fun _=>0) n;unfold rowsL;rw [nthA_l (by omega),rowTo_nth zs _ _ hk hj]
 refine cornN_zero (cornB_t (rowsL_ok hA (wmok_0 n)) (by rw [inB_iff]; omega)) rows0_d (by omega) ?_
 have q0:=hrow 0 0 (by omega) (by omega);have q1:=hrow 0 1 (by omega) (by omega);have q2:=hrow 0 2 (by omega) (by omega);have q4:=hrow 0 4 (by omega) (by omega);have q5:=hrow 0 5 (by omega) (by omega);have q6:=hrow 0 6 (by omega) (by omega);have q8:=hrow 1 0 (by omega) (by omega);have q9:=hrow 1 1 (by omega) (by omega);have q10:=hrow 1 2 (by omega) (by omega);simp only [Nat.zero_mul,Nat.zero_add,Nat.one_mul,Nat.add_zero,Nat.reduceAdd] at q0 q1 q2 q4 q5 q6 q8 q9 q10;rw [q0,q1,q2,q4,q5,q6,q8,q9,q10];simp only [rowJ,nth,List.getD_cons_zero,List.getD_cons_succ];have hp:=h0.2 0 (by omega);simp only [pairB,Bool.and_eq_true] at hp;have ht:=(stoneB_out hp.1).2.2 3 (by omega);simp only [turnB,Bool.and_eq_true,decide_eq_true_eq] at ht;have ht1:=ht.1;intro he;rw [side_det] at he;simp [sd,btwA,btw,nth] at ht1;simp at he;omega
theorem full_bit {m j:Nat} (hj:j<m):(p2 m - 1) / p2 j % 2=1:=by
 obtain ⟨d,rfl⟩:∃ d,m=j+1+d:=⟨m - (j+1),by omega⟩;have hp:=p2_pos j;have hd:=p2_pos d;have e:p2 (j+1+d)=p2 j*(2*p2 d):=by simp [p2,Nat.pow_add,Nat.pow_one,Nat.mul_assoc]
 have e2:p2 (j+1+d) - 1=p2 j*(2*p2 d - 1)+(p2 j - 1):=by
  rw [e,Nat.mul_sub,Nat.mul_one];have:p2 j*1≤p2 j*(2*p2 d):=Nat.mul_le_mul_left _ (by omega);omega
 rw [e2,Nat.mul_add_div hp,Nat.div_eq_of_lt (by omega)];omega
theorem setL_full (m:Nat):∀ k,k≤m→setL (p2 m - 1) k=allN k
 | 0,_=>rfl
 | k+1,h=>by
  rw [setL_yes (full_bit (by omega)),setL_full m k (by omega)];rfl
theorem setL_zero:∀ k,setL 0 k = []
 | 0=>rfl
 | k+1=>by rw [setL_no (by simp)]; exact setL_zero k
theorem setB_0 (zs:List Int) (n:Nat):setB zs n 0=stgB zs n [] 0:=by unfold setB; rw [setL_zero]; rfl
end X
section
open Go.RowKit
theorem wpList_append_rowO {P:Program} (w:World) {ops:Array Oper} {rest:List Oper} {o:Oper} {a:Act} {Q:Exit→Act→World→Prop} (hgd:o.guard=none) (s x:Operand) (t:TypeId)
  (ho:o.op = .call { callee := .builtin .append,args := #[s,x],argTypes := #[t,t] })
  (base:Nat) (E:TypeId) (ht:P.underlying t=some (.slice E)) (hinfo:(P.info? E).map (fun i=>(i.zero,i.size,i.bytes))=some (some (.int .i64 0),1,8))
  (v:Value) (hs:a.eval s=v) (hown:OwnV w base E v []) (g off n c:Nat) (zs:List Int) (hx:a.eval x = .slice (some ⟨g,off,none⟩) n c)
  (hl:zs.length=n) (hg:∀ j,j<n→w.cell? ⟨g,off+j,none⟩=some (.int .i64 (nth zs j))) (B:Nat) (w0:World) (hb:Below B w0 w) (hB:B≤base) (hbase:base≤w.heap.size) (hk2:n≤1099511627776)
  (h:∀ A k c w',OwnV w' base E (.slice A k c) zs→Below B w0 w'→wpList P ops Q rest (a.put o.dst (.slice A k c)) w'):wpList P ops Q (o :: rest) a w:=by
 obtain ⟨i0,hi0,hz0,hz1,hz2⟩:=info_parts hinfo;refine wpList_append_own (P:=P) w hgd s x t ho base E i0 (.int .i64 0) 1 8 ht hi0 hz0 hz1 hz2 rfl (by decide) v 0 _ hs hown ⟨g,off,none⟩ n c (zs.map (Value.int .i64)) hx (by simp [hl]) ?_ ?_ (by unfold maxLen; omega) (by omega) hbase ?_
 ·intro j u hj
  rw [List.getElem?_map] at hj;by_cases hjn:j<n
  ·have e:=hg j hjn
   rw [nth_get _ _ (by omega)] at e;rw [List.getElem?_eq_getElem (by omega)] at hj;simp at hj;rw [← hj];rw [Go.WideShapes.add_plain];exact e
  ·rw [List.getElem?_eq_none (by omega)] at hj
   simp at hj
 ·intro u hu
  simp at hu;obtain ⟨z,_,rfl⟩:=hu;rfl
 ·intro v' w' hown' hgr _
  have h':OwnV w' base E v' zs:=by
   unfold OwnV;have e:0+n=zs.length:=by omega
   rw [e] at hown';exact hown'
  obtain ⟨A,k,c',rfl⟩:=h'.sliceN;exact h A k c' w' h' (hb.grown hgr (by omega) (fun k hk=>by have:=hown.ownLt k hk; omega))
end
namespace X
open Go.RowKit
theorem zeroIntD (w:World):(zeroValue 3).run Tryzx.prog w = .ok (.int .i64 0) w:=by kernel_rfl
set_option maxRecDepth 100000 in
set_option maxHeartbeats 800000 in
theorem cloneI_any (g off n c:Nat) (zs:List Int) (w:World) (hg:g<w.heap.size) (hc:∀ j,j<n→w.cell? ⟨g,off+j,none⟩=some (.int .i64 (nth zs j))) (hl:zs.length=n) (hn:n≤1048576) :
  Calls Tryzx.prog 66 #[.slice (some ⟨g,off,none⟩) n c] w fun e w'=>∃ A k d,e = .returned (.slice A k d)∧OwnV w' w.heap.size 3 (.slice A k d) zs∧Below w.heap.size w w':=by
 have HC:=Lib.hid (fun j hj=>(World.cell?_alloc_lt w (.cells #[] 3) ⟨g,off+j,none⟩ hg).trans (hc j hj));clear hc;have hnil:=Lib.run_eql_slice_nil (P:=Tryzx.prog) w 48 3 (some ⟨g,off,none⟩) n c 0 0 Tryzx.underlying48;go_enter Tryzx.func66,Tryz.ntmps66;go_wp2_with (at_builtin; refine wpList_append_rowO _ rfl (.tmp 5) (.tmp 6) 48 rfl w.heap.size 3 Tryzx.underlying48 infoInt _ rfl (by exact (OwnI.new w _).toV) g off n c zs rfl hl (by exact HC.out) w.heap.size w (by exact (Below.refl _ _).alloc (Nat.le_refl _) _) (Nat.le_refl _) (by simp) (by omega) ?_; intro A k c' w3 hown3 hb3);go_ret;exact ⟨_,_,_,rfl,hown3,hb3⟩
theorem delL_eq (L:List Int) (i m:Nat) (h:L.length=i+1+m):(layI (layI L (0+i*1) (L.drop (i+1))) (i+m) [0]).take (i+m)=L.eraseIdx i:=by
 rw [layI_eq [0] _ _ (by rw [layI_len]; simp; omega),layI_eq (L.drop (i+1)) L _ (by simp; omega),List.eraseIdx_eq_take_drop_succ]
 have e0:0+i*1=i:=by omega
 rw [e0];have e1:(L.take i ++ L.drop (i+1)).length=i+m:=by simp; omega
 rw [List.append_assoc (List.take (i+m) _),List.take_append_of_le_length (by simp; omega),List.take_take,Nat.min_self,List.take_append_of_le_length (by omega),List.take_of_length_le (by omega)]
set_option maxRecDepth 1000000 in
set_option maxHeartbeats 4000000 in
theorem deleteI_any (g cap base i m:Nat) (L:List Int) (w:World) (h:OwnI w base 3 g cap L) (hl:L.length=i+1+m) (hcap:L.length≤cap∧cap≤9223372036854775807) (hn:L.length≤1048576) :
  Calls Tryzx.prog 65 #[.slice (some ⟨g,0,none⟩) (i+1+m) cap,.int .i64 i,.int .i64 ((i:Int)+1)] w fun e w'=>e = .returned (.slice (some ⟨g,0,none⟩) (i+m) cap)∧OwnV w' base 3 (.slice (some ⟨g,0,none⟩) (i+m) cap) (L.eraseIdx i)∧Below base w w':=by
 obtain ⟨i0,hi0,hz0,hz1,hz2⟩:=info_parts infoInt;obtain ⟨news,hnews⟩:∃ news,news=(L.drop (i+1)).map (Value.int .i64):=⟨_,rfl⟩;have hlen:news.length=m:=by rw [hnews]; simp; omega
 have hget:∀ t,t<m→news[t]?=some (.int .i64 (nth L (i+1+t))):=by
  intro t ht;rw [hnews,List.getElem?_map,List.getElem?_drop,List.getElem?_eq_getElem (by omega),nth_get _ _ (by omega)];rfl
 obtain ⟨A,hA,hsrc⟩:∃ A:Addr,(if cap=i+1 then some (⟨g,0,none⟩:Addr) else some ⟨g,i+1,none⟩)=some A∧Hid (∀ t u,news[t]?=some u→w.drew.cell? (A.add t)=some u):=by
  by_cases hci:cap=i+1
  ·refine ⟨⟨g,0,none⟩,by simp [hci],fun t u hu => ?_⟩
   have h0:news.length=0:=by rw [hlen]; omega
   rw [List.length_eq_zero_iff.1 h0] at hu;simp at hu
  ·refine ⟨⟨g,i+1,none⟩,by simp [hci],fun t u hu => ?_⟩
   have ht:t<m:=by
    have:=(List.getElem?_eq_some_iff.1 hu).1;rwa [hlen] at this
   rw [hget t ht] at hu;rw [Addr.add_lit];exact (h.drew.cell (by omega)).trans hu
 have s1:Hid (news.length=m*1):=by rw [Nat.mul_one]; exact hlen
 have s2:Hid (∀ u ∈ news,u.oneCell'=true):=by
  intro u hu;rw [hnews] at hu;obtain ⟨x,_,rfl⟩:=List.mem_map.1 hu;rfl
 have s3:Hid (∀ t,t<news.length→(w.drew.cell? ⟨g,0+i*1+t,none⟩).isSome=true∧w.drew.frozen? ⟨g,0+i*1+t,none⟩=false):=by
  intro t ht;rw [hlen] at ht;rw [Nat.mul_one,Nat.zero_add];exact ⟨by rw [h.drew.cell (by omega)]; rfl,h.drew.frozen _⟩
 obtain ⟨W1,hW1⟩:∃ W1,W1=w.drew.setCells g (0+i*1) news:=⟨_,rfl⟩;have hO1:OwnI W1 base 3 g cap (layI L (0+i*1) (L.drop (i+1))):=by rw [hW1,hnews]; exact h.drew.setCells _ _
 have hB1:Below base w W1:=by rw [hW1]; exact below_setCells (below_drewN (Below.refl _ _) 1) h.blk.1 _ _
 have hcl:∀ ty,(Builtin.clear_ #[48] ty #[.slice (some ⟨g,i+m,none⟩) 1 (cap - (i+m))]).run Tryzx.prog W1 = .ok (.tuple #[]) (W1.setCells g (i+m) [.int .i64 0]) :=
  fun ty=>Lib.run_clear_slice W1 _ _ ty _ Tryzx.underlying48 zeroIntD rfl rfl g (i+m) 1 _ (by omega) (fun t ht=>by rw [hO1.cell (by rw [layI_len]; omega)]; rfl) (fun t ht=>hO1.frozen _)
 have HO2:Hid (OwnV (W1.setCells g (i+m) [.int .i64 0]) base 3 (.slice (some ⟨g,0,none⟩) (i+m) cap) (L.eraseIdx i)):=Lib.hid (by
  have h2:=(hO1.setCells [0] (i+m)).take (i+m) (by rw [layI_len,layI_len]; omega)
  rw [delL_eq L i m hl] at h2;have h3:=h2.toV;rwa [show (L.eraseIdx i).length=i+m by rw [List.length_eraseIdx_of_lt (by omega)]; omega] at h3)
 have HB2:Hid (Below base w (W1.setCells g (i+m) [.int .i64 0])):=Lib.hid (below_setCells hB1 h.blk.1 _ _);have hW:Hid (W1=w.drew.setCells g (0+i*1) news):=hW1;have hic:i≤cap:=by omega
 have hjc:i+1≤cap:=by omega
 have e1:i+1+m - (i+1)=m:=by omega
 have e2:i+1+m - (i+m)=1:=by omega
 have hp0:(0:Int)≤(i:Int)+1:=by omega
 have hp1:(i:Int)+1≤(i:Int)+1+(m:Int):=by omega
 have hp2:((i:Int)+1).toNat=i+1:=by omega
 have hne:((i:Int) == (i:Int)+1)=false:=by simp; omega
 clear hO1 hB1 hW1 hget hnews hlen h;go_enter Tryzx.func65,Tryz.ntmps65;go_wp2_with fail
 go_region_law (refine step_append_room rfl (.tmp 22) (.tmp 25) 48 rfl 3 i0 1 Tryzx.underlying48 hi0 hz1 g 0 i cap (by simp [Act.eval,Act.put]) A m (cap - (i+1)) news (by simp [Act.eval,Act.put]) s1.out hsrc.out s2.out (by omega) s3.out ?_; rw [← hW.out]);go_wp2;go_ret;exact ⟨rfl,HO2.out,HB2.out⟩
end X
end Go.Proofs.YtpblihmhpalkfaaGreat
