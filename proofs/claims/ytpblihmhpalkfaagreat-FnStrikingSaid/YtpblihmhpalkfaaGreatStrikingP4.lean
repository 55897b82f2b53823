/-
  Texts that the law stands on, part 4.
-/
import Derived.Test.YtpblihmhpalkfaaGreatStrikingP1
import Derived.Test.YtpblihmhpalkfaaGreatStrikingP2
import Derived.Test.YtpblihmhpalkfaaGreatStrikingP3
import Derived.Test.YtpblihmhpalkfaaGreatJ15
import Derived.Test.YtpblihmhpalkfaaGreatJ17
import Derived.Test.YtpblihmhpalkfaaGreatJ21
import Derived.WalkKit
import Derived.IntWalk
set_option maxRecDepth 100000
set_option linter.unusedVariables false
set_option linter.unusedSimpArgs false
namespace Go.Proofs.YtpblihmhpalkfaaGreat
namespace X
open Go.RowKit
theorem carried_ne {zs cs:List Int} {n q i j:Nat} (h:carriedB zs n cs q=true) (hi:i<q) (hj:j<q) (hij:j ≠ i):nth cs j ≠ nth cs i:=by
 have ha:=(carriedB_out h).2;rcases Nat.lt_or_ge i j with e | e
 ·have:=asc_lt ha e hj
  omega
 ·have:=asc_lt ha (show j<i by omega) hi
  omega
theorem carried_wo {zs cs:List Int} {n i:Nat} (h:carriedB zs n cs cs.length=true) (hi:i<cs.length):woL cs (nth cs i) cs.length=cs.eraseIdx i :=
 woL_erase hi (fun j hj hji=>carried_ne h hi hj hji)
def safeB (zs:List Int) (n:Nat) (cs:List Int) (k:Nat):Bool:=stgB zs n (cs.eraseIdx k) (cs.length - 1)
def safeL (zs:List Int) (n:Nat) (cs:List Int):List Int:=if carriedB zs n cs cs.length=true then pickL (safeB zs n cs) cs cs.length else []
theorem safeL_t {zs:List Int} {n:Nat} {cs:List Int} (h:carriedB zs n cs cs.length=true):safeL zs n cs=pickL (safeB zs n cs) cs cs.length:=by simp [safeL,h]
theorem safeL_f {zs:List Int} {n:Nat} {cs:List Int} (h:carriedB zs n cs cs.length=false):safeL zs n cs = []:=by simp [safeL,h]
def NumsPost (w:World) (L:List Int) (e:Ending) (w':World):Prop :=
 ∃ v,e = .returned v∧OwnV w' w.heap.size 3 v L∧Below w.heap.size w w'
theorem deleteI_at (g cap base i n m:Nat) (L:List Int) (w:World) (h:OwnI w base 3 g cap L) (hnm:n=i+1+m) (hl:L.length=n) (hcap:L.length≤cap∧cap≤9223372036854775807) (hn:L.length≤1048576) :
  Calls Tryzx.prog 65 #[.slice (some ⟨g,0,none⟩) n cap,.int .i64 i,.int .i64 ((i:Int)+1)] w fun e w'=>e = .returned (.slice (some ⟨g,0,none⟩) (i+m) cap)∧OwnV w' base 3 (.slice (some ⟨g,0,none⟩) (i+m) cap) (L.eraseIdx i)∧Below base w w':=by
 subst hnm;exact deleteI_any g cap base i m L w h hl hcap hn
theorem ownI_of {w:World} {base:Nat} {E:TypeId} {A:Option Addr} {q d:Nat} {xs:List Int} (h:OwnV w base E (.slice A q d) xs) (hx:0<xs.length):∃ g,(.slice A q d:Value) = .slice (some ⟨g,0,none⟩) xs.length d∧Hid (OwnI w base E g d xs):=by
 rcases h.form with ⟨_,e⟩ | ⟨g,cap,e,ho⟩
 ·rw [e] at hx; simp at hx
 ·simp at e
  obtain ⟨rfl,rfl,rfl⟩:=e;exact ⟨g,rfl,ho⟩
section
variable (A : Option Addr) (n c : Nat) (zs : List Int) (B : Option Addr) (d : Nat) (cs : List Int) (w : World) (h : RecsAt w w.heap.size 4 A n zs) (hn : n ≤ 1048576) (hi : IntsAt w w.heap.size B cs.length cs) (hq : cs.length ≤ 1048576)
include h hn hi hq
set_option maxRecDepth 100000 in
set_option maxHeartbeats 3200000 in
theorem iSafe_any:Calls Tryzx.prog 22 #[.agg #[.slice A n c],.slice B cs.length d] w (NumsPost w (safeL zs n cs)):=by
 have HK0:Hid (Kept w (.slice A n c) (w.alloc (.cells #[.slice A n c] 26))):=Lib.hid (Kept.new w (.slice A n c) 26);have HH:=Lib.hid h;have HI:=Lib.hid hi;have cx0:=HK0.out.box.1;clear h hi;cases hC:carriedB zs n cs cs.length
 ·have HN:=Lib.hid (safeL_f hC)
  go_enter Tryzx.func22,Tryz.ntmps22;go_wp2_with fail
  refine (iCarriedOk_any _ _ _ zs _ _ _ cs _ (by exact HH.out.after HK0.out.below) hn (by exact HI.out.after HK0.out.below) hq).mono ?_;rw [hC];rintro e w1 ⟨rfl,hb1⟩;have HK1:=Lib.hid (HK0.out.after hb1);clear hb1 cx0;go_wp2;go_ret;exact ⟨_,rfl,by rw [HN.out]; exact OwnV.nil _ _ _,HK1.out.below⟩
 ·have HN:=Lib.hid (safeL_t hC)
  go_enter Tryzx.func22,Tryz.ntmps22;go_wp2_with fail
  refine (iCarriedOk_any _ _ _ zs _ _ _ cs _ (by exact HH.out.after HK0.out.below) hn (by exact HI.out.after HK0.out.below) hq).mono ?_;rw [hC];rintro e w1 ⟨rfl,hb1⟩;have HK1:=Lib.hid (HK0.out.after hb1);clear hb1 cx0 HK0;go_wp2;go_loopw [5,14] (fun v5 v14 wr=>∃ k:Nat,v14 = .int .i64 k∧k≤cs.length∧Hid (OwnV wr (w.heap.size+1) 3 v5 (pickL (safeB zs n cs) cs k))∧Hid (Kept w (.slice A n c) wr)) (fun _ v14 _=>cs.length - (intOf v14).toNat)
  case atStart=>exact ⟨0,rfl,Nat.zero_le _,Lib.hid (OwnV.nil _ _ _),HK1⟩
  case round =>
   clear HK1;obtain ⟨k,rfl,hk,HO,HK⟩:=hrel;by_cases hlt:k<cs.length
   ·have i1:IntKind.i64.wrap ((k:Int)+1)=(k:Int)+1:=IntWalk.i64_in _ (by omega)
    have i3:(k:Int)<(cs.length:Int):=by omega
    have hpl:=pickL_len (safeB zs n cs) cs k;have HE:Hid ((cs.eraseIdx k).length=cs.length - 1):=Lib.hid (List.length_eraseIdx_of_lt hlt);have hbox:=HK.out.box.1;have HIA:=Lib.hid (HI.out.after HK.out.below);obtain ⟨b,off,rfl,hbB,hc⟩:=HIA.out.2 (by omega);have HC:=Lib.hid hc;have hck:=hc k hlt;clear hc;go_wp2_with fail
    go_region_held3 (fun w'=>w'.cell? ⟨w.heap.size,0,none⟩=some (.slice A n c)) (first | exact hbox | exact HK2.out.box.1 | exact HK3.out.box.1 | exact HK4.out.box.1) ((first | (go_at_call 66; refine (cloneI_any b off cs.length d cs _ (by exact hbB) (by exact HC.out) rfl hq).mono ?_; rintro e w2 ⟨A2,q2,d2,rfl,ho2,hbx⟩; have hb2:=below_undrew hbx; have HK2:=Lib.hid (HK.out.after hb2); have HO2:=Lib.hid (HO.out.afterN hb2); obtain ⟨g2,hg2,HG2⟩:∃ g2,(.slice A2 q2 d2:Value) = .slice (some ⟨g2,0,none⟩) cs.length d2∧Hid (OwnI w2 wr.heap.size 3 g2 d2 cs):=ownI_of ho2 (by omega); cases hg2) | (go_at_call 65; refine (deleteI_at g2 d2 wr.heap.size k cs.length (cs.length - 1 - k) cs _ (by exact HG2.out) (by omega) rfl (by exact HG2.out.toV.capN) hq).mono ?_; rintro e w3 ⟨rfl,ho3,hb3⟩; have hbb:=hb2.trans hb3; have HK3:=Lib.hid (HK.out.after hbb); have HO3:=Lib.hid (HO.out.afterN hbb); have l3:=ho3.intsAt) | (go_at_call 64; refine (iStageStands_any _ _ _ zs _ _ _ (cs.eraseIdx k) _ (by exact HH.out.after HK3.out.below) hn (by exact l3) (by omega)).mono ?_; rintro e w4 ⟨rfl,hb4⟩; have HK4:=Lib.hid (HK3.out.after hb4); have HO4:=Lib.hid (HO3.out.afterN hb4))));have hs:stgB zs n (cs.eraseIdx k) (k+(cs.length - 1 - k))=safeB zs n cs k:=by rw [show k+(cs.length - 1 - k)=cs.length - 1 by omega]; rfl
    rw [hs];clear hb2 hbx hb3 hbb hb4 ho2 ho3 hbox hck l3 HO2 HO3 hs HIA HK2 HK3 HG2 HC HO HK;cases hb:safeB zs n cs k
    ·have HU:=Lib.hid (pickL_no hb (cs:=cs))
     go_wp2;go_roundw
     case rel=>exact ⟨k+1,by go_num,by omega,by rw [HU.out]; exact HO4,HK4⟩
     case measure=>simp [intOf]; omega
    ·have HU:=Lib.hid (pickL_yes hb (cs:=cs))
     go_wp2_with (at_builtin; refine wpList_append_int _ rfl (.tmp 27) (.tmp 29) 48 rfl (w.heap.size+1) 3 Tryzx.underlying48 infoInt _ (pickL (safeB zs n cs) cs k) rfl (HO4.out.alloc _) _ _ (nth cs k) rfl (cell_new1 _ _ _) (by omega) (by have:=HK4.out.lt; simp; omega) ?_; intro g' cap' w5 hown5 hgr5);have HK5:=Lib.hid (HK4.out.own HO4.out hgr5);have hv5:=hown5.toV;rw [List.length_append,← HU.out] at hv5;go_wp2;go_roundw
     case rel=>exact ⟨k+1,by go_num,by omega,Lib.hid hv5,HK5⟩
     case measure=>simp [intOf]; omega
   ·obtain rfl:k=cs.length:=by omega
    go_wp2;go_ret;exact ⟨_,rfl,by rw [HN.out]; exact HO.out.weakenN (Nat.le_succ _),HK.out.below⟩
end
section
variable (A : Option Addr) (n c : Nat) (zs : List Int) (B : Option Addr) (q d : Nat) (cs : List Int) (w : World) (h : RecsAt w w.heap.size 4 A n zs) (hn : n ≤ 1048576) (hi : IntsAt w w.heap.size B q cs) (hq : q ≤ 1048576)
include h hn hi hq
theorem iSafe_at:Calls Tryzx.prog 22 #[.agg #[.slice A n c],.slice B q d] w (NumsPost w (safeL zs n cs)):=by
 obtain rfl:=hi.1;exact iSafe_any A n c zs B d cs w h hn hi hq
end
theorem safeL_len (zs:List Int) (n:Nat) (cs:List Int):(safeL zs n cs).length≤cs.length:=by
 cases h:carriedB zs n cs cs.length
 ·rw [safeL_f h]; simp
 ·rw [safeL_t h]; exact pickL_len _ _ _
end X
namespace X
open Go.RowKit
def strkB (zs:List Int) (n:Nat) (os:List Int):Bool:=strikeB (setB zs n) os (cstN zs n)
section
variable (A : Option Addr) (n c : Nat) (zs : List Int) (B : Option Addr) (d : Nat) (os : List Int) (w : World) (h : RecsAt w w.heap.size 4 A n zs) (hn : n ≤ 1048576) (hi : IntsAt w w.heap.size B os.length os) (hq : os.length ≤ 1048576)
include h hn hi hq
set_option maxRecDepth 100000 in
set_option maxHeartbeats 3200000 in
theorem iStrk_any:Calls Tryzx.prog 23 #[.agg #[.slice A n c],.slice B os.length d] w fun e w'=>e = .returned (.bool (strkB zs n os))∧Below w.heap.size w w':=by
 have HK0:Hid (Kept w (.slice A n c) (w.alloc (.cells #[.slice A n c] 26))):=Lib.hid (Kept.new w (.slice A n c) 26);have HH:=Lib.hid h;have HI:=Lib.hid hi;have cx0:=HK0.out.box.1;clear h hi;have hm7:=cstN_le zs n;have HS:Hid (∀ s,setB zs n s=stgB zs n (setL s (cstN zs n)) (setL s (cstN zs n)).length):=Lib.hid (fun s=>rfl);have HF:Hid (strkB zs n os=strikeB (setB zs n) os (cstN zs n)):=rfl;obtain ⟨m,hm⟩:∃ m,cstN zs n=m:=⟨_,rfl⟩;rw [hm] at HS HF hm7;by_cases h0:0<m
 ·have z0:((m:Int) == 0)=false:=by simp; omega
  go_enter Tryzx.func23,Tryz.ntmps23;go_wp2_with fail
  refine (iCst_any _ _ _ zs _ (by exact HH.out.after HK0.out.below) hn).mono ?_;rw [hm];rintro e w1 ⟨rfl,hb1⟩;have HK1:=Lib.hid (HK0.out.after hb1);clear hb1 cx0 HK0;go_wp2_with fail
  refine (perm_any m hm7 _ _ os _ (by exact HI.out.after HK1.out.below) hq).mono ?_;cases hp:decide (os.length=m) && permK os m m
  ·have HN:Hid (strkB zs n os=false):=Lib.hid (by
    rw [HF.out];by_cases hl:os.length=m
    ·rw [decide_eq_true hl] at hp
     exact strike_perm hm7 (by simpa using hp)
    ·exact strike_1 hl)
   rintro e w2 ⟨rfl,hb2⟩;have HK2:=Lib.hid (HK1.out.after hb2);clear hb2 hp;go_wp2;go_ret;exact ⟨ret_bool HN.out.symm,HK2.out.below⟩
  ·rw [Bool.and_eq_true,decide_eq_true_eq] at hp
   obtain ⟨hl,hpk⟩:=hp;have HP:=Lib.hid hpk;have HL:Hid (os.length=m):=hl;rintro e w2 ⟨rfl,hb2⟩;have HK2:=Lib.hid (HK1.out.after hb2);have hsh:=uwrap_p2 m hm7;have hp7:=p2_7 hm7;have hp1:=p2_pos m;have hsub:IntKind.u64.wrap (((p2 m:Nat):Int) - 1)=((p2 m - 1:Nat):Int):=by rw [u64_in _ (by omega)]; omega
   have cx2:=HK2.out.box.1;clear hb2 hpk hl HK1;have hfull:p2 m - 1<p2 m:=by omega
   obtain ⟨S0,hS0⟩:∃ S0,p2 m - 1=S0:=⟨_,rfl⟩;rw [hS0] at hsub hfull;have HS0:Hid (seqS os m 0=S0):=Lib.hid (by rw [seqS]; exact hS0);go_wp2_with fail
   go_region_held3 (fun w'=>w'.cell? ⟨w.heap.size,0,none⟩=some (.slice A n c)) (first | exact cx2 | exact HK3.out.box.1 | exact HK4.out.box.1) ((first | (go_at_call 61; refine (iSet_any S0 m hfull hm7 _).mono ?_; rintro e w3 ⟨v3,rfl,ho3,hbx⟩; have hb3:=below_undrew hbx; obtain ⟨A3,q3,d3,rfl⟩:=ho3.sliceN; have HK3:=Lib.hid (HK2.out.after hb3); obtain rfl:=ho3.len; have l3:=ho3.intsAt; have hq3:=setL_len S0 m) | (go_at_call 64; refine (iStageStands_any _ _ _ zs _ _ _ (setL S0 m) _ (by exact HH.out.after HK3.out.below) hn (by exact l3) (by omega)).mono ?_; rintro e w4 ⟨rfl,hb4⟩; have HK4:=Lib.hid (HK3.out.after hb4))));have hs:=HS.out S0;rw [← hs];clear hs hb3 hbx hb4 ho3 cx2 l3 HK2 HK3 hsub hsh;cases hb:setB zs n S0
   ·have HN:Hid (strkB zs n os=false):=Lib.hid (by rw [HF.out]; exact strike_2 (by rw [hS0]; exact hb))
    go_wp2;go_ret;exact ⟨ret_bool HN.out.symm,HK4.out.below⟩
   ·have HFU:Hid (setB zs n (p2 m - 1)=true):=Lib.hid (by rw [hS0]; exact hb)
    clear hb;simp only [Bool.not_true];go_wp2;go_loopw [6,29] (fun v6 v29 wr=>∃ k S:Nat,v29 = .int .i64 k∧v6 = .int .u64 S∧k≤m∧S<p2 m∧Hid (seqS os m k=S)∧Hid (okI (setB zs n) os m k=true)∧Hid (Kept w (.slice A n c) wr)) (fun _ v29 _=>m - (intOf v29).toNat)
    case atStart=>exact ⟨0,S0,rfl,rfl,Nat.zero_le _,hfull,HS0,Lib.hid rfl,HK4⟩
    case round =>
     clear HK4 HS0 hfull;obtain ⟨k,S,rfl,rfl,hk,hSm,HQ,HOK,HK⟩:=hrel;by_cases hlt:k<m
     ·have i1:IntKind.i64.wrap ((k:Int)+1)=(k:Int)+1:=IntWalk.i64_in _ (by omega)
      have i3:(k:Int)<(os.length:Int):=by have:=HL.out; omega
      have i0:k<os.length:=by have:=HL.out; omega
      have hin:=inB_iff.1 (permK_in (permK_le (show k+1≤m by omega) HP.out));obtain ⟨j,hj⟩:=Int.eq_ofNat_of_zero_le hin.1;have hjm:j<m:=by omega
      obtain ⟨b,off,rfl,hbB,hc⟩:=HI.out.2 (by omega);have hck:wr.cell? ⟨b,off+k,none⟩=some (.int .i64 (j:Int)):=by rw [← hj]; exact (HK.out.below.cell (by exact hbB)).trans (hc k i0)
      have HQ1:Hid (seqS os m (k+1)=delB S j):=Lib.hid (by rw [seqS,HQ.out,hj]; rfl)
      have hdl:=delB_le S j;have hshj:=uwrap_p2 j (by omega);have handn:=delB_uint (s:=S) (z:=j) (by omega) (by omega);have j0:(0:Int)≤(j:Int):=by omega
      have cx1:=HK.out.box.1;obtain ⟨T,hT⟩:∃ T,delB S j=T:=⟨_,rfl⟩;rw [hT] at HQ1 hdl handn;have hTm:T<p2 m:=by omega
      clear hc hin hj hT;go_wp2_with fail
      go_region_held3 (fun w'=>w'.cell? ⟨w.heap.size,0,none⟩=some (.slice A n c)) (first | exact cx1 | exact HK3.out.box.1 | exact HK4.out.box.1) ((first | (go_at_call 61; refine (iSet_any T m hTm hm7 _).mono ?_; rintro e w3 ⟨v3,rfl,ho3,hbx⟩; have hb3:=below_undrew hbx; obtain ⟨A3,q3,d3,rfl⟩:=ho3.sliceN; have HK3:=Lib.hid (HK.out.after hb3); obtain rfl:=ho3.len; have l3:=ho3.intsAt; have hq3:=setL_len T m) | (go_at_call 64; refine (iStageStands_any _ _ _ zs _ _ _ (setL T m) _ (by exact HH.out.after HK3.out.below) hn (by exact l3) (by omega)).mono ?_; rintro e w4 ⟨rfl,hb4⟩; have HK4:=Lib.hid (HK3.out.after hb4))));have hs:=HS.out T;rw [← hs];clear hs hb3 hbx hb4 ho3 cx1 l3 HK3 hck hshj handn;cases hb:setB zs n T
      ·have HN:Hid (strkB zs n os=false):=Lib.hid (by rw [HF.out]; exact strike_3 (by rw [okS_I hm7 HP.out]; exact okI_bad hlt (by rw [HQ1.out]; exact hb)))
       go_wp2;go_ret;exact ⟨ret_bool HN.out.symm,HK4.out.below⟩
      ·have HOK1:Hid (okI (setB zs n) os m (k+1)=true):=Lib.hid (okI_on HOK.out (by rw [HQ1.out]; exact hb))
       go_wp2;go_roundw
       case rel=>exact ⟨k+1,T,by go_num,rfl,by omega,hTm,HQ1,HOK1,HK4⟩
       case measure=>simp [intOf]; omega
     ·obtain rfl:k=m:=by omega
      have i3:¬ (k:Int)<(os.length:Int):=by have:=HL.out; omega
      have HN:Hid (strkB zs n os=true):=Lib.hid (by rw [HF.out]; exact strike_t h0 HL.out HFU.out (by rw [okS_I hm7 HP.out]; exact HOK.out));go_wp2;go_ret;exact ⟨ret_bool HN.out.symm,HK.out.below⟩
 ·obtain rfl:m=0:=by omega
  have HN:Hid (strkB zs n os=false):=Lib.hid (by rw [HF.out]; exact strike_0 h0);go_enter Tryzx.func23,Tryz.ntmps23;go_wp2_with fail
  refine (iCst_any _ _ _ zs _ (by exact HH.out.after HK0.out.below) hn).mono ?_;rw [hm];rintro e w1 ⟨rfl,hb1⟩;have HK1:=Lib.hid (HK0.out.after hb1);clear hb1 cx0 HK0;go_wp2;go_ret;exact ⟨ret_bool HN.out.symm,HK1.out.below⟩
end
section
variable (A : Option Addr) (n c : Nat) (zs : List Int) (B : Option Addr) (q d : Nat) (cs : List Int) (w : World) (h : RecsAt w w.heap.size 4 A n zs) (hn : n ≤ 1048576) (hi : IntsAt w w.heap.size B q cs) (hq : q ≤ 1048576)
include h hn hi hq
theorem iStrk_at:Calls Tryzx.prog 23 #[.agg #[.slice A n c],.slice B q d] w fun e w'=>e = .returned (.bool (strkB zs n cs))∧Below w.heap.size w w':=by
 obtain rfl:=hi.1;exact iStrk_any A n c zs B d cs w h hn hi hq
end
end X
namespace X
open Go.RowKit
def trapB (zs:List Int) (n:Nat) (cs:List Int):Bool:=carriedB zs n cs cs.length && stgB zs n cs cs.length && decide (0<cs.length) && decide ((safeL zs n cs).length=0)
theorem trap_2 {zs cs:List Int} {n:Nat} (h:stgB zs n cs cs.length=false):trapB zs n cs=false:=by simp [trapB,h]
theorem trap_3 {zs cs:List Int} {n:Nat} (h:¬ 0<cs.length):trapB zs n cs=false:=by simp [trapB,show ¬ 0<cs.length from h]
theorem trap_4 {zs cs:List Int} {n:Nat} (h:carriedB zs n cs cs.length=true) (h2:stgB zs n cs cs.length=true) (h3:0<cs.length):trapB zs n cs=decide (((safeL zs n cs).length:Int)=0):=by
 rw [trapB,h,h2,decide_eq_true h3];simp only [Bool.true_and];exact decide_eq_decide.2 (by omega)
theorem stg_carried {zs cs:List Int} {n:Nat} (h:carriedB zs n cs cs.length=false):stgB zs n cs cs.length=false:=by
 have:stgN zs n cs cs.length=0:=by unfold stgN; rw [if_neg (by rw [h]; decide)]
 unfold stgB;rw [this];exact decide_eq_false (by unfold cornN; rw [cornL_f (cornB_2 (by decide))]; simp)
section
variable (A : Option Addr) (n c : Nat) (zs : List Int) (B : Option Addr) (d : Nat) (cs : List Int) (w : World) (h : RecsAt w w.heap.size 4 A n zs) (hn : n ≤ 1048576) (hi : IntsAt w w.heap.size B cs.length cs) (hq : cs.length ≤ 1048576)
include h hn hi hq
set_option maxRecDepth 100000 in
set_option maxHeartbeats 3200000 in
theorem iTrap_any:Calls Tryzx.prog 27 #[.agg #[.slice A n c],.slice B cs.length d] w fun e w'=>e = .returned (.bool (trapB zs n cs))∧Below w.heap.size w w':=by
 have HK0:Hid (Kept w (.slice A n c) (w.alloc (.cells #[.slice A n c] 26))):=Lib.hid (Kept.new w (.slice A n c) 26);have HH:=Lib.hid h;have HI:=Lib.hid hi;have cx0:=HK0.out.box.1;clear h hi;by_cases h0:0<cs.length
 ·have i0:(cs.length:Int) > 0:=by omega
  go_enter Tryzx.func27,Tryz.ntmps27;go_wp2_with fail
  refine (iStageStands_any _ _ _ zs _ _ _ cs _ (by exact HH.out.after HK0.out.below) hn (by exact HI.out.after HK0.out.below) hq).mono ?_;cases hS:stgB zs n cs cs.length
  ·have HN:=Lib.hid (trap_2 hS)
   rintro e w2 ⟨rfl,hb2⟩;have HK2:=Lib.hid (HK0.out.after hb2);clear hb2 cx0;go_wp2;go_ret;exact ⟨by rw [HN.out]; rfl,HK2.out.below⟩
  ·have hC:carriedB zs n cs cs.length=true:=by
    cases hC:carriedB zs n cs cs.length
    ·rw [stg_carried hC] at hS; cases hS
    ·rfl
   have HN:=Lib.hid (trap_4 hC hS h0);rintro e w2 ⟨rfl,hb2⟩;have HK2:=Lib.hid (HK0.out.after hb2);have cx2:=HK2.out.box.1;clear hb2 cx0 HK0 hC hS;go_wp2_with fail
   refine (iSafe_any _ _ _ zs _ _ cs _ (by exact HH.out.after HK2.out.below) hn (by exact HI.out.after HK2.out.below) hq).mono ?_;rintro e w3 ⟨v3,rfl,ho3,hb3⟩;have HK3:=Lib.hid (HK2.out.after hb3);obtain ⟨A3,q3,d3,rfl⟩:=ho3.sliceN;obtain rfl:=ho3.len;clear hb3 cx2 ho3;go_wp2;go_ret;exact ⟨by rw [HN.out]; rfl,HK3.out.below⟩
 ·have HN:=Lib.hid (trap_3 (zs:=zs) (n:=n) h0)
  have i0:¬ (cs.length:Int) > 0:=by omega
  go_enter Tryzx.func27,Tryz.ntmps27;go_wp2;go_ret;exact ⟨by rw [HN.out]; rfl,HK0.out.below⟩
end
section
variable (A : Option Addr) (n c : Nat) (zs : List Int) (B : Option Addr) (q d : Nat) (cs : List Int) (w : World) (h : RecsAt w w.heap.size 4 A n zs) (hn : n ≤ 1048576) (hi : IntsAt w w.heap.size B q cs) (hq : q ≤ 1048576)
include h hn hi hq
theorem iTrap_at:Calls Tryzx.prog 27 #[.agg #[.slice A n c],.slice B q d] w fun e w'=>e = .returned (.bool (trapB zs n cs))∧Below w.heap.size w w':=by
 obtain rfl:=hi.1;exact iTrap_any A n c zs B d cs w h hn hi hq
end
end X
namespace X
open Go.RowKit
def hasI (xs:List Int) (x:Int):Nat→Bool
 | 0=>false
 | k+1=>hasI xs x k || decide (nth xs k=x)
theorem hasI_iff (xs:List Int) (x:Int):∀ k,hasI xs x k=true ↔ ∃ i,i<k∧nth xs i=x
 | 0=>by simp [hasI]
 | k+1=>by
  simp only [hasI,Bool.or_eq_true,hasI_iff xs x k,decide_eq_true_eq];constructor
  ·rintro (⟨i,h1,h2⟩ | h)
   ·exact ⟨i,by omega,h2⟩
   ·exact ⟨k,by omega,h⟩
  ·rintro ⟨i,h1,h2⟩
   by_cases e:i=k
   ·subst e; exact .inr h2
   ·exact .inl ⟨i,by omega,h2⟩
set_option maxRecDepth 100000 in
set_option maxHeartbeats 1600000 in
theorem has_any (A:Option Addr) (n c:Nat) (xs:List Int) (x:Int) (w:World) (h:IntsAt w w.heap.size A n xs) (hn:n≤1048576) :
  Calls Tryzx.prog 25 #[.slice A n c,.int .i64 x] w fun e w'=>e = .returned (.bool (hasI xs x n))∧w=w':=by
 have H:=Lib.hid h;clear h;go_enter Tryzx.func25,Tryz.ntmps25;go_wp2;go_loopw [5] (fun v5 wr=>∃ k:Nat,v5 = .int .i64 k∧k≤n∧Hid (hasI xs x k=false)∧wr=w) (fun v5 _=>n - (intOf v5).toNat)
 case atStart=>exact ⟨0,rfl,Nat.zero_le _,Lib.hid rfl,rfl⟩
 case round =>
  obtain ⟨k,rfl,hk,HF,rfl⟩:=hrel;by_cases hlt:k<n
  ·obtain ⟨b,off,rfl,hbl,hc⟩:=H.out.2 (by omega)
   have x0:=hc k hlt;have ki:(k:Int)<(n:Int):=by omega
   have k0:(0:Int)≤(k:Int):=by omega
   have ek:IntKind.i64.wrap ((k:Int)+1)=(k:Int)+1:=IntWalk.i64_in _ (by omega);have HS:Hid (hasI xs x (k+1)=decide (nth xs k=x)):=Lib.hid (by simp [hasI,HF.out]);have HT:Hid (nth xs k=x→hasI xs x n=true):=Lib.hid (fun e=>(hasI_iff xs x n).2 ⟨k,hlt,e⟩);clear hc;generalize nth xs k=y at *
   by_cases e:y=x
   ·have HY:=Lib.hid (HT.out e)
    go_wp2;go_ret;exact ⟨ret_bool HY.out.symm,by first | rfl | trivial⟩
   ·have HN:Hid (hasI xs x (k+1)=false):=Lib.hid (by rw [HS.out]; exact decide_eq_false e)
    go_wp2;go_roundw
    case rel=>exact ⟨k+1,by go_num,by omega,HN,by first | rfl | trivial⟩
    case measure=>simp [intOf]; omega
  ·obtain rfl:n=k:=by omega
   have nn:¬ (n:Int)<(n:Int):=by omega
   go_wp2;go_ret;exact ⟨ret_bool HF.out.symm,by first | rfl | trivial⟩
end X
end Go.Proofs.YtpblihmhpalkfaaGreat
