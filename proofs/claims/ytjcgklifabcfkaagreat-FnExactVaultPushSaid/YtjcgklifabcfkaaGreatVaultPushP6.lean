/-
  Texts that the law stands on, part 6.
-/
import Derived.Test.YtjcgklifabcfkaaGreatVaultPushP2
import Derived.Test.YtjcgklifabcfkaaGreatVaultPushP5
set_option maxRecDepth 100000
set_option linter.unusedVariables false
set_option linter.unusedSimpArgs false
namespace Go.Proofs.YtjcgklifabcfkaaGreat
namespace X
open Go.RowKit
def ribS (L M:List (Nat × List Int)) (k:Nat):Bool:=decide (0<(thrN (rowZ L k) (rowN L k) (rowZ M k) (rowN M k):Int))
def failTo (L M:List (Nat × List Int)):Nat→List Int
 | 0 => []
 | k+1=>if ribS L M k=true then failTo L M k else failTo L M k ++ [(k:Int)]
def failZ (L:List (Nat × List Int)) (n:Nat) (M:List (Nat × List Int)) (q:Nat):List Int:=if vaultB L n M q=true then failTo L M n else []
theorem failZ_t {L:List (Nat × List Int)} {n:Nat} {M:List (Nat × List Int)} {q:Nat} (h:vaultB L n M q=true):failZ L n M q=failTo L M n:=by simp [failZ,h]
theorem failZ_f {L:List (Nat × List Int)} {n:Nat} {M:List (Nat × List Int)} {q:Nat} (h:vaultB L n M q=false):failZ L n M q = []:=by simp [failZ,h]
theorem failTo_t {L M:List (Nat × List Int)} {k:Nat} (h:ribS L M k=true):failTo L M (k+1)=failTo L M k:=by simp [failTo,h]
theorem failTo_f {L M:List (Nat × List Int)} {k:Nat} (h:ribS L M k=false):failTo L M (k+1)=failTo L M k ++ [(k:Int)]:=by simp [failTo,h]
theorem failTo_len (L M:List (Nat × List Int)):∀ k,(failTo L M k).length≤k
 | 0=>Nat.le_refl _
 | k+1=>by
  have:=failTo_len L M k;unfold failTo;split
  ·omega
  ·rw [List.length_append]; simp; omega
theorem failTo_all {L M:List (Nat × List Int)}:∀ {k:Nat},failTo L M k = []→∀ i,i<k→ribS L M i=true
 | 0,_,i,hi=>absurd hi (by omega)
 | k+1,h,i,hi=>by
  cases hk:ribS L M k
  ·rw [failTo_f hk] at h; simp at h
  ·rw [failTo_t hk] at h
   by_cases e:i=k
   ·rw [e]; exact hk
   ·exact failTo_all h i (by omega)
theorem failTo_none {L M:List (Nat × List Int)}:∀ {k:Nat},(∀ i,i<k→ribS L M i=true)→failTo L M k = []
 | 0,_=>rfl
 | k+1,h=>by rw [failTo_t (h k (by omega))]; exact failTo_none fun i hi=>h i (by omega)
def vsB (L:List (Nat × List Int)) (n:Nat) (M:List (Nat × List Int)) (q:Nat):Bool:=vaultB L n M q && decide ((failTo L M n).length=0)
theorem vsB_f {L:List (Nat × List Int)} {n:Nat} {M:List (Nat × List Int)} {q:Nat} (h:vaultB L n M q=false):vsB L n M q=false:=by simp [vsB,h]
theorem vsB_t {L:List (Nat × List Int)} {n:Nat} {M:List (Nat × List Int)} {q:Nat} (h:vaultB L n M q=true):vsB L n M q=decide ((failTo L M n).length=0):=by simp [vsB,h]
section
variable (A : Option Addr) (n c : Nat) (L : List (Nat × List Int)) (B : Option Addr) (q d : Nat) (M : List (Nat × List Int)) (w : World) (h : NestAt w w.heap.size 4 A n L) (hn : n ≤ 1048576) (hr : ∀ i, i < n → rowN L i ≤ 1048576) (hl : NestAt w w.heap.size 3 B q M) (hq : q ≤ 1048576) (hs : ∀ i, i < q → rowN M i ≤ 1048576)
include h hn hr hl hq hs
set_option maxRecDepth 100000 in
set_option maxHeartbeats 3200000 in
theorem sFail_any:Calls Tryzx.prog 22 #[.agg #[.slice A n c,.slice B q d]] w fun e w'=>∃ v,e = .returned v∧OwnV w' w.heap.size 3 v (failZ L n M q)∧Below w.heap.size w w':=by
 have hz0:(w.alloc (.cells #[.slice A n c,.slice B q d] 31)).heap.size=w.heap.size+1:=by simp
 have b0:Below w.heap.size w ((w.alloc (.cells #[.slice A n c,.slice B q d] 31)).alloc (.cells #[] 3)):=((Below.refl _ _).alloc (Nat.le_refl _) _).alloc (by simp) _;have bx0:Box2 ((w.alloc (.cells #[.slice A n c,.slice B q d] 31)).alloc (.cells #[] 3)) w.heap.size (.slice A n c) (.slice B q d):=(Box2.new w (.slice A n c) (.slice B q d) 31).after ((Below.refl _ _).alloc (Nat.le_refl _) _);have hO:OwnV ((w.alloc (.cells #[.slice A n c,.slice B q d] 31)).alloc (.cells #[] 3)) (w.heap.size+1) 3 (.slice (some ⟨w.heap.size+1,0,none⟩) 0 0) []:=by
  have:=(OwnI.new (w.alloc (.cells #[.slice A n c,.slice B q d] 31)) 3).toV;rw [hz0] at this;exact this
 have H:=Lib.hid h;have HL:=Lib.hid hl;have HR:=Lib.hid hr;have HS:=Lib.hid hs;have B0:=Lib.hid b0;have BX:=Lib.hid bx0;have HO:=Lib.hid hO;clear h hl b0 bx0 hO hz0;cases hB:vaultB L n M q
 ·have HF:=Lib.hid (failZ_f hB)
  go_enter Tryzx.func22,Tryz.ntmps22;go_wp2;go_loopw [3,4] (fun v3 v4 wr=>v4 = .int .i64 0∧Hid (OwnV wr (w.heap.size+1) 3 v3 [])∧Hid (Box2 wr w.heap.size (.slice A n c) (.slice B q d))∧Hid (Below w.heap.size w wr)) (fun _ i _=>n - (intOf i).toNat)
  case atStart=>exact ⟨rfl,HO,BX,B0⟩
  case round =>
   clear BX B0 HO;obtain ⟨rfl,HO,HX,HB⟩:=hrel;have cx0:=HX.out.1;have cx1:=HX.out.2.1;by_cases h0:n=0
   ·subst h0
    go_wp2;go_ret;exact ⟨_,rfl,by rw [HF.out]; exact HO.out.weakenN (by omega),HB.out⟩
   ·have hpos:(0:Int)<(n:Int):=by omega
    have hpos':0<n:=by omega
    have r1:=(H.out.below HB.out).mono HB.out.size;have r2:=(HL.out.below HB.out).mono HB.out.size;clear h0;go_wp2_with fail
    refine (sVaultOk_any _ _ _ L _ _ _ M _ r1 hn hr r2 hq hs).mono ?_;rw [hB];rintro e w1 ⟨rfl,hb1⟩;have HB1:=Lib.hid (HB.out.trans (hb1.mono HB.out.size));have HO1:=Lib.hid (HO.out.below hb1);clear hb1;go_wp2;go_ret;exact ⟨_,rfl,by rw [HF.out]; exact HO1.out.weakenN (by omega),HB1.out⟩
 ·have HT:=Lib.hid (failZ_t hB)
  obtain ⟨hn5,hqn,_⟩:=vaultB_out hB;subst hqn;go_enter Tryzx.func22,Tryz.ntmps22;go_wp2;go_loopw [3,4] (fun v3 v4 wr=>∃ k:Nat,k≤q∧v4 = .int .i64 k∧Hid (OwnV wr (w.heap.size+1) 3 v3 (failTo L M k))∧Hid (Box2 wr w.heap.size (.slice A q c) (.slice B q d))∧Hid (Below w.heap.size w wr)) (fun _ i _=>q - (intOf i).toNat)
  case atStart=>exact ⟨0,Nat.zero_le _,rfl,HO,BX,B0⟩
  case round =>
   clear BX B0 HO;obtain ⟨k,hk,rfl,HO,HX,HB⟩:=hrel;have cx0:=HX.out.1;have cx1:=HX.out.2.1;by_cases hlt:k<q
   ·have ki:(k:Int)<(q:Int):=by omega
    have k0:(0:Int)≤(k:Int):=by omega
    have i1:IntKind.i64.wrap ((k:Int)+1)=(k:Int)+1:=IntWalk.i64_in _ (by omega);have r1:=(H.out.below HB.out).mono HB.out.size;have r2:=(HL.out.below HB.out).mono HB.out.size;go_wp2_with fail
    refine (sVaultOk_any _ _ _ L _ _ _ M _ r1 hn hr r2 hq hs).mono ?_;rw [hB];rintro e W2 ⟨rfl,hb2⟩;have hb:=HB.out.trans (hb2.mono HB.out.size);have HB2:=Lib.hid hb;have HX2:=Lib.hid (HX.out.after hb2);have HO2:=Lib.hid (HO.out.below hb2);obtain ⟨b,off,rfl,hbB,hc⟩:=H.out.2 (by omega);obtain ⟨b',off',rfl,hbB',hc'⟩:=HL.out.2 (by omega);obtain ⟨Ak,ck,hx,hrec,_,_⟩:=hc k hlt;obtain ⟨Bk,dk,hy,hrec',_,_⟩:=hc' k hlt;have x0:W2.cell? ⟨b,off+k,none⟩=some (.slice Ak (rowN L k) ck):=(hb.cell (by exact hbB)).trans hx;have y0:W2.cell? ⟨b',off'+k,none⟩=some (.slice Bk (rowN M k) dk):=(hb.cell (by exact hbB')).trans hy;have HR3:=Lib.hid ((hrec.below hb).mono hb.size);have HR4:=Lib.hid ((hrec'.below hb).mono hb.size);have hrk:=HR.out k hlt;have hsk:=HS.out k hlt;have hz:=hb.size;have v0:=HX2.out.1;have v1:=HX2.out.2.1;have vl:=HX2.out.2.2;have bl1:b<W2.heap.size:=by omega
    have bl2:b'<W2.heap.size:=by omega
    have HKEEP:=Lib.hid (show ∀ w',Below W2.heap.size W2 w'→(w'.cell? ⟨w.heap.size,0,none⟩=some (.slice (some ⟨b,off,none⟩) q c)∧w'.cell? ⟨w.heap.size,1,none⟩=some (.slice (some ⟨b',off',none⟩) q d)∧w'.cell? ⟨b,off+k,none⟩=some (.slice Ak (rowN L k) ck)∧w'.cell? ⟨b',off'+k,none⟩=some (.slice Bk (rowN M k) dk)) from fun w' hw=>⟨(hw.cell (by exact vl)).trans v0,(hw.cell (by exact vl)).trans v1,(hw.cell (by exact bl1)).trans x0,(hw.cell (by exact bl2)).trans y0⟩);have HRS:Hid (decide (0<(thrN (rowZ L k) (rowN L k) (rowZ M k) (rowN M k):Int))=ribS L M k):=Lib.hid rfl;clear hc hc' hx hy hrec hrec' hb hb2 r1 r2 cx0 cx1 HX HO HB;go_wp2;go_region_held3 (fun w'=>w'.cell? ⟨w.heap.size,0,none⟩=some (.slice (some ⟨b,off,none⟩) q c)∧w'.cell? ⟨w.heap.size,1,none⟩=some (.slice (some ⟨b',off',none⟩) q d)∧w'.cell? ⟨b,off+k,none⟩=some (.slice Ak (rowN L k) ck)∧w'.cell? ⟨b',off'+k,none⟩=some (.slice Bk (rowN M k) dk)) (first | exact ⟨v0,v1,x0,y0⟩ | exact hk1)
     ((go_at_call 18; refine (sStd_any _ _ _ (rowZ L k) _ _ _ (rowZ M k) _ (by exact HR3.out.drewN 1) hrk (by exact HR4.out.drewN 1) hsk).mono ?_; rw [HRS.out]; rintro e w1 ⟨rfl,hbx⟩; have hb1:=below_undrew hbx; have HB1:=Lib.hid hb1; have hk1:=HKEEP.out w1 hb1))
    have HB3:=Lib.hid (HB2.out.trans (HB1.out.mono hz));have HX3:=Lib.hid (HX2.out.after HB1.out);have HO3:=Lib.hid (HO2.out.below HB1.out);clear hk1 hb1 hbx v0 v1 x0 y0 HKEEP HB1 HX2 HO2 HB2;cases hrs:ribS L M k
    ·have HE:=Lib.hid (failTo_f hrs)
     have hlen:=failTo_len L M k;obtain ⟨A3,l3,c3,rfl⟩:=HO3.out.sliceN;have hl3:=HO3.out.len;have hz3:=HB3.out.size;have hx3:=HX3.out.2.2;go_wp2_with (at_builtin; refine wpList_append_int _ rfl (.tmp 29) (.tmp 31) 38 rfl (w.heap.size+1) 3 Tryzx.underlying38 infoInt _ (failTo L M k) rfl (by exact HO3.out.alloc _) _ _ (k:Int) rfl (by exact cell_new1 _ _ _) (by omega) (by simp; omega) ?_; intro g' cap' w7 hown7 hgr7);have h7:=hown7.toV;rw [List.length_append,← HE.out] at h7;have hb7:=ownB_below (Below.refl (w.heap.size+1) _) (by first | omega | (simp; omega)) HO3.out (Nat.le_refl _) hgr7
     have HO7:Hid (OwnV w7 (w.heap.size+1) 3 (.slice (some ⟨g',0,none⟩) ((failTo L M k).length+1) cap') (failTo L M (k+1))):=Lib.hid h7;have HX7:Hid (Box2 w7 w.heap.size (.slice (some ⟨b,off,none⟩) q c) (.slice (some ⟨b',off',none⟩) q d)):=Lib.hid ⟨(hb7.cell (p:=⟨w.heap.size,0,none⟩) (Nat.lt_succ_self _)).trans HX3.out.1,(hb7.cell (p:=⟨w.heap.size,1,none⟩) (Nat.lt_succ_self _)).trans HX3.out.2.1,Nat.lt_of_lt_of_le HX3.out.2.2 hb7.size⟩;have HB7:=Lib.hid (HB3.out.trans (hb7.mono (Nat.le_succ _)));clear hown7 hgr7 hb7 h7 hx3;go_wp2;go_roundw
     case rel=>exact ⟨k+1,by omega,by go_num,HO7,HX7,HB7⟩
     case measure=>simp [intOf]; omega
    ·have HE:=Lib.hid (failTo_t hrs)
     have HO7:=Lib.hid (show OwnV _ _ _ _ (failTo L M (k+1)) by rw [HE.out]; exact HO3.out);go_wp2;go_roundw
     case rel=>exact ⟨k+1,by omega,by go_num,HO7,HX3,HB3⟩
     case measure=>simp [intOf]; omega
   ·obtain rfl:q=k:=by omega
    go_wp2;go_ret;exact ⟨_,rfl,by rw [HT.out]; exact HO.out.weakenN (by omega),HB.out⟩
set_option maxRecDepth 100000 in
set_option maxHeartbeats 3200000 in
theorem sVs_any:Calls Tryzx.prog 8 #[.agg #[.slice A n c,.slice B q d]] w fun e w'=>e = .returned (.bool (vsB L n M q))∧Below w.heap.size w w':=by
 have b0:Below w.heap.size w (w.alloc (.cells #[.slice A n c,.slice B q d] 31)):=(Below.refl _ _).alloc (Nat.le_refl _) _;have bx0:Box2 (w.alloc (.cells #[.slice A n c,.slice B q d] 31)) w.heap.size (.slice A n c) (.slice B q d):=Box2.new _ _ _ _;have h1:=h.after b0;have l1:=hl.after b0;go_enter Tryzx.func8,Tryz.ntmps8;go_wp2_with fail
 refine (sVaultOk_any _ _ _ L _ _ _ M _ h1 hn hr l1 hq hs).mono ?_;obtain ⟨vb,hvb⟩:∃ vb,vaultB L n M q=vb:=⟨_,rfl⟩;rw [hvb];rintro e w1 ⟨rfl,hb1⟩;have HB1:=Lib.hid (below_then b0 hb1);have HX1:=Lib.hid (bx0.after hb1);have H1:=Lib.hid (h1.after hb1);have L1:=Lib.hid (l1.after hb1);clear hb1 b0 bx0 h1 l1 h hl;cases vb
 ·have HF:=Lib.hid (vsB_f hvb)
  clear hvb;go_wp2;go_ret;exact ⟨by rw [HF.out]; rfl,HB1.out⟩
 ·have HT:=Lib.hid (vsB_t hvb)
  have HZ:=Lib.hid (failZ_t hvb);have cx0:=HX1.out.1;have cx1:=HX1.out.2.1;clear hvb;go_wp2_with fail
  refine (sFail_any _ _ _ L _ _ _ M _ H1.out hn hr L1.out hq hs).mono ?_;rintro e w2 ⟨v2,rfl,ho2,hb2⟩;obtain ⟨A2,l2,c2,rfl⟩:=ho2.sliceN;have hl2:=ho2.len;rw [HZ.out] at hl2;have HB2:=Lib.hid (below_then HB1.out hb2);have HL2:=Lib.hid hl2;clear ho2 hb2 hl2 cx0 cx1;by_cases h0:l2=0
  ·have e1:((l2:Int) == 0)=true:=by simp [h0]
   have HR2:Hid (decide ((failTo L M n).length=0)=true):=Lib.hid (decide_eq_true (by rw [← HL2.out]; exact h0));clear h0;go_wp2;go_ret;exact ⟨by rw [HT.out,HR2.out]; rfl,HB2.out⟩
  ·have e1:((l2:Int) == 0)=false:=by simp [h0]
   have HR2:Hid (decide ((failTo L M n).length=0)=false):=Lib.hid (decide_eq_false (by rw [← HL2.out]; exact h0));clear h0;go_wp2;go_ret;exact ⟨by rw [HT.out,HR2.out]; rfl,HB2.out⟩
end
end X
end Go.Proofs.YtjcgklifabcfkaaGreat
