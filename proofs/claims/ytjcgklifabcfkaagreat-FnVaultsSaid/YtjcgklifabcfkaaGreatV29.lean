/-
  Texts that the law stands on, part 29.
-/
import Derived.Test.YtjcgklifabcfkaaGreatV28
set_option maxRecDepth 100000
set_option linter.unusedVariables false
set_option linter.unusedSimpArgs false
set_option maxHeartbeats 12800000
namespace Go.Proofs.YtjcgklifabcfkaaGreat
namespace X
open Go.RowKit
theorem drawVault_any (A:Option Addr) (n c:Nat) (zs:List Int) (w:World) (h:BytesAt w w.heap.size A n zs) (hn:n<=1048576) :
  Calls Tryzx.prog 13 #[.slice A n c] w (VPost w.heap.size w.heap.size w):=by
 have h0:BytesAt (w.alloc (.cells #[.slice none 0 0,.slice none 0 0] 31)) (w.alloc (.cells #[.slice none 0 0,.slice none 0 0] 31)).heap.size A n zs:=h.after (bnw _ _);have HB0:Hid (Below w.heap.size w (w.alloc (.cells #[.slice none 0 0,.slice none 0 0] 31))):=q_ (bnw _ _);have HV0:Hid (RowF (w.alloc (.cells #[.slice none 0 0,.slice none 0 0] 31)) w.heap.size 31 2 (pairV (.slice none 0 0) (.slice none 0 0))):=q_ (RowF.of_row (row_pair w _ _ _));go_enter Tryzx.func13,Tryz.ntmps13;go_wp2_with fail
 refine (l01New_any _ _ _ zs _ h0 hn).mono ?_;rintro e w1 ⟨g,rfl,hg,hc,hb1⟩;have hgl:g<w1.heap.size:=by
  obtain ⟨i,x,_,hcc⟩:=hc;exact RowF.lt hcc
 have h1:BytesAt w1 g A n zs:=(h0.below hb1).mono hg;have hgw:w.heap.size<g:=by simp at hg; omega
 have HB1:=q_ (HB0.out.trans (hb1.mono (by simp)));have HV1:=q_ (HV0.out.after hb1);clear hb1 h h0;go_wp2_with fail
 refine (l30Vault_any g _ _ _ zs _ h1 hn hc hgl).mono ?_;rintro e w2 ⟨gR,gL,k,cR,cL,csR,csL,L,M,rfl,hk,hR,hL,hG,hb2⟩;have HV2:=q_ (RowF.of_block HV1.out (hb2.block w.heap.size hgw));have HB2:=q_ (HB1.out.trans (hb2.mono (by omega)));have HR2:=q_ hR;have HL2:=q_ hL;have HG2:=q_ hG;clear hb2 h1 hc hR hL hG;have d0:w2.cell? ⟨w.heap.size,0,none⟩=some (.slice none 0 0):=HV2.out.cell (i:=0) (by omega);have d1:w2.cell? ⟨w.heap.size,1,none⟩=some (.slice none 0 0):=HV2.out.cell (i:=1) (by omega);have f0:=HV2.out.frozen 0;have f1:=HV2.out.frozen 1;have hs:=RowF.lt HV2.out;go_wp2;refine bodyPost_ret (v := .agg #[.slice (some ⟨gR,0,none⟩) k cR,.slice (some ⟨gL,0,none⟩) k cL]) (by simp [results,Tryz.results13,go_sem, *]) rfl ?_;exact ⟨gR,gL,k,cR,cL,csR,csL,L,M,rfl,hk,((HR2.out.setLow (by simp; omega) _).setLow (by simp; omega) _).weak (by omega),((HL2.out.setLow (by simp; omega) _).setLow (by simp; omega) _).weak (by omega),HG2.out,(HB2.out.setCell (by simp) _).setCell (by simp) _⟩
structure VtL (w wr:World) (X gR n cR gL cL:Nat) (L M:List (Nat × List Int)) (F:Value) (FL:List Int):Prop where
 box:Box2 wr X (.slice (some ⟨gR,0,none⟩) n cR) (.slice (some ⟨gL,0,none⟩) n cL)
 ribs:NestG wr gR 45 110 4 n L
 loads:NestG wr gL 46 77 3 n M
 fails:OwnV wr w.heap.size 3 F FL
 below:Below w.heap.size w wr
structure VtF (n:Nat) (L M:List (Nat × List Int)):Prop where
 lens:∀ i,i<n->(rowZ L i).length=rowN L i*4
 lensM:∀ i,i<n->(rowZ M i).length=rowN M i*3
 few:∀ i,i<n->rowN L i<=1048576
 fewM:∀ i,i<n->rowN M i<=1048576
 len:L.length=n
 lenM:M.length=n
 sh:ShareOk L M n
section
variable {w wr w' : World} {X gR n cR gL cL : Nat} {L M : List (Nat × List Int)} {F : Value} {FL : List Int}
theorem VtL.after (h:VtL w wr X gR n cR gL cL L M F FL) (hb:Below wr.heap.size wr w'):VtL w w' X gR n cR gL cL L M F FL :=
 ⟨h.box.after hb,h.ribs.after hb,h.loads.after hb,h.fails.below hb,below_then h.below hb⟩
theorem VtL.nR (h:VtL w wr X gR n cR gL cL L M F FL) (hf:VtF n L M):NestAt wr wr.heap.size 4 (some ⟨gR,0,none⟩) n L:=h.ribs.nestAt hf.len hf.lens hf.few
theorem VtL.nL (h:VtL w wr X gR n cR gL cL L M F FL) (hf:VtF n L M):NestAt wr wr.heap.size 3 (some ⟨gL,0,none⟩) n M:=h.loads.nestAt hf.lenM hf.lensM hf.fewM
end
theorem vts_len {L M:List (Nat × List Int)} {n:Nat} (h:ShareOk L M n):vsB L n M n=decide ((failZ L n M n).length=0):=by
 rw [vsB_t h.ok,failZ_t h.ok]
theorem vts_push {L M:List (Nat × List Int)} {n:Nat}:∃ x b,vpV L n M n = .tuple #[.int .i64 x,.bool b]/\b=vsB L n M n/\0<=x:=by
 cases h:vsB L n M n
 ·exact ⟨0,false,vpV_f h,rfl,by omega⟩
 ·exact ⟨_,true,vpV_t h,rfl,(pTo_bd (vsB_out h).2).1⟩
theorem fnVaults.walk (A:Option Addr) (n c:Nat) (zs:List Int) (w:World) (h:BytesAt w w.heap.size A n zs) :
  Calls Tryzx.prog 4 #[.slice A n c] w fun e w'=>e = .returned (.bool true)/\Below w.heap.size w w':=by
 by_cases hbig:(1048576:Int)<(n:Int)
 ·have HB:=q_ (show decide ((1048576:Int)<(n:Int))=true from decide_eq_true hbig)
  clear hbig h;go_enter Tryzx.func4,Tryz.ntmps4;go_wp2_with fail
  refine (big_any _ _ _ _).mono ?_;rw [HB.out];rintro e w1 ⟨rfl,rfl⟩;go_wp2;go_ret;exact ⟨rfl,Below.refl _ _⟩
 ·have HB:=q_ (show decide ((1048576:Int)<(n:Int))=false from decide_eq_false hbig)
  have hn:n<=1048576:=by omega
  have HBY:=q_ h;clear hbig h;go_enter Tryzx.func4,Tryz.ntmps4;go_wp2_with fail
  refine (big_any _ _ _ _).mono ?_;rw [HB.out];rintro e w1 ⟨rfl,rfl⟩;go_wp2_with fail
  refine (drawVault_any A n c zs _ HBY.out hn).mono ?_;rintro e w2 ⟨gR,gL,N,cR,cL,csR,csL,L,M,rfl,hN,hR,hL,hG,hb2⟩;have ba:Below w2.heap.size w2 (w2.alloc (.cells #[.slice (some ⟨gR,0,none⟩) N cR,.slice (some ⟨gL,0,none⟩) N cL] 31)):=bnw _ _;have HF:Hid (VtF N L M):=q_ (by
   have e1:∀ i,i<N->(rowZ L i).length=rowN L i*4:=fun i hi=>by obtain ⟨_,_,_,_,_,_,e⟩:=hR.row i hi; exact e
   have e2:∀ i,i<N->(rowZ M i).length=rowN M i*3:=fun i hi=>by obtain ⟨_,_,_,_,_,_,e⟩:=hL.row i hi; exact e
   exact ⟨e1,e2,fun i hi=>by have:=(archB_out (hG i hi).1).1; omega,fun i hi=>by have:=(hG i hi).2.1; omega,hR.len,hL.len,share_ok hN hG e2⟩)
  have HC3:Hid (VtL w (w2.alloc (.cells #[.slice (some ⟨gR,0,none⟩) N cR,.slice (some ⟨gL,0,none⟩) N cL] 31)) w2.heap.size gR N cR gL cL L M (.slice none 0 0) []):=q_ ⟨Box2.new _ _ _ _,(hR.nestG (by omega)).after ba,(hL.nestG (by omega)).after ba,OwnV.nil _ _ _,below_then hb2 ba⟩;have cx3:=HC3.out.box.1;have cy3:=HC3.out.box.2.1;have hN1:N<=3:=hN.2;have hN0:1<=N:=hN.1;have HSB:=q_ (HF.out.sh.sb);obtain ⟨X,hX⟩:∃ X,w2.heap.size=X:=⟨_,rfl⟩;rw [hX] at HC3 cx3 cy3;have HXE:=q_ hX;clear hR hL hG hb2 ba HBY HB hN;go_wp2_with fail
  refine (iFail_any _ _ _ L _ _ _ M _ (HC3.out.nR HF.out) (by omega) HF.out.few (HC3.out.nL HF.out) (by omega) HF.out.fewM).mono ?_;rintro e w4 ⟨v4,rfl,ho4,hb4⟩;have HC4:Hid (VtL w w4 X gR N cR gL cL L M v4 (failZ L N M N)):=q_ (by have h:=HC3.out.after hb4; exact ⟨h.box,h.ribs,h.loads,ho4.weakenN HC3.out.below.size,h.below⟩);obtain ⟨F4,l4,c4,rfl⟩:=ho4.sliceN;have HLN:=q_ ho4.len;clear hb4 ho4 HC3 cx3 cy3;have cx4:=HC4.out.box.1;have cy4:=HC4.out.box.2.1;obtain ⟨pv,pb,hpv,hpb,hp0⟩:=vts_push (L:=L) (M:=M) (n:=N);have HPV:=q_ hpv;have HPB:=q_ hpb;clear hpv hpb;go_wp2_with fail
  refine (iPush_any _ _ _ L _ _ _ M _ (HC4.out.nR HF.out) (by omega) HF.out.few (HC4.out.nL HF.out) (by omega) HF.out.fewM).mono ?_;rw [HPV.out];rintro e w5 ⟨rfl,hb5⟩;have HC5:=q_ (HC4.out.after hb5);clear hb5 HC4 cx4 cy4;go_wp2;go_loopw [7,8] (fun v7 v8 wr=>∃ k:Nat,k<=N/\v8 = .int .i64 k/\v7 = .int .i64 (vwTo L M k)/\Hid (VtL w wr X gR N cR gL cL L M (.slice F4 l4 c4) (failZ L N M N))) (fun _ v8 _=>N - (intOf v8).toNat)
  case atStart=>exact ⟨0,Nat.zero_le _,rfl,rfl,HC5⟩
  case round =>
   clear HC5;obtain ⟨k,hk,rfl,rfl,HC⟩:=hrel;have cx:=HC.out.box.1;have cy:=HC.out.box.2.1;by_cases hlt:k<N
   ·have ki:(k:Int)<(N:Int):=by omega
    have k0:(0:Int)<=(k:Int):=by omega
    have i1:IntKind.i64.wrap ((k:Int)+1)=(k:Int)+1:=iW (by omega);have hvb:=vwTo_bd L M k;have htb:=totV_bd L M k;have es:IntKind.i64.wrap (vwTo L M k+lfW (rowZ L k) (rowN L k) (rowZ M k) (rowN M k) ((rowN L k:Int) - 1))=vwTo L M (k+1):=IntWalk.i64_in (vwTo L M k+totV L M k) (by omega);obtain ⟨f,hf,hfr⟩:=HC.out.ribs;obtain ⟨f',hf',hfr'⟩:=HC.out.loads;obtain ⟨gi,ci,e1,_,_,e4⟩:=hfr k hlt;obtain ⟨gj,cj,u1,_,_,u4⟩:=hfr' k hlt;have x0:wr.cell? ⟨gR,k,none⟩=some (.slice (some ⟨gi,0,none⟩) (rowN L k) ci):=by rw [hf.cell hlt,e1]
    have y0:wr.cell? ⟨gL,k,none⟩=some (.slice (some ⟨gj,0,none⟩) (rowN M k) cj):=by rw [hf'.cell hlt,u1]
    have bl1:=RowF.lt hf;have bl2:=RowF.lt hf';have bl3:=HC.out.box.2.2;have HR3:=q_ (RowF.recs e4 (HF.out.lens k hlt));have HR4:=q_ (RowF.recs u4 (HF.out.lensM k hlt));have hrk:=HF.out.few k hlt;have hsk:=HF.out.fewM k hlt;have HHF:Hid (hasI (failZ L N M N) (k:Int) l4 = !(ribS L M k)):=q_ (by rw [HLN.out,failZ_t HF.out.sh.ok]; exact has_fail hlt);have HRS:Hid (decide (0<(thrN (rowZ L k) (rowN L k) (rowZ M k) (rowN M k):Int))=ribS L M k):=q_ rfl;have hl4:l4<=1048576:=by have:=failTo_len L M N; have:=HLN.out; rw [failZ_t HF.out.sh.ok] at this; omega
    clear hvb htb hf hfr hf' hfr' e1 u1 e4 u4;go_wp2;go_region_held3 (fun w'=>w'.cell? ⟨X,0,none⟩=some (.slice (some ⟨gR,0,none⟩) N cR)/\w'.cell? ⟨X,1,none⟩=some (.slice (some ⟨gL,0,none⟩) N cL)/\w'.cell? ⟨gR,k,none⟩=some (.slice (some ⟨gi,0,none⟩) (rowN L k) ci)/\w'.cell? ⟨gL,k,none⟩=some (.slice (some ⟨gj,0,none⟩) (rowN M k) cj)) (first | exact ⟨cx,cy,x0,y0⟩ | exact ⟨(hcc _ _ (by simp; omega)).trans cx,(hcc _ _ (by simp; omega)).trans cy,(hcc _ _ (by simp; omega)).trans x0,(hcc _ _ (by simp; omega)).trans y0⟩)
     ((go_at_call 16; refine (sTotalOf_any _ _ _ (rowZ L k) _ _ _ (rowZ M k) _ (by exact HR3.out.drewN 1) hrk (by exact HR4.out.drewN 1) hsk).mono ?_; rintro e w6 ⟨rfl,hb6⟩; obtain ⟨hcc,hff⟩:=bcell hb6))
    have hb6u:=below_undrew hb6;have HC6:=q_ (HC.out.after hb6u);have HR3:=q_ (HR3.out.after hb6u);have HR4:=q_ (HR4.out.after hb6u);have cx6:=HC6.out.box.1;have cy6:=HC6.out.box.2.1;have x6:w6.cell? ⟨gR,k,none⟩=some (.slice (some ⟨gi,0,none⟩) (rowN L k) ci):=(hcc _ _ (by simp; omega)).trans x0
    have y6:w6.cell? ⟨gL,k,none⟩=some (.slice (some ⟨gj,0,none⟩) (rowN M k) cj):=(hcc _ _ (by simp; omega)).trans y0
    have zl:wr.heap.size<=w6.heap.size:=hb6u.size;clear hcc hff hb6 hb6u cx cy x0 y0 HC;have HI6:Hid (IntsAt (w6.drewN 1) w6.heap.size F4 l4 (failZ L N M N)):=q_ HC6.out.fails.intsAt;go_wp2;go_region_held3 (fun w'=>w'.cell? ⟨X,0,none⟩=some (.slice (some ⟨gR,0,none⟩) N cR)/\w'.cell? ⟨X,1,none⟩=some (.slice (some ⟨gL,0,none⟩) N cL)/\w'.cell? ⟨gR,k,none⟩=some (.slice (some ⟨gi,0,none⟩) (rowN L k) ci)/\w'.cell? ⟨gL,k,none⟩=some (.slice (some ⟨gj,0,none⟩) (rowN M k) cj)) (first | exact ⟨cx6,cy6,x6,y6⟩ | exact ⟨(hcc _ _ (by simp; omega)).trans cx6,(hcc _ _ (by simp; omega)).trans cy6,(hcc _ _ (by simp; omega)).trans x6,(hcc _ _ (by simp; omega)).trans y6⟩)
     ((first | (go_at_call 17; refine (has_any _ _ _ (failZ L N M N) _ _ (by first | exact HI6.out | exact HC8.out.fails.intsAt) hl4).mono ?_; rw [HHF.out]; rintro e w7 ⟨rfl,rfl⟩) | (go_at_call 18; refine (sStd_any _ _ _ (rowZ L k) _ _ _ (rowZ M k) _ (by exact HR3.out.drewN 1) hrk (by exact HR4.out.drewN 1) hsk).mono ?_; rw [HRS.out]; rintro e w8 ⟨rfl,hb8⟩; obtain ⟨hcc,hff⟩:=bcell hb8; have HC8:=q_ (HC6.out.after (below_undrew hb8)))))
    have HC8:=q_ (HC6.out.after (below_undrew hb8));clear hb8 hcc hff cx6 cy6 x6 y6 HC6 HI6 HR3 HR4;cases hrs:ribS L M k
    ·go_wp2
     go_roundw
     case rel=>exact ⟨k+1,by omega,by go_num,by rfl,HC8⟩
     case measure=>simp [intOf]; omega
    ·go_wp2
     go_roundw
     case rel=>exact ⟨k+1,by omega,by go_num,by rfl,HC8⟩
     case measure=>simp [intOf]; omega
   ·obtain rfl:k=N:=by omega
    have hk3:1<=k/\k<=3:=⟨hN0,hN1⟩;have hvb:=vwTo_bd L M k;have hwq:=share_wq hk3;have hsh:=share_sh hk3;have HV1:Hid (vwI L k M k=vwTo L M k):=q_ (vwI_t HF.out.sh.ok);have HV2:Hid (vwI L k (shNew L M k 90 3) k=vwTo L M k+Int.tdiv 90 (k:Int)*(k:Int)):=q_ ((vwI_t HF.out.sh.ok2).trans HF.out.sh.sum);obtain ⟨V,hV⟩:∃ V,vwTo L M k=V:=⟨_,rfl⟩;obtain ⟨wq,hq⟩:∃ wq,Int.tdiv 90 (k:Int)=wq:=⟨_,rfl⟩;obtain ⟨SH,hS⟩:∃ SH,wq*(k:Int)=SH:=⟨_,rfl⟩;rw [hq,hS] at hsh;rw [hq] at hwq;rw [hV] at hvb HV1 ⊢;rw [hV,hq,hS] at HV2;have e5:IntKind.i64.wrap (Int.tdiv 90 (k:Int))=wq:=by rw [hq]; exact iW (by omega)
    have e6:IntKind.i64.wrap (wq*(k:Int))=SH:=by rw [hS]; exact iW (by omega)
    have e7:IntKind.i64.wrap (V+SH)=V+SH:=iW (by omega);have nz:¬ (k:Int)=0:=by omega
    have nz2:¬ k=0:=by omega
    have HOK:=q_ HF.out.sh.ok;have HOK2:=q_ HF.out.sh.ok2;have HFW:=q_ (show ∀ i,i<k->rowN (shNew L M k 90 3) i<=1048576 from fun i hi=>by have:=HF.out.sh.few i hi; omega)
    obtain ⟨b,hb⟩:∃ b,vsB L k M k=b:=⟨_,rfl⟩;have hl0:((l4:Int) == 0)=b:=by
     rw [vts_len HF.out.sh,<- HLN.out] at hb;rw [<- hb];by_cases h0:l4=0
     ·simp [h0]
     ·simp [h0]
    have HVS:=q_ hb;have hpb:pb=b:=HPB.out.trans hb;subst hpb;have tb:(pb == pb)=true:=by simp
    have tv:(V == V)=true:=by simp
    have tw:(V+SH == V+SH)=true:=by simp
    clear hV hq hS hb hvb hsh hwq HPB HPV hk3;go_wp2_with fail
    refine (iShareG_any gR k cR gL k cL L M 90 3 _ HC.out.ribs (by omega) HF.out.few HF.out.lens HF.out.len HC.out.loads (by omega) HF.out.fewM HF.out.lensM HF.out.lenM).mono ?_;rintro e w9 ⟨vR,vL,csR9,csL9,rfl,hgr,hgl,hb9⟩;rw [HF.out.sh.sm] at hgl;rw [HF.out.sh.sb];obtain ⟨A9,c9,rfl,_⟩:=hgr.cells.slice;obtain ⟨B9,d9,rfl,_⟩:=hgl.cells.slice;have ba:Below w9.heap.size w9 (w9.alloc (.cells #[.slice A9 k c9,.slice B9 k d9] 31)):=bnw _ _;have HC9:=q_ ((HC.out.after hb9).after ba);have HD9:=q_ (And.intro (Box2.new w9 (.slice A9 k c9) (.slice B9 k d9) 31) (And.intro ((hgr.nestAt HF.out.len).after ba) ((hgl.nestAt HF.out.sh.len).after ba)));clear hgr hgl hb9 ba HC cx cy;have cx9:=HC9.out.box.1;have cy9:=HC9.out.box.2.1;go_wp2;go_region
    have HC1:=q_ (HC9.out.after (w':=(w9.alloc (.cells #[.slice A9 k c9,.slice B9 k d9] 31)).drew) (below_dr3 (Below.refl _ _)));have HD1:=q_ (And.intro (HD9.out.1.after (w1:=(w9.alloc (.cells #[.slice A9 k c9,.slice B9 k d9] 31)).drew) (below_dr3 (Below.refl _ _))) (And.intro (HD9.out.2.1.after (w':=(w9.alloc (.cells #[.slice A9 k c9,.slice B9 k d9] 31)).drew) (below_dr3 (Below.refl _ _))) (HD9.out.2.2.after (w':=(w9.alloc (.cells #[.slice A9 k c9,.slice B9 k d9] 31)).drew) (below_dr3 (Below.refl _ _)))));clear HC9 HD9 cx9 cy9;generalize (w9.alloc (.cells #[.slice A9 k c9,.slice B9 k d9] 31)).drew=W1 at *
    have cx1:=HC1.out.box.1;have cy1:=HC1.out.box.2.1;have dx1:=HD1.out.1.1;have dy1:=HD1.out.1.2.1;go_wp2_with fail
    refine (iVaultOk_any _ _ _ L _ _ _ M _ (HC1.out.nR HF.out) (by omega) HF.out.few (HC1.out.nL HF.out) (by omega) HF.out.fewM).mono ?_;rw [HOK.out];rintro e w10 ⟨rfl,hb⟩;have HC10:=q_ (HC1.out.after hb);have HD10:=q_ (And.intro (HD1.out.1.after hb) (And.intro (HD1.out.2.1.after hb) (HD1.out.2.2.after hb)));clear hb HC1 HD1 cx1 cy1 dx1 dy1;have cx10:=HC10.out.box.1;have cy10:=HC10.out.box.2.1;have dx10:=HD10.out.1.1;have dy10:=HD10.out.1.2.1;go_wp2_with fail
    refine (iVs_any _ _ _ L _ _ _ M _ (HC10.out.nR HF.out) (by omega) HF.out.few (HC10.out.nL HF.out) (by omega) HF.out.fewM).mono ?_;rw [HVS.out];rintro e w11 ⟨rfl,hb⟩;have HC11:=q_ (HC10.out.after hb);have HD11:=q_ (And.intro (HD10.out.1.after hb) (And.intro (HD10.out.2.1.after hb) (HD10.out.2.2.after hb)));clear hb HC10 HD10 cx10 cy10 dx10 dy10;have cx11:=HC11.out.box.1;have cy11:=HC11.out.box.2.1;have dx11:=HD11.out.1.1;have dy11:=HD11.out.1.2.1;go_wp2_with fail
    refine (iVs_any _ _ _ L _ _ _ M _ (HC11.out.nR HF.out) (by omega) HF.out.few (HC11.out.nL HF.out) (by omega) HF.out.fewM).mono ?_;rw [HVS.out];rintro e w12 ⟨rfl,hb⟩;have HC12:=q_ (HC11.out.after hb);have HD12:=q_ (And.intro (HD11.out.1.after hb) (And.intro (HD11.out.2.1.after hb) (HD11.out.2.2.after hb)));clear hb HC11 HD11 cx11 cy11 dx11 dy11;have cx12:=HC12.out.box.1;have cy12:=HC12.out.box.2.1;have dx12:=HD12.out.1.1;have dy12:=HD12.out.1.2.1;go_wp2_with fail
    refine (iVaultWeight_any _ _ _ L _ _ _ M _ (HC12.out.nR HF.out) (by omega) HF.out.few (HC12.out.nL HF.out) (by omega) HF.out.fewM).mono ?_;rw [HV1.out];rintro e w13 ⟨rfl,hb⟩;have HC13:=q_ (HC12.out.after hb);have HD13:=q_ (And.intro (HD12.out.1.after hb) (And.intro (HD12.out.2.1.after hb) (HD12.out.2.2.after hb)));clear hb HC12 HD12 cx12 cy12 dx12 dy12;have cx13:=HC13.out.box.1;have cy13:=HC13.out.box.2.1;have dx13:=HD13.out.1.1;have dy13:=HD13.out.1.2.1;go_wp2_with fail
    refine (iVaultWeight_any _ _ _ L _ _ _ _ _ HD13.out.2.1 (by omega) HF.out.few HD13.out.2.2 (by omega) HFW.out).mono ?_;rw [HV2.out];rintro e w14 ⟨rfl,hb⟩;have HC14:=q_ (HC13.out.after hb);have HD14:=q_ (And.intro (HD13.out.1.after hb) (And.intro (HD13.out.2.1.after hb) (HD13.out.2.2.after hb)));clear hb HC13 HD13 cx13 cy13 dx13 dy13;have cx14:=HC14.out.box.1;have cy14:=HC14.out.box.2.1;have dx14:=HD14.out.1.1;have dy14:=HD14.out.1.2.1;go_wp2_with fail
    refine (iVaultOk_any _ _ _ L _ _ _ _ _ HD14.out.2.1 (by omega) HF.out.few HD14.out.2.2 (by omega) HFW.out).mono ?_;rw [HOK2.out];rintro e w15 ⟨rfl,hb⟩;have HC15:=q_ (HC14.out.after hb);have HD15:=q_ (And.intro (HD14.out.1.after hb) (And.intro (HD14.out.2.1.after hb) (HD14.out.2.2.after hb)));clear hb HC14 HD14 cx14 cy14 dx14 dy14;have cx15:=HC15.out.box.1;have cy15:=HC15.out.box.2.1;have dx15:=HD15.out.1.1;have dy15:=HD15.out.1.2.1;go_wp2;go_ret;exact ⟨rfl,HC15.out.below⟩
end X
end Go.Proofs.YtjcgklifabcfkaaGreat
