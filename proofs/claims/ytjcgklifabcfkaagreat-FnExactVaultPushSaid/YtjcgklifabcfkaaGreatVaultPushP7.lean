/-
  Texts that the law stands on, part 7.
-/
import Derived.Test.YtjcgklifabcfkaaGreatVaultPushP2
import Derived.Test.YtjcgklifabcfkaaGreatVaultPushP6
import Derived.Deep.CutRange
set_option maxRecDepth 100000
set_option linter.unusedVariables false
set_option linter.unusedSimpArgs false
namespace Go.Proofs.YtjcgklifabcfkaaGreat
namespace X
open Go.RowKit
noncomputable def pushAt (L M:List (Nat × List Int)) (k:Nat):Int:=cdv (bstV (-1) (thrL (rowZ L k) (rowN L k) (rowZ M k) (rowN M k)) (thrN (rowZ L k) (rowN L k) (rowZ M k) (rowN M k) - 1) 0) (bstV (-1) (thrL (rowZ L k) (rowN L k) (rowZ M k) (rowN M k)) (thrN (rowZ L k) (rowN L k) (rowZ M k) (rowN M k) - 1) 3)
noncomputable def pTo (L M:List (Nat × List Int)):Nat→Int
 | 0=>0
 | k+1=>pTo L M k+pushAt L M k
noncomputable def vpV (L:List (Nat × List Int)) (n:Nat) (M:List (Nat × List Int)) (q:Nat):Value:=if vsB L n M q=true then .tuple #[.int .i64 (pTo L M n),.bool true] else .tuple #[.int .i64 0,.bool false]
theorem vpV_t {L:List (Nat × List Int)} {n:Nat} {M:List (Nat × List Int)} {q:Nat} (h:vsB L n M q=true):vpV L n M q = .tuple #[.int .i64 (pTo L M n),.bool true]:=by simp [vpV,h]
theorem vpV_f {L:List (Nat × List Int)} {n:Nat} {M:List (Nat × List Int)} {q:Nat} (h:vsB L n M q=false):vpV L n M q = .tuple #[.int .i64 0,.bool false]:=by simp [vpV,h]
theorem vpV_ex (L:List (Nat × List Int)) (n:Nat) (M:List (Nat × List Int)) (q:Nat):∃ x b,vpV L n M q = .tuple #[.int .i64 x,.bool b]:=by
 cases h:vsB L n M q
 ·exact ⟨0,false,vpV_f h⟩
 ·exact ⟨_,true,vpV_t h⟩
theorem vp_at {w w':World} {V v:Value} {e:Ending} (hE:V=v) (h:e = .returned V∧Below w.heap.size w w'):e = .returned v∧Below w.heap.size w w':=⟨h.1.trans (congrArg _ hE),h.2⟩
theorem vsB_k {L:List (Nat × List Int)} {n:Nat} {M:List (Nat × List Int)} {q k:Nat} (hk:k<n) (h:ribS L M k=false):vsB L n M q=false:=by
 cases e:vsB L n M q
 ·rfl
 ·simp only [vsB,Bool.and_eq_true,decide_eq_true_eq] at e
  have:=failTo_all (List.length_eq_zero_iff.1 e.2) k hk;rw [h] at this;cases this
theorem vsB_all {L:List (Nat × List Int)} {n:Nat} {M:List (Nat × List Int)} {q:Nat} (hv:vaultB L n M q=true) (h:∀ i,i<n→ribS L M i=true):vsB L n M q=true:=by
 simp [vsB,hv,failTo_none h]
theorem vsB_out {L:List (Nat × List Int)} {n:Nat} {M:List (Nat × List Int)} {q:Nat} (h:vsB L n M q=true):vaultB L n M q=true∧∀ i,i<n→ribS L M i=true:=by
 simp only [vsB,Bool.and_eq_true,decide_eq_true_eq] at h;exact ⟨h.1,failTo_all (List.length_eq_zero_iff.1 h.2)⟩
theorem tdiv_small {a g:Int} (h0:0≤a) (hg:1≤g):0≤a.tdiv g∧a.tdiv g≤a :=
 ⟨Int.tdiv_nonneg h0 (by omega),by rw [Int.tdiv_eq_ediv_of_nonneg h0]; exact Int.ediv_le_self _ h0⟩
structure PuF (L M:List (Nat × List Int)) (k:Nat) (H D:Int):Prop where
 h:0≤H∧H≤1000000000000
 d:1≤D∧D≤1000000
 p:pushAt L M k=cdv H D
theorem push_names {L M:List (Nat × List Int)} {k:Nat} (hs:ribS L M k=true):∃ H V U D,endV (lstB (rowZ L k) (rowN L k) (rowZ M k) (rowN M k)) (-1) (thrL (rowZ L k) (rowN L k) (rowZ M k) (rowN M k)) (thrN (rowZ L k) (rowN L k) (rowZ M k) (rowN M k)) = .tuple #[.agg #[.int .i64 H,.int .i64 V,.int .i64 U,.int .i64 D],.bool true]∧PuF L M k H D:=by
 have hT:0<thrN (rowZ L k) (rowN L k) (rowZ M k) (rowN M k):=by
  have:=of_decide_eq_true hs;omega
 have hl:lstB (rowZ L k) (rowN L k) (rowZ M k) (rowN M k)=true:=decide_eq_true hT;have ht:=thrB_out (bst_thr (rs:=rowsZ (rowZ L k) (rowN L k) (rowZ M k) (rowN M k)) (n:=rowsN (rowZ L k) (rowN L k) (rowZ M k) (rowN M k)) (-1) hT);exact ⟨_,_,_,_,endV_t hl _ _ _,⟨ht.2.1,ht.1,rfl⟩⟩
theorem push_none {L M:List (Nat × List Int)} {k:Nat} (hs:ribS L M k=false):endV (lstB (rowZ L k) (rowN L k) (rowZ M k) (rowN M k)) (-1) (thrL (rowZ L k) (rowN L k) (rowZ M k) (rowN M k)) (thrN (rowZ L k) (rowN L k) (rowZ M k) (rowN M k)) = .tuple #[.agg #[.int .i64 0,.int .i64 0,.int .i64 0,.int .i64 0],.bool false]:=by
 have hT:¬ 0<thrN (rowZ L k) (rowN L k) (rowZ M k) (rowN M k):=by
  have:=of_decide_eq_false hs;omega
 exact endV_f (show lstB (rowZ L k) (rowN L k) (rowZ M k) (rowN M k)=false from decide_eq_false hT) _ _ _
theorem PuF.bd {L M:List (Nat × List Int)} {k:Nat} {H D:Int} (h:PuF L M k H D):0≤pushAt L M k∧pushAt L M k≤2000000000000:=by
 rw [h.p];have:=tdiv_small (a:=H+D - 1) (g:=D) (by have:=h.h; have:=h.d; omega) h.d.1
 unfold cdv;have:=h.h;have:=h.d;omega
theorem pTo_bd {L M:List (Nat × List Int)}:∀ {k:Nat},(∀ i,i<k→ribS L M i=true)→0≤pTo L M k∧pTo L M k≤2000000000000*(k:Int)
 | 0,_=>by simp [pTo]
 | k+1,h=>by
  have ih:=pTo_bd (k:=k) fun i hi=>h i (by omega)
  obtain ⟨_,_,_,_,_,hF⟩:=push_names (h k (by omega));have:=hF.bd;simp only [pTo];omega
section
variable (A : Option Addr) (n c : Nat) (L : List (Nat × List Int)) (B : Option Addr) (q d : Nat) (M : List (Nat × List Int)) (w : World) (h : NestAt w w.heap.size 4 A n L) (hn : n ≤ 1048576) (hr : ∀ i, i < n → rowN L i ≤ 1048576) (hl : NestAt w w.heap.size 3 B q M) (hq : q ≤ 1048576) (hs : ∀ i, i < q → rowN M i ≤ 1048576)
include h hn hr hl hq hs
set_option maxRecDepth 100000 in
set_option maxHeartbeats 3200000 in
theorem iPush_any:Calls Tryzx.prog 15 #[.agg #[.slice A n c,.slice B q d]] w fun e w'=>e = .returned (vpV L n M q)∧Below w.heap.size w w':=by
 have b0:Below w.heap.size w (w.alloc (.cells #[.slice A n c,.slice B q d] 31)):=(Below.refl _ _).alloc (Nat.le_refl _) _;have bx0:Box2 (w.alloc (.cells #[.slice A n c,.slice B q d] 31)) w.heap.size (.slice A n c) (.slice B q d):=Box2.new _ _ _ _;have h1:=h.after b0;have l1:=hl.after b0;cases hB:vaultB L n M q
 ·have HF:=Lib.hid (vpV_f (vsB_f hB))
  go_enter Tryzx.func15,Tryz.ntmps15;go_wp2_with fail
  refine (iVaultOk_any _ _ _ L _ _ _ M _ h1 hn hr l1 hq hs).mono ?_;rw [hB];rintro e w1 ⟨rfl,hb1⟩;have HB1:=Lib.hid (below_then b0 hb1);clear hb1 b0 bx0 h1 l1 h hl hB;go_wp2;go_ret2;exact ⟨by rw [HF.out]; rfl,HB1.out⟩
 ·have HVB:=Lib.hid hB
  obtain ⟨hn5,hqn,_⟩:=vaultB_out hB;subst hqn;have H:=Lib.hid h;have HL:=Lib.hid hl;have HR:=Lib.hid hr;have HS:=Lib.hid hs;go_enter Tryzx.func15,Tryz.ntmps15;go_wp2_with fail
  refine (iVaultOk_any _ _ _ L _ _ _ M _ h1 hn hr l1 hq hs).mono ?_;rw [hB];rintro e W1 ⟨rfl,hb1⟩;have BX1:=bx0.after hb1;have B1:=Lib.hid (below_then b0 hb1);have cx0:=BX1.1;have cx1:=BX1.2.1;have BX:=Lib.hid BX1;clear hb1 b0 bx0 h1 l1 h hl hr hs hB BX1;go_wp2;go_loopw [4,15] (fun s i wr=>∃ k:Nat,k≤q∧i = .int .i64 k∧s = .int .i64 (pTo L M k)∧Hid (∀ j,j<k→ribS L M j=true)∧Hid (Box2 wr w.heap.size (.slice A q c) (.slice B q d))∧Hid (Below w.heap.size w wr)) (fun _ i _=>q - (intOf i).toNat)
  case atStart=>exact ⟨0,Nat.zero_le _,rfl,rfl,Lib.hid (fun j hj=>absurd hj (by omega)),BX,B1⟩
  case round =>
   clear BX B1 cx0 cx1;obtain ⟨k,hk,rfl,rfl,HALL,HX,HB⟩:=hrel;by_cases hlt:k<q
   ·have hb:=HB.out
    obtain ⟨b,off,rfl,hbB,hc⟩:=H.out.2 (by omega);obtain ⟨b',off',rfl,hbB',hc'⟩:=HL.out.2 (by omega);obtain ⟨Ak,ck,hx,hrec,_,_⟩:=hc k hlt;obtain ⟨Bk,dk,hy,hrec',_,_⟩:=hc' k hlt;have x0:wr.cell? ⟨b,off+k,none⟩=some (.slice Ak (rowN L k) ck):=(hb.cell (by exact hbB)).trans hx;have y0:wr.cell? ⟨b',off'+k,none⟩=some (.slice Bk (rowN M k) dk):=(hb.cell (by exact hbB')).trans hy;have hba:Below wr.heap.size wr (wr.alloc (.cells #[.slice Ak (rowN L k) ck] 45)):=(Below.refl _ _).alloc (Nat.le_refl _) _;have HR1:=Lib.hid (((hrec.below hb).mono hb.size).after hba);have HR2:=Lib.hid (((hrec'.below hb).mono hb.size).after hba);have hrk:=HR.out k hlt;have hsk:=HS.out k hlt;have hz:=hb.size;have ki:(k:Int)<(q:Int):=by omega
    have k0:(0:Int)≤(k:Int):=by omega
    have i1:IntKind.i64.wrap ((k:Int)+1)=(k:Int)+1:=IntWalk.i64_in _ (by omega);have HBA:=Lib.hid (hb.alloc hz (.cells #[.slice Ak (rowN L k) ck] 45));have HXA:=Lib.hid (HX.out.after hba);have bn:(wr.alloc (.cells #[.slice Ak (rowN L k) ck] 45)).cell? ⟨wr.heap.size,0,none⟩=some (.slice Ak (rowN L k) ck):=cell_new1 _ _ _;have v1:=HXA.out.2.1;have vl:=HXA.out.2.2;have ya:(wr.alloc (.cells #[.slice Ak (rowN L k) ck] 45)).cell? ⟨b',off'+k,none⟩=some (.slice Bk (rowN M k) dk):=(hba.cell (p:=⟨b',off'+k,none⟩) (by show b'<wr.heap.size; omega)).trans y0
    have cx0:=HX.out.1;have hb'l:b'<wr.heap.size:=by omega
    obtain ⟨wa,hwa⟩:∃ wa,wr.alloc (.cells #[.slice Ak (rowN L k) ck] 45)=wa:=⟨_,rfl⟩;have hwz:wa.heap.size=wr.heap.size+1:=by rw [← hwa]; simp
    have hwx:w.heap.size<wa.heap.size:=by omega
    have hbw:b'<wa.heap.size:=by omega
    have haw:wr.heap.size<wa.heap.size:=by omega
    have HKEEP:=Lib.hid (show ∀ w',Below wa.heap.size wa w'→(w'.cell? ⟨w.heap.size,1,none⟩=some (.slice (some ⟨b',off',none⟩) q d)∧w'.cell? ⟨b',off'+k,none⟩=some (.slice Bk (rowN M k) dk)∧w'.cell? ⟨wr.heap.size,0,none⟩=some (.slice Ak (rowN L k) ck)) from fun w' hw=>by
     rw [hwa] at v1 ya bn;exact ⟨(hw.cell (by exact hwx)).trans v1,(hw.cell (by exact hbw)).trans ya,(hw.cell (by exact haw)).trans bn⟩)
    obtain ⟨e0,e1,e2,e3,ok,hE⟩:=endV_ex (lstB (rowZ L k) (rowN L k) (rowZ M k) (rowN M k)) (-1) (thrL (rowZ L k) (rowN L k) (rowZ M k) (rowN M k)) (thrN (rowZ L k) (rowN L k) (rowZ M k) (rowN M k));have HE:=Lib.hid hE;clear hc hc' hx hy hrec hrec' hb hba hE vl;go_upto_region 7 with fail
    rw [hwa] at HR1 HR2 HBA HXA v1 ya bn;try rw [hwa]
    clear hwa;go_cut [7,8,15] from 15 to 39 (fun v7 v8 v15 wx=>(∃ g,v7 = .pointer (some ⟨g,0,none⟩)∧Hid (Box4 wx g e0 e1 e2 e3))∧v8 = .bool ok∧v15 = .int .i64 k∧Hid (Below wa.heap.size wa wx))
    case first =>
     refine wp_region_held_drew (S:=fun w'=>w'.cell? ⟨w.heap.size,1,none⟩=some (.slice (some ⟨b',off',none⟩) q d)∧w'.cell? ⟨b',off'+k,none⟩=some (.slice Bk (rowN M k) dk)∧w'.cell? ⟨wr.heap.size,0,none⟩=some (.slice Ak (rowN L k) ck)) (by kernel_rfl) (by exact ⟨v1,ya,bn⟩) (fun hHeld => ?_);refine take_heldS (i:=0) (d:=21) rfl rfl ?_;try simp only [Act.put,ly3]
     refine take_heldS (i:=1) (d:=22) rfl rfl ?_;try simp only [Act.put,ly3]
     refine take_heldS (i:=2) (d:=23) rfl rfl ?_;try simp only [Act.put,ly3]
     refine take_heldS (i:=3) (d:=24) rfl rfl ?_;try simp only [Act.put,ly3]
     refine take_heldS (i:=4) (d:=25) rfl rfl ?_;try simp only [Act.put,ly3]
     refine take_heldS (i:=5) (d:=26) rfl rfl ?_;try simp only [Act.put,ly3]
     refine wpAnyH_ready (rs := [6,10]) (by kernel_rfl) (by simp) ?_;refine AllReadyH.cons rfl (fun K hK => ?_) (AllReadyH.cons rfl (fun K hK => ?_) AllReadyH.nil)
     ·go_simp
      refine (iLst_any _ _ _ (rowZ L k) _ _ _ (rowZ M k) _ (by exact HR1.out.drewN 1) hrk (by exact HR2.out.drewN 1) hsk).mono ?_;rintro e w9 ⟨rfl,hbx⟩;rw [HE.out];have hb9:=below_undrew hbx;have HB9:=Lib.hid hb9;refine hK.out _ _ (by exact HKEEP.out w9 HB9.out) (fun hHeld => ?_);clear hK K hb9 hbx;try simp only [Act.put,ly3]
      refine take_heldS (i:=7) (d:=20) rfl rfl ?_;try simp only [Act.put,ly3]
      refine take_heldS (i:=8) (d:=28) rfl rfl ?_;try simp only [Act.put,ly3]
      refine take_heldS (i:=9) (d:=29) rfl rfl ?_;try simp only [Act.put,ly3]
      refine wpAnyH_ready (rs := [10]) (by kernel_rfl) (by simp) ?_;refine AllReadyH.cons rfl (fun K hK => ?_) AllReadyH.nil;go_simp
      have ba:=(Below.refl w9.heap.size w9).alloc (Nat.le_refl _) (.cells #[.int .i64 0,.int .i64 0,.int .i64 0,.int .i64 0] 66);have HAL:=Lib.hid (alloc_at w9 (.cells #[.int .i64 0,.int .i64 0,.int .i64 0,.int .i64 0] 66));have HBa:=Lib.hid (below_then HB9.out ba);clear ba;refine hK.out _ _ (by exact HKEEP.out _ HBa.out) (fun hHeld => ?_);clear hK K;try simp only [Act.put,ly3]
      refine wpAnyH_ready (rs := [11]) (by kernel_rfl) (by simp) ?_;refine AllReadyH.cons rfl (fun K hK => ?_) AllReadyH.nil;refine step_stRow rfl 66 (.tmp 7) (.tmp 28) rfl w9.heap.size #[.int .i64 e0,.int .i64 e1,.int .i64 e2,.int .i64 e3] rfl rfl 66 #[.int .i64 0,.int .i64 0,.int .i64 0,.int .i64 0] (by exact HAL.out) (by kernel_rfl) rfl (by simp [Value.oneCell']) ?_;intro wd O Y;have HY:=Lib.hid (box4_of Y);have HBd:=Lib.hid (HBa.out.trans (O.below (B:=wa.heap.size) HB9.out.size));clear O Y;refine hK.out _ _ (by exact HKEEP.out _ HBd.out) (fun hHeld => ?_);clear hK K;try simp only [Act.put,ly3]
      refine take_heldS (i:=12) (d:=8) rfl rfl ?_;try simp only [Act.put,ly3]
      refine wpAnyH_done (by kernel_rfl) ?_ _;go_wp2_with fail
      go_meet
      case rel=>exact ⟨⟨_,rfl,HY⟩,rfl,rfl,HBd⟩
     ·go_simp
      have ba:=(Below.refl wa.heap.size wa).alloc (Nat.le_refl _) (.cells #[.int .i64 0,.int .i64 0,.int .i64 0,.int .i64 0] 66);have HAL:=Lib.hid (alloc_at wa (.cells #[.int .i64 0,.int .i64 0,.int .i64 0,.int .i64 0] 66));have HBa:=Lib.hid ba;have HRa:=Lib.hid (HR1.out.after ba);have HRb:=Lib.hid (HR2.out.after ba);clear ba;refine hK.out _ _ (by first | exact HKEEP.out _ HBa.out | exact HKEEP.out _ (below_drewN HBa.out 1)) (fun hHeld => ?_);clear hK K;try simp only [Act.put,ly3]
      refine wpAnyH_ready (rs := [6]) (by kernel_rfl) (by simp) ?_;refine AllReadyH.cons rfl (fun K hK => ?_) AllReadyH.nil;go_simp
      refine (iLst_any _ _ _ (rowZ L k) _ _ _ (rowZ M k) _ (by exact HRa.out.drewN 1) hrk (by exact HRb.out.drewN 1) hsk).mono ?_;rintro e w9 ⟨rfl,hbx⟩;rw [HE.out];have hb9:=below_undrew hbx;have HB9:=Lib.hid (below_then HBa.out hb9);have HAM:=Lib.hid ((hb9.block wa.heap.size (by simp)).trans HAL.out);clear hb9 hbx;refine hK.out _ _ (by exact HKEEP.out _ HB9.out) (fun hHeld => ?_);clear hK K;try simp only [Act.put,ly3]
      refine take_heldS (i:=7) (d:=20) rfl rfl ?_;try simp only [Act.put,ly3]
      refine take_heldS (i:=8) (d:=28) rfl rfl ?_;try simp only [Act.put,ly3]
      refine take_heldS (i:=9) (d:=29) rfl rfl ?_;try simp only [Act.put,ly3]
      refine wpAnyH_ready (rs := [11]) (by kernel_rfl) (by simp) ?_;refine AllReadyH.cons rfl (fun K hK => ?_) AllReadyH.nil;refine step_stRow rfl 66 (.tmp 7) (.tmp 28) rfl wa.heap.size #[.int .i64 e0,.int .i64 e1,.int .i64 e2,.int .i64 e3] (congrArg (fun z=>Value.pointer (some ⟨z,0,none⟩)) hwz.symm) rfl 66 #[.int .i64 0,.int .i64 0,.int .i64 0,.int .i64 0] (by exact HAM.out) (by kernel_rfl) rfl (by simp [Value.oneCell']) ?_;intro wd O Y;have HY:=Lib.hid (box4_of Y);have HBd:=Lib.hid (HB9.out.trans (O.below (B:=wa.heap.size) (Nat.le_refl _)));clear O Y;refine hK.out _ _ (by exact HKEEP.out _ HBd.out) (fun hHeld => ?_);clear hK K;try simp only [Act.put,ly3]
      refine take_heldS (i:=12) (d:=8) rfl rfl ?_;try simp only [Act.put,ly3]
      refine wpAnyH_done (by kernel_rfl) ?_ _;go_wp2_with fail
      go_meet
      case rel=>exact ⟨⟨wa.heap.size,by rw [hwz],HY⟩,rfl,rfl,HBd⟩
    case rest =>
     clear v1 ya bn HKEEP x0 y0 cx0;obtain ⟨⟨g,rfl,HY⟩,rfl,rfl,HB9⟩:=hcut;have HBr:=Lib.hid (HBA.out.trans (HB9.out.mono (by omega)));have HXr:=Lib.hid (HXA.out.after HB9.out);have HE':=HE.out;cases hrs:ribS L M k
     ·have hN:=push_none hrs
      rw [hN] at HE';obtain ⟨_,_,_,_,rfl⟩:e0=0∧e1=0∧e2=0∧e3=0∧ok=false:=by
       simp at HE';obtain ⟨⟨h1,h2,h3,h4⟩,h5⟩:=HE';exact ⟨h1.symm,h2.symm,h3.symm,h4.symm,h5⟩
      have HF:=Lib.hid (vpV_f (vsB_k (q:=q) hlt hrs));clear hN HE' hrs;go_wp2;go_ret2;exact ⟨by rw [HF.out]; rfl,HBr.out⟩
     ·obtain ⟨H',V',U',D',hN,hF⟩:=push_names hrs
      rw [hN] at HE';obtain ⟨rfl,rfl,rfl,rfl,rfl⟩:H'=e0∧V'=e1∧U'=e2∧D'=e3∧true=ok:=by
       simp at HE';obtain ⟨⟨h1,h2,h3,h4⟩,h5⟩:=HE';exact ⟨h1,h2,h3,h4,h5.symm⟩
      have HFF:=Lib.hid hF;have HALL2:Hid (∀ j,j<k+1→ribS L M j=true):=Lib.hid (fun j hj=>by
       by_cases e:j=k
       ·rw [e]; exact hrs
       ·exact HALL.out j (by omega))
      have hbd:=pTo_bd HALL2.out;have es:IntKind.i64.wrap (pTo L M k+cdv H' D')=pTo L M (k+1):=by
       rw [← hF.p];exact IntWalk.i64_in (pTo L M (k+1)) (by omega)
      obtain ⟨z0,z1,z2,z3⟩:=HY.out.1;clear hN HE' hrs hF hbd;go_wp2_with fail
      refine (ceilV_any _ _ _ HFF.out.h HFF.out.d).mono ?_;rintro e w8 ⟨rfl,nd,rfl⟩;have HXz:=Lib.hid (show Box2 (World.drewN _ nd) _ _ _ from HXr.out);have HBz:=Lib.hid (below_drewN HBr.out nd);clear z0 z1 z2 z3 HXr HBr HY;go_wp2;go_roundw
      case rel=>exact ⟨k+1,by omega,by go_num,by rfl,HALL2,HXz,HBz⟩
      case measure=>simp [intOf]; omega
   ·obtain rfl:q=k:=by omega
    have HF:=Lib.hid (vpV_t (vsB_all HVB.out HALL.out));go_wp2;go_ret2;exact ⟨by rw [HF.out]; rfl,HB.out⟩
set_option maxRecDepth 100000 in
set_option maxHeartbeats 3200000 in
theorem sPush_any:Calls Tryzx.prog 27 #[.agg #[.slice A n c,.slice B q d]] w fun e w'=>e = .returned (vpV L n M q)∧Below w.heap.size w w':=by
 have b0:Below w.heap.size w (w.alloc (.cells #[.slice A n c,.slice B q d] 31)):=(Below.refl _ _).alloc (Nat.le_refl _) _;have bx0:Box2 (w.alloc (.cells #[.slice A n c,.slice B q d] 31)) w.heap.size (.slice A n c) (.slice B q d):=Box2.new _ _ _ _;have h1:=h.after b0;have l1:=hl.after b0;cases hB:vsB L n M q
 ·have HF:=Lib.hid (vpV_f hB)
  go_enter Tryzx.func27,Tryz.ntmps27;go_wp2_with fail
  refine (sVs_any _ _ _ L _ _ _ M _ h1 hn hr l1 hq hs).mono ?_;rw [hB];rintro e w1 ⟨rfl,hb1⟩;have HB1:=Lib.hid (below_then b0 hb1);clear hb1 b0 bx0 h1 l1 h hl hB;go_wp2;go_ret2;exact ⟨by rw [HF.out]; rfl,HB1.out⟩
 ·have HF:=Lib.hid (vpV_t hB)
  obtain ⟨hvb,hal⟩:=vsB_out hB;obtain ⟨hn5,hqn,_⟩:=vaultB_out hvb;subst hqn;have HALL:=Lib.hid hal;have H:=Lib.hid h;have HL:=Lib.hid hl;have HR:=Lib.hid hr;have HS:=Lib.hid hs;go_enter Tryzx.func27,Tryz.ntmps27;go_wp2_with fail
  refine (sVs_any _ _ _ L _ _ _ M _ h1 hn hr l1 hq hs).mono ?_;rw [hB];rintro e W1 ⟨rfl,hb1⟩;have BX1:=bx0.after hb1;have B1:=Lib.hid (below_then b0 hb1);have BX:=Lib.hid BX1;clear hb1 b0 bx0 h1 l1 h hl hr hs hB BX1 hvb hal;go_wp2;go_loopw [4,5] (fun s i wr=>∃ k:Nat,k≤q∧i = .int .i64 k∧s = .int .i64 (pTo L M k)∧Hid (Box2 wr w.heap.size (.slice A q c) (.slice B q d))∧Hid (Below w.heap.size w wr)) (fun _ i _=>q - (intOf i).toNat)
  case atStart=>exact ⟨0,Nat.zero_le _,rfl,rfl,BX,B1⟩
  case round =>
   clear BX B1;obtain ⟨k,hk,rfl,rfl,HX,HB⟩:=hrel;have cx0:=HX.out.1;have cx1:=HX.out.2.1;by_cases hlt:k<q
   ·have hb:=HB.out
    obtain ⟨b,off,rfl,hbB,hc⟩:=H.out.2 (by omega);obtain ⟨b',off',rfl,hbB',hc'⟩:=HL.out.2 (by omega);obtain ⟨Ak,ck,hx,hrec,_,_⟩:=hc k hlt;obtain ⟨Bk,dk,hy,hrec',_,_⟩:=hc' k hlt;have x0:wr.cell? ⟨b,off+k,none⟩=some (.slice Ak (rowN L k) ck):=(hb.cell (by exact hbB)).trans hx;have y0:wr.cell? ⟨b',off'+k,none⟩=some (.slice Bk (rowN M k) dk):=(hb.cell (by exact hbB')).trans hy;have HR1:=Lib.hid ((hrec.below hb).mono hb.size);have HR2:=Lib.hid ((hrec'.below hb).mono hb.size);have hrk:=HR.out k hlt;have hsk:=HS.out k hlt;have hz:=hb.size;have ki:(k:Int)<(q:Int):=by omega
    have k0:(0:Int)≤(k:Int):=by omega
    have i1:IntKind.i64.wrap ((k:Int)+1)=(k:Int)+1:=IntWalk.i64_in _ (by omega);have vl:=HX.out.2.2;have bl1:b<wr.heap.size:=by omega
    have bl2:b'<wr.heap.size:=by omega
    have HKEEP:=Lib.hid (show ∀ w',Below wr.heap.size wr w'→(w'.cell? ⟨w.heap.size,0,none⟩=some (.slice (some ⟨b,off,none⟩) q c)∧w'.cell? ⟨w.heap.size,1,none⟩=some (.slice (some ⟨b',off',none⟩) q d)∧w'.cell? ⟨b,off+k,none⟩=some (.slice Ak (rowN L k) ck)∧w'.cell? ⟨b',off'+k,none⟩=some (.slice Bk (rowN M k) dk)) from fun w' hw=>⟨(hw.cell (by exact vl)).trans cx0,(hw.cell (by exact vl)).trans cx1,(hw.cell (by exact bl1)).trans x0,(hw.cell (by exact bl2)).trans y0⟩);obtain ⟨H',V',U',D',hN,hF⟩:=push_names (HALL.out k hlt);have HE:=Lib.hid hN;have HFF:=Lib.hid hF;have HBD:=Lib.hid (pTo_bd (L:=L) (M:=M) (k:=k+1) fun i hi=>HALL.out i (by omega));clear hc hc' hx hy hrec hrec' hb hN hF vl;go_upto_region 7 with fail
    go_cut [6,7] from 11 to 42 (fun v6 v7 wx=>(∃ g,v6 = .pointer (some ⟨g,0,none⟩)∧Hid (Box4 wx g H' V' U' D'))∧v7 = .bool true∧Hid (Below wr.heap.size wr wx))
    case first =>
     refine wp_region_held_drew (S:=fun w'=>w'.cell? ⟨w.heap.size,0,none⟩=some (.slice (some ⟨b,off,none⟩) q c)∧w'.cell? ⟨w.heap.size,1,none⟩=some (.slice (some ⟨b',off',none⟩) q d)∧w'.cell? ⟨b,off+k,none⟩=some (.slice Ak (rowN L k) ck)∧w'.cell? ⟨b',off'+k,none⟩=some (.slice Bk (rowN M k) dk)) (by kernel_rfl) (by exact ⟨cx0,cx1,x0,y0⟩) (fun hHeld => ?_);refine take_heldS (i:=0) (d:=19) rfl rfl ?_;try simp only [Act.put,ly3]
     refine take_heldS (i:=1) (d:=20) rfl rfl ?_;try simp only [Act.put,ly3]
     refine take_heldS (i:=2) (d:=21) rfl rfl ?_;try simp only [Act.put,ly3]
     refine take_heldS (i:=3) (d:=22) rfl rfl ?_;try simp only [Act.put,ly3]
     refine take_heldS (i:=4) (d:=23) rfl rfl ?_;try simp only [Act.put,ly3]
     refine take_heldS (i:=5) (d:=24) rfl rfl ?_;try simp only [Act.put,ly3]
     refine take_heldS (i:=6) (d:=25) rfl rfl ?_;try simp only [Act.put,ly3]
     refine take_heldS (i:=7) (d:=26) rfl rfl ?_;try simp only [Act.put,ly3]
     refine take_heldS (i:=8) (d:=27) rfl rfl ?_;try simp only [Act.put,ly3]
     refine take_heldS (i:=9) (d:=28) rfl rfl ?_;try simp only [Act.put,ly3]
     refine wpAnyH_ready (rs := [10,14]) (by kernel_rfl) (by simp) ?_;refine AllReadyH.cons rfl (fun K hK => ?_) (AllReadyH.cons rfl (fun K hK => ?_) AllReadyH.nil)
     ·go_simp
      refine (sLst_any _ _ _ (rowZ L k) _ _ _ (rowZ M k) _ (by exact HR1.out.drewN 1) hrk (by exact HR2.out.drewN 1) hsk).mono ?_;rintro e w9 ⟨rfl,hbx⟩;rw [HE.out];have hb9:=below_undrew hbx;have HB9:=Lib.hid hb9;refine hK.out _ _ (by exact HKEEP.out w9 HB9.out) (fun hHeld => ?_);clear hK K hb9 hbx;try simp only [Act.put,ly3]
      refine take_heldS (i:=11) (d:=18) rfl rfl ?_;try simp only [Act.put,ly3]
      refine take_heldS (i:=12) (d:=30) rfl rfl ?_;try simp only [Act.put,ly3]
      refine take_heldS (i:=13) (d:=31) rfl rfl ?_;try simp only [Act.put,ly3]
      refine wpAnyH_ready (rs := [14]) (by kernel_rfl) (by simp) ?_;refine AllReadyH.cons rfl (fun K hK => ?_) AllReadyH.nil;go_simp
      have ba:=(Below.refl w9.heap.size w9).alloc (Nat.le_refl _) (.cells #[.int .i64 0,.int .i64 0,.int .i64 0,.int .i64 0] 66);have HAL:=Lib.hid (alloc_at w9 (.cells #[.int .i64 0,.int .i64 0,.int .i64 0,.int .i64 0] 66));have HBa:=Lib.hid (below_then HB9.out ba);clear ba;refine hK.out _ _ (by exact HKEEP.out _ HBa.out) (fun hHeld => ?_);clear hK K;try simp only [Act.put,ly3]
      refine wpAnyH_ready (rs := [15]) (by kernel_rfl) (by simp) ?_;refine AllReadyH.cons rfl (fun K hK => ?_) AllReadyH.nil;refine step_stRow rfl 66 (.tmp 6) (.tmp 30) rfl w9.heap.size #[.int .i64 H',.int .i64 V',.int .i64 U',.int .i64 D'] rfl rfl 66 #[.int .i64 0,.int .i64 0,.int .i64 0,.int .i64 0] (by exact HAL.out) (by kernel_rfl) rfl (by simp [Value.oneCell']) ?_;intro wd O Y;have HY:=Lib.hid (box4_of Y);have HBd:=Lib.hid (HBa.out.trans (O.below (B:=wr.heap.size) HB9.out.size));clear O Y;refine hK.out _ _ (by exact HKEEP.out _ HBd.out) (fun hHeld => ?_);clear hK K;try simp only [Act.put,ly3]
      refine take_heldS (i:=16) (d:=7) rfl rfl ?_;try simp only [Act.put,ly3]
      refine wpAnyH_done (by kernel_rfl) ?_ _;go_wp2_with fail
      go_meet
      case rel=>exact ⟨⟨_,rfl,HY⟩,rfl,HBd⟩
     ·go_simp
      have ba:=(Below.refl wr.heap.size wr).alloc (Nat.le_refl _) (.cells #[.int .i64 0,.int .i64 0,.int .i64 0,.int .i64 0] 66);have HAL:=Lib.hid (alloc_at wr (.cells #[.int .i64 0,.int .i64 0,.int .i64 0,.int .i64 0] 66));have HBa:=Lib.hid ba;have HRa:=Lib.hid (HR1.out.after ba);have HRb:=Lib.hid (HR2.out.after ba);clear ba;refine hK.out _ _ (by first | exact HKEEP.out _ HBa.out | exact HKEEP.out _ (below_drewN HBa.out 1)) (fun hHeld => ?_);clear hK K;try simp only [Act.put,ly3]
      refine wpAnyH_ready (rs := [10]) (by kernel_rfl) (by simp) ?_;refine AllReadyH.cons rfl (fun K hK => ?_) AllReadyH.nil;go_simp
      refine (sLst_any _ _ _ (rowZ L k) _ _ _ (rowZ M k) _ (by exact HRa.out.drewN 1) hrk (by exact HRb.out.drewN 1) hsk).mono ?_;rintro e w9 ⟨rfl,hbx⟩;rw [HE.out];have hb9:=below_undrew hbx;have HB9:=Lib.hid (below_then HBa.out hb9);have HAM:=Lib.hid ((hb9.block wr.heap.size (by simp)).trans HAL.out);clear hb9 hbx;refine hK.out _ _ (by exact HKEEP.out _ HB9.out) (fun hHeld => ?_);clear hK K;try simp only [Act.put,ly3]
      refine take_heldS (i:=11) (d:=18) rfl rfl ?_;try simp only [Act.put,ly3]
      refine take_heldS (i:=12) (d:=30) rfl rfl ?_;try simp only [Act.put,ly3]
      refine take_heldS (i:=13) (d:=31) rfl rfl ?_;try simp only [Act.put,ly3]
      refine wpAnyH_ready (rs := [15]) (by kernel_rfl) (by simp) ?_;refine AllReadyH.cons rfl (fun K hK => ?_) AllReadyH.nil;refine step_stRow rfl 66 (.tmp 6) (.tmp 30) rfl wr.heap.size #[.int .i64 H',.int .i64 V',.int .i64 U',.int .i64 D'] rfl rfl 66 #[.int .i64 0,.int .i64 0,.int .i64 0,.int .i64 0] (by exact HAM.out) (by kernel_rfl) rfl (by simp [Value.oneCell']) ?_;intro wd O Y;have HY:=Lib.hid (box4_of Y);have HBd:=Lib.hid (HB9.out.trans (O.below (B:=wr.heap.size) (Nat.le_refl _)));clear O Y;refine hK.out _ _ (by exact HKEEP.out _ HBd.out) (fun hHeld => ?_);clear hK K;try simp only [Act.put,ly3]
      refine take_heldS (i:=16) (d:=7) rfl rfl ?_;try simp only [Act.put,ly3]
      refine wpAnyH_done (by kernel_rfl) ?_ _;go_wp2_with fail
      go_meet
      case rel=>exact ⟨⟨_,rfl,HY⟩,rfl,HBd⟩
    case rest =>
     clear cx0 cx1 x0 y0 HKEEP;obtain ⟨⟨g,rfl,HY⟩,rfl,HB9⟩:=hcut;have HBr:=Lib.hid (HB.out.trans (HB9.out.mono hz));have HXr:=Lib.hid (HX.out.after HB9.out);obtain ⟨z0,z1,z2,z3⟩:=HY.out.1;have hh:=HFF.out.h;have hd:=HFF.out.d;have j1:IntKind.i64.wrap (H'+D')=H'+D':=IntWalk.i64_in _ (by omega);have j2:IntKind.i64.wrap (H'+D' - 1)=H'+D' - 1:=IntWalk.i64_in _ (by omega);have j3:IntKind.i64.wrap ((H'+D' - 1).tdiv D')=(H'+D' - 1).tdiv D':=cdv_ok (by omega) (by omega) hd.1;have g0:¬ D'=0:=by omega
     have g1:(D' == -1)=false:=by simp; omega
     have es:IntKind.i64.wrap (pTo L M k+(H'+D' - 1).tdiv D')=pTo L M (k+1):=by
      have e:=HFF.out.p;unfold cdv at e;rw [← e];exact IntWalk.i64_in (pTo L M (k+1)) (by have:=HBD.out; omega)
     clear hh hd;go_wp2;go_roundw
     case rel=>exact ⟨k+1,by omega,by go_num,by rfl,HXr,HBr⟩
     case measure=>simp [intOf]; omega
   ·obtain rfl:q=k:=by omega
    go_wp2;go_ret2;exact ⟨by rw [HF.out]; rfl,HB.out⟩
end
end X
end Go.Proofs.YtjcgklifabcfkaaGreat
