/-
  Texts that the law stands on, part 23.
-/
import Derived.Test.YtjcgklifabcfkaaGreatV22
import Derived.Lib.SliceRun
set_option maxRecDepth 100000
set_option linter.unusedVariables false
set_option linter.unusedSimpArgs false
set_option maxHeartbeats 12800000
namespace Go.Proofs.YtjcgklifabcfkaaGreat
namespace X
open Go.RowKit
def OwnPost (w:World) (E:TypeId) (K n:Nat) (zs:List Int) (e:Ending) (w':World):Prop :=
 ∃ g c,e = .returned (.slice (some ⟨g,0,none⟩) n c)/\OwnR w' w.heap.size E K (.slice (some ⟨g,0,none⟩) n c) n zs/\Below w.heap.size w w'
def OwnPost1 (w:World) (E:TypeId) (K n:Nat) (zs:List Int) (e:Ending) (w':World):Prop :=
 ∃ g c,e = .returned (.agg #[.slice (some ⟨g,0,none⟩) n c])/\OwnR w' w.heap.size E K (.slice (some ⟨g,0,none⟩) n c) n zs/\Below w.heap.size w w'
theorem cloneJ_any (g n c:Nat) (zs:List Int) (w:World) (hg:g<w.heap.size) (hc:∀ j,j<n*4->w.cell? ⟨g,j,none⟩=some (.int .i64 (nth zs j))) (hl:zs.length=n*4) (hn:n<=1048576) :
  Calls Tryzx.prog 98 #[.slice (some ⟨g,0,none⟩) n c] w (OwnPost w 110 4 n zs):=by
 have HC:=q_ (fun j hj=>(World.cell?_alloc_lt w (.cells #[] 110) ⟨g,j,none⟩ hg).trans (hc j hj));clear hc;have hnil:=Lib.run_eql_slice_nil (P:=Tryzx.prog) w 43 110 (some ⟨g,0,none⟩) n c 0 0 Tryzx.underlying43;go_enter Tryzx.func98,Tryz.ntmps98;go_wp2_with (at_builtin; refine wpList_appRX rfl (.tmp 5) (.tmp 6) 43 rfl w.heap.size 110 4 32 #[.int .i64 0,.int .i64 0,.int .i64 0,.int .i64 0] Tryzx.underlying43 infoJoint  rfl (by decide) (by decide) (.slice (some ⟨w.heap.size,0,none⟩) 0 0) 0 [] rfl (by exact OwnR.new w 110 4) g n c zs rfl hl (by exact HC.out) (by omega) (by simp) (by simp) ?_; intro g' cap' w3 hown3 har3);simp only [Nat.zero_add,List.nil_append] at hown3;have HO3:=q_ hown3;have HB3:=q_ (Below.trans ((Below.refl w.heap.size w).alloc (Nat.le_refl _) _) har3.below);go_ret;exact ⟨g',cap',by simp,by simpa using HO3.out,HB3.out⟩
theorem cloneL_any (g n c:Nat) (zs:List Int) (w:World) (hg:g<w.heap.size) (hc:∀ j,j<n*3->w.cell? ⟨g,j,none⟩=some (.int .i64 (nth zs j))) (hl:zs.length=n*3) (hn:n<=1048576) :
  Calls Tryzx.prog 71 #[.slice (some ⟨g,0,none⟩) n c] w (OwnPost w 77 3 n zs):=by
 have HC:=q_ (fun j hj=>(World.cell?_alloc_lt w (.cells #[] 77) ⟨g,j,none⟩ hg).trans (hc j hj));clear hc;have hnil:=Lib.run_eql_slice_nil (P:=Tryzx.prog) w 46 77 (some ⟨g,0,none⟩) n c 0 0 Tryzx.underlying46;go_enter Tryzx.func71,Tryz.ntmps71;go_wp2_with (at_builtin; refine wpList_appRX rfl (.tmp 5) (.tmp 6) 46 rfl w.heap.size 77 3 24 #[.int .i64 0,.int .i64 0,.int .i64 0] Tryzx.underlying46 infoLoad  rfl (by decide) (by decide) (.slice (some ⟨w.heap.size,0,none⟩) 0 0) 0 [] rfl (by exact OwnR.new w 77 3) g n c zs rfl hl (by exact HC.out) (by omega) (by simp) (by simp) ?_; intro g' cap' w3 hown3 har3);simp only [Nat.zero_add,List.nil_append] at hown3;have HO3:=q_ hown3;have HB3:=q_ (Below.trans ((Below.refl w.heap.size w).alloc (Nat.le_refl _) _) har3.below);go_ret;exact ⟨g',cap',by simp,by simpa using HO3.out,HB3.out⟩
theorem iCopyArch_any (g n c:Nat) (zs:List Int) (w:World) (hg:g<w.heap.size) (hc:∀ j,j<n*4->w.cell? ⟨g,j,none⟩=some (.int .i64 (nth zs j))) (hl:zs.length=n*4) (hn:n<=1048576) :
  Calls Tryzx.prog 70 #[.agg #[.slice (some ⟨g,0,none⟩) n c]] w (OwnPost1 w 110 4 n zs):=by
 have b0:Below w.heap.size w ((w.alloc (.cells #[.slice (some ⟨g,0,none⟩) n c] 45)).alloc (.cells #[.slice none 0 0] 45)):=(bnw _ _).alloc (by simp) _;have hc0:∀ j,j<n*4->((w.alloc (.cells #[.slice (some ⟨g,0,none⟩) n c] 45)).alloc (.cells #[.slice none 0 0] 45)).cell? ⟨g,j,none⟩=some (.int .i64 (nth zs j)):=fun j hj=>(b0.cell (by exact hg)).trans (hc j hj)
 have HV0:Hid (RowF ((w.alloc (.cells #[.slice (some ⟨g,0,none⟩) n c] 45)).alloc (.cells #[.slice none 0 0] 45)) (w.heap.size+1) 45 1 (fun _ => .slice none 0 0)):=q_ (by
  have h:=rowF_new1S (w.alloc (.cells #[.slice (some ⟨g,0,none⟩) n c] 45)) (.slice none 0 0) 45;rw [World.size_alloc] at h;exact h)
 have HB0:=q_ b0;clear b0 hc;go_enter Tryzx.func70,Tryz.ntmps70;go_wp2_with fail
 refine (cloneJ_any g n c zs _ (by simp; omega) hc0 hl hn).mono ?_
 rintro e w1 ⟨g',c',rfl,ho1,hb1⟩;have HO1:=q_ (ho1.lowG HB0.out.size);have HB1:=q_ (below_then HB0.out hb1);have HV1:=q_ (HV0.out.after hb1);have hgl:=ho1.ownLt g' rfl;clear ho1 hb1 HB0 HV0 hc0;have d0:w1.cell? ⟨w.heap.size+1,0,none⟩=some (.slice none 0 0):=HV1.out.cell (i:=0) (by omega);have f0:=HV1.out.frozen 0;have hs:=RowF.lt HV1.out;simp at hgl;go_wp2;refine bodyPost_ret (v := .agg #[.slice (some ⟨g',0,none⟩) n c']) (by simp [results,Tryz.results70,go_sem, *]) rfl ?_;exact ⟨g',c',rfl,HO1.out.ofBlock (fun k hk=>Below.heap_setCell _ _ _ _ (by simp [Value.ownBlock] at hk; subst hk; simp; omega)),HB1.out.setCell (by simp) _⟩
theorem below_dr2 {B:Nat} {a w:World} (h:Below B a w):Below B a w.drew:=⟨h.os,h.tape,h.output,h.size,h.block⟩
def VCopyPost (w:World) (n:Nat) (L:List (Nat × List Int)) (q:Nat) (M:List (Nat × List Int)) (e:Ending) (w':World):Prop :=
 ∃ vR vL csR csL,e = .returned (.agg #[vR,vL])/\GN w' w.heap.size 45 110 4 vR n csR L/\GN w' w.heap.size 46 77 3 vL q csL M/\Below w.heap.size w w'
structure CvSt (w wr:World) (gA n cA gB q cB:Nat) (L M:List (Nat × List Int)) (vR vL:Value) (k:Nat) (csR:List Value) (j:Nat) (csL:List Value):Prop where
 arg:RowF wr w.heap.size 31 2 (pairV (.slice (some ⟨gA,0,none⟩) n cA) (.slice (some ⟨gB,0,none⟩) q cB))
 res:RowF wr (w.heap.size+1) 31 2 (pairV (.slice none 0 0) (.slice none 0 0))
 out:RowF wr (w.heap.size+1+1) 31 2 (pairV vR vL)
 ribs:GN wr (w.heap.size+3) 45 110 4 vR k csR L
 loads:GN wr (w.heap.size+3) 46 77 3 vL j csL M
 below:Below w.heap.size w wr
section
variable {w wr w' : World} {gA n cA gB q cB : Nat} {L M : List (Nat × List Int)} {vR vL : Value} {k : Nat} {csR : List Value} {j : Nat} {csL : List Value}
theorem CvSt.after (h:CvSt w wr gA n cA gB q cB L M vR vL k csR j csL) (hb:Below wr.heap.size wr w'):CvSt w w' gA n cA gB q cB L M vR vL k csR j csL :=
 ⟨h.arg.after hb,h.res.after hb,h.out.after hb,h.ribs.after hb,h.loads.after hb,h.below.trans (hb.mono h.below.size)⟩
theorem CvSt.pushR {wy wz:World} {g c:Nat} {v':Value} (h:CvSt w wr gA n cA gB q cB L M vR vL k csR j csL) (hb:Below wr.heap.size wr wy) (ho:OwnR wy wr.heap.size 110 4 (.slice (some ⟨g,0,none⟩) (rowN L k) c) (rowN L k) (rowZ L k))
  (hc:OwnC wz (w.heap.size+3) 45 v' (k+1) (csR ++ [.slice (some ⟨g,0,none⟩) (rowN L k) c])) (ha:AppRes wy wz (w.heap.size+3) vR v') :
  CvSt w (wz.setCell ⟨w.heap.size+1+1,0,none⟩ v') gA n cA gB q cB L M v' vL (k+1) (csR ++ [.slice (some ⟨g,0,none⟩) (rowN L k) c]) j csL:=by
 have h3:w.heap.size+3<=wr.heap.size:=by have:=RowF.lt h.out; omega
 have hy:=h.after hb;have hgl:=ho.ownLt g rfl;have hz:w.heap.size+3<=wy.heap.size:=by have:=hb.size; omega
 refine ⟨(RowF.below hy.arg ha.below (by omega)).set_other (by simp <;> omega) _,(RowF.below hy.res ha.below (by omega)).set_other (by simp <;> omega) _,((RowF.below hy.out ha.below (by omega)).set 0 v').congr (fun i hi => ?_),?_,?_,(hy.below.trans (ha.below.mono (by omega))).setCell (by simp <;> omega) _⟩
 ·match i,hi with
  | 0,_=>rfl
  | 1,_=>rfl
 ·refine GN.setLow (GN.push hy.ribs (by decide) (ho.lowG h3) (fun i hi e => ?_) hc ha) (by simp <;> omega) _
  have:=h.ribs.lt hi e;omega
 ·exact GN.setLow (hy.loads.beside ha (X:=45) (fun g hg=>hy.ribs.cells.typeAt g hg) (by decide) (by decide)) (by simp <;> omega) _
theorem CvSt.pushL {wy wz:World} {g c:Nat} {v':Value} (h:CvSt w wr gA n cA gB q cB L M vR vL k csR j csL) (hb:Below wr.heap.size wr wy) (ho:OwnR wy wr.heap.size 77 3 (.slice (some ⟨g,0,none⟩) (rowN M j) c) (rowN M j) (rowZ M j))
  (hc:OwnC wz (w.heap.size+3) 46 v' (j+1) (csL ++ [.slice (some ⟨g,0,none⟩) (rowN M j) c])) (ha:AppRes wy wz (w.heap.size+3) vL v') :
  CvSt w (wz.setCell ⟨w.heap.size+1+1,1,none⟩ v') gA n cA gB q cB L M vR v' k csR (j+1) (csL ++ [.slice (some ⟨g,0,none⟩) (rowN M j) c]):=by
 have h3:w.heap.size+3<=wr.heap.size:=by have:=RowF.lt h.out; omega
 have hy:=h.after hb;have hgl:=ho.ownLt g rfl;have hz:w.heap.size+3<=wy.heap.size:=by have:=hb.size; omega
 refine ⟨(RowF.below hy.arg ha.below (by omega)).set_other (by simp <;> omega) _,(RowF.below hy.res ha.below (by omega)).set_other (by simp <;> omega) _,((RowF.below hy.out ha.below (by omega)).set 1 v').congr (fun i hi => ?_),?_,?_,(hy.below.trans (ha.below.mono (by omega))).setCell (by simp <;> omega) _⟩
 ·match i,hi with
  | 0,_=>rfl
  | 1,_=>rfl
 ·exact GN.setLow (hy.ribs.beside ha (X:=46) (fun g hg=>hy.loads.cells.typeAt g hg) (by decide) (by decide)) (by simp <;> omega) _
 ·refine GN.setLow (GN.push hy.loads (by decide) (ho.lowG h3) (fun i hi e => ?_) hc ha) (by simp <;> omega) _
  have:=h.loads.lt hi e;omega
theorem CvSt.start (w:World) (gA n cA gB q cB:Nat) (L M:List (Nat × List Int)) :
  CvSt w (((w.alloc (.cells #[.slice (some ⟨gA,0,none⟩) n cA,.slice (some ⟨gB,0,none⟩) q cB] 31)).alloc (.cells #[.slice none 0 0,.slice none 0 0] 31)).alloc (.cells #[.slice none 0 0,.slice none 0 0] 31)) gA n cA gB q cB L M (.slice none 0 0) (.slice none 0 0) 0 [] 0 []:=by
 have r1:=(RowF.of_row (row_pair w (.slice (some ⟨gA,0,none⟩) n cA) (.slice (some ⟨gB,0,none⟩) q cB) 31));have r2:=(RowF.of_row (row_pair (w.alloc (.cells #[.slice (some ⟨gA,0,none⟩) n cA,.slice (some ⟨gB,0,none⟩) q cB] 31)) (.slice none 0 0) (.slice none 0 0) 31));have r3:=(RowF.of_row (row_pair ((w.alloc (.cells #[.slice (some ⟨gA,0,none⟩) n cA,.slice (some ⟨gB,0,none⟩) q cB] 31)).alloc (.cells #[.slice none 0 0,.slice none 0 0] 31)) (.slice none 0 0) (.slice none 0 0) 31));simp only [World.size_alloc] at r2 r3;exact ⟨(r1.alloc _).alloc _,r2.alloc _,r3,GN.nil,GN.nil,((bnw _ _).alloc (by simp) _).alloc (by simp; omega) _⟩
end
theorem iCopyVaultG_any (gA n cA gB q cB:Nat) (L M:List (Nat × List Int)) (w:World) (hA:NestG w gA 45 110 4 n L) (hn:n<=1048576) (hr:∀ i,i<n->rowN L i<=1048576) (hlA:∀ i,i<n->(rowZ L i).length=rowN L i*4)
  (hB:NestG w gB 46 77 3 q M) (hq:q<=1048576) (hs:∀ i,i<q->rowN M i<=1048576) (hlB:∀ i,i<q->(rowZ M i).length=rowN M i*3) :
  Calls Tryzx.prog 42 #[.agg #[.slice (some ⟨gA,0,none⟩) n cA,.slice (some ⟨gB,0,none⟩) q cB]] w (VCopyPost w n L q M):=by
 have HA:=q_ hA;have HB:=q_ hB;have HR:=q_ (And.intro hr hlA);have HT:=q_ (And.intro hs hlB);have HC0:=q_ (CvSt.start w gA n cA gB q cB L M);clear hA hB hr hlA hs hlB;go_enter Tryzx.func42,Tryz.ntmps42;go_wp2;go_loopw [11] (fun v11 wr=>∃ (k:Nat) (vR:Value) (csR:List Value),v11 = .int .i64 k/\k<=n/\Hid (CvSt w wr gA n cA gB q cB L M vR (.slice none 0 0) k csR 0 [])) (fun v11 _=>n - (intOf v11).toNat)
 case atStart=>exact ⟨0,_,_,rfl,Nat.zero_le _,HC0⟩
 case round =>
  clear HC0;obtain ⟨k,vR,csR,rfl,hk,HS⟩:=hrel;have h3:=RowF.lt HS.out.out;by_cases hlt:k<n
  ·have kn:(k:Int)<(n:Int):=by omega
   have k0:(0:Int)<=(k:Int):=by omega
   have ek:IntKind.i64.wrap ((k:Int)+1)=(k:Int)+1:=iW (by omega);obtain ⟨gi,cI,hcell,hgi,hrow⟩:=(HA.out.after HS.out.below).get2 hlt;have hbx:Below wr.heap.size wr (wr.alloc (.cells #[.slice (some ⟨gi,0,none⟩) (rowN L k) cI] 45)).drew:=below_dr2 (bnw _ _);have HBX:=q_ hbx;have hgx:gi<(wr.alloc (.cells #[.slice (some ⟨gi,0,none⟩) (rowN L k) cI] 45)).drew.heap.size:=by simp; omega
   have HRO:=q_ (fun j hj=>(hbx.cell (p:=⟨gi,j,none⟩) (by exact hgi)).trans (hrow j hj));have HSX:=q_ (HS.out.after hbx);have HRK:=q_ (And.intro (HR.out.1 k hlt) (HR.out.2 k hlt));have o0:(wr.alloc (.cells #[.slice (some ⟨gi,0,none⟩) (rowN L k) cI] 45)).drew.cell? ⟨w.heap.size+1+1,0,none⟩=some vR:=HSX.out.out.cell (i:=0) (by omega);have b0:(wr.alloc (.cells #[.slice (some ⟨gi,0,none⟩) (rowN L k) cI] 45)).drew.cell? ⟨wr.heap.size,0,none⟩=some (.slice (some ⟨gi,0,none⟩) (rowN L k) cI):=(rowF_new1S wr _ _).cell (i:=0) (by omega);have hwz:(wr.alloc (.cells #[.slice (some ⟨gi,0,none⟩) (rowN L k) cI] 45)).drew.heap.size=wr.heap.size+1:=by simp
   have HWZ:=q_ hwz;clear hbx hrow hwz;go_wp2;refine wp_region_held_drew (S:=fun w'=>w'.cell? ⟨wr.heap.size,0,none⟩=some (.slice (some ⟨gi,0,none⟩) (rowN L k) cI)) (by kernel_rfl) (by exact b0) (fun hHeld => ?_);refine tk 0 15 rfl rfl ?_;try simp only [Act.put,ly3]
   refine tk 2 17 rfl rfl ?_;try simp only [Act.put,ly3]
   refine rd2 1 3 rfl rfl (fun K hK=>?_) fun K hK=>?_;rotate_left
   go_simp
   (with_reducible refine (iCopyArch_any gi (rowN L k) cI (rowZ L k) _ hgx HRO.out HRK.out.2 HRK.out.1).mono ?_)
   rintro e w4 ⟨g,c,rfl,ho4,hb4⟩;have HS4:=q_ (HSX.out.after hb4);have HO4:=q_ ho4;have HB4:=q_ hb4;have o4:w4.cell? ⟨w.heap.size+1+1,0,none⟩=some vR:=HS4.out.out.cell (i:=0) (by omega);have b4:w4.cell? ⟨wr.heap.size,0,none⟩=some (.slice (some ⟨gi,0,none⟩) (rowN L k) cI):=(HB4.out.cell (p:=⟨wr.heap.size,0,none⟩) (by rw [HWZ.out]; simp)).trans b0
   refine hK.out _ _ (by exact b4) (fun hHeld => ?_);clear hK K;try simp only [Act.put,ly3]
   refine rd2 1 4 rfl rfl (fun K hK=>?_) fun K hK=>?_;rotate_left
   go_simp
   have o4:(w4.alloc (.cells #[.slice (some ⟨g,0,none⟩) (rowN L k) c] 45)).cell? ⟨w.heap.size+1+1,0,none⟩=some vR:=(HS4.out.out.alloc _).cell (i:=0) (by omega);have b4a:=(World.cell?_alloc_lt w4 (.cells #[.slice (some ⟨g,0,none⟩) (rowN L k) c] 45) ⟨wr.heap.size,0,none⟩ (show wr.heap.size<w4.heap.size from by have:=HB4.out.size; rw [HWZ.out] at this; omega)).trans b4
   refine hK.out _ _ (by exact b4a) (fun hHeld => ?_);clear hK K;try simp only [Act.put,ly3]
   refine rd1 1 rfl fun K hK=>?_;go_simp
   refine hK.out _ _ (by exact b4a) (fun hHeld => ?_);clear hK K;try simp only [Act.put,ly3]
   rotate_left
   go_simp
   refine hK.out _ _ (by exact b0) (fun hHeld => ?_);clear hK K;try simp only [Act.put,ly3]
   refine rd1 3 rfl fun K hK=>?_;go_simp
   (with_reducible refine (iCopyArch_any gi (rowN L k) cI (rowZ L k) _ hgx HRO.out HRK.out.2 HRK.out.1).mono ?_)
   rintro e w4 ⟨g,c,rfl,ho4,hb4⟩;have HS4:=q_ (HSX.out.after hb4);have HO4:=q_ ho4;have HB4:=q_ hb4;have o4:w4.cell? ⟨w.heap.size+1+1,0,none⟩=some vR:=HS4.out.out.cell (i:=0) (by omega);have b4:w4.cell? ⟨wr.heap.size,0,none⟩=some (.slice (some ⟨gi,0,none⟩) (rowN L k) cI):=(HB4.out.cell (p:=⟨wr.heap.size,0,none⟩) (by rw [HWZ.out]; simp)).trans b0
   refine hK.out _ _ (by exact b4) (fun hHeld => ?_);clear hK K;try simp only [Act.put,ly3]
   refine rd1 4 rfl fun K hK=>?_;go_simp
   have o4:(w4.alloc (.cells #[.slice (some ⟨g,0,none⟩) (rowN L k) c] 45)).cell? ⟨w.heap.size+1+1,0,none⟩=some vR:=(HS4.out.out.alloc _).cell (i:=0) (by omega);have b4a:=(World.cell?_alloc_lt w4 (.cells #[.slice (some ⟨g,0,none⟩) (rowN L k) c] 45) ⟨wr.heap.size,0,none⟩ (show wr.heap.size<w4.heap.size from by have:=HB4.out.size; rw [HWZ.out] at this; omega)).trans b4
   refine hK.out _ _ (by exact b4a) (fun hHeld => ?_);clear hK K;try simp only [Act.put,ly3]
   rotate_left
   go_simp
   refine hK.out _ _ (by exact b4) (fun hHeld => ?_);clear hK K;try simp only [Act.put,ly3]
   refine rd1 4 rfl fun K hK=>?_;go_simp
   have o4:(w4.alloc (.cells #[.slice (some ⟨g,0,none⟩) (rowN L k) c] 45)).cell? ⟨w.heap.size+1+1,0,none⟩=some vR:=(HS4.out.out.alloc _).cell (i:=0) (by omega);have b4a:=(World.cell?_alloc_lt w4 (.cells #[.slice (some ⟨g,0,none⟩) (rowN L k) c] 45) ⟨wr.heap.size,0,none⟩ (show wr.heap.size<w4.heap.size from by have:=HB4.out.size; rw [HWZ.out] at this; omega)).trans b4
   refine hK.out _ _ (by exact b4a) (fun hHeld => ?_);clear hK K;try simp only [Act.put,ly3]
   all_goals
    refine rd1 5 rfl fun K hK=>?_;refine step_appCX rfl (.tmp 16) (.tmp 19) 28 rfl (w.heap.size+3) 45 24 (.agg #[.slice none 0 0]) Tryzx.underlying28 infoArch rfl (by decide) vR k csR rfl (by exact HS4.out.ribs.cells.alloc _) w4.heap.size 1 (.slice (some ⟨g,0,none⟩) (rowN L k) c) rfl rfl (by exact cell_new1 _ _ _) (by omega) (by have:=RowF.lt HS4.out.out; simp; omega) ?_
    intro g' cap' w5 hown5 har5;have HN5:=q_ (HS.out.pushR (wy:=(w4.alloc (.cells #[.slice (some ⟨g,0,none⟩) (rowN L k) c] 45))) (by exact (HBX.out.trans (HB4.out.mono (by rw [HWZ.out]; omega))).alloc (by have:=HB4.out.size; rw [HWZ.out] at this; omega) _) (by exact (HO4.out.lowG (by rw [HWZ.out]; omega)).alloc _) hown5 har5)
    have d0:w5.cell? ⟨w.heap.size+1+1,0,none⟩=some vR:=(RowF.below (HS4.out.out.alloc _) har5.below (by omega)).cell (i:=0) (by omega);have f0:=(RowF.below (HS4.out.out.alloc (.cells #[.slice (some ⟨g,0,none⟩) (rowN L k) c] 45)) har5.below (by omega)).frozen 0;have b5:w5.cell? ⟨wr.heap.size,0,none⟩=some (.slice (some ⟨gi,0,none⟩) (rowN L k) cI):=(har5.cellStay (p:=⟨wr.heap.size,0,none⟩) (by have:=HB4.out.size; rw [HWZ.out] at this; simp; omega) (fun g' hg'=>by have:=HS.out.ribs.cells.blockLt g' hg'; simp; omega)).trans b4a
    refine hK.out _ _ (by exact b5) (fun hHeld => ?_);clear hK K;try simp only [Act.put,ly3]
    refine tk 6 21 rfl rfl ?_;try simp only [Act.put,ly3]
    refine rd1 7 rfl fun K hK=>?_;go_simp
    refine hK.out _ _ (by exact (World.cell?_setCell_far _ _ _ _ (by simp; omega)).trans b5) (fun hHeld => ?_)
    clear hK K;try simp only [Act.put,ly3]
    refine wpAnyH_done (by kernel_rfl) ?_ _;clear hHeld;go_wp2;go_roundw
    case rel=>exact ⟨k+1,_,_,by go_num,by omega,HN5⟩
    case measure=>simp [intOf]; omega
  ·obtain rfl:n=k:=by omega
   have kn:¬ (n:Int)<(n:Int):=by omega
   have a1:wr.cell? ⟨w.heap.size,1,none⟩=some (.slice (some ⟨gB,0,none⟩) q cB):=HS.out.arg.cell (i:=1) (by omega);go_wp2;clear a1;go_loopw [26] (fun v26 wr=>∃ (k:Nat) (vL:Value) (csL:List Value),v26 = .int .i64 k/\k<=q/\Hid (CvSt w wr gA n cA gB q cB L M vR vL n csR k csL)) (fun v26 _=>q - (intOf v26).toNat)
   case atStart=>exact ⟨0,_,_,rfl,Nat.zero_le _,HS⟩
   case round =>
    clear HS h3;obtain ⟨k,vL,csL,rfl,hk,HS⟩:=hrel;have h3:=RowF.lt HS.out.out;by_cases hlt:k<q
    ·have kn:(k:Int)<(q:Int):=by omega
     have k0:(0:Int)<=(k:Int):=by omega
     have ek:IntKind.i64.wrap ((k:Int)+1)=(k:Int)+1:=iW (by omega);obtain ⟨gi,cI,hcell,hgi,hrow⟩:=(HB.out.after HS.out.below).get2 hlt;have HBX:Hid (Below wr.heap.size wr wr.drew):=q_ (below_dr2 (Below.refl _ _));have hgx:gi<wr.drew.heap.size:=hgi;have HRO:Hid (∀ j,j<rowN M k*3->wr.drew.cell? ⟨gi,j,none⟩=some (.int .i64 (nth (rowZ M k) j))):=q_ hrow;have HSX:=q_ (HS.out.after HBX.out);have HRK:=q_ (And.intro (HT.out.1 k hlt) (HT.out.2 k hlt));have o0:wr.drew.cell? ⟨w.heap.size+1+1,1,none⟩=some vL:=HSX.out.out.cell (i:=1) (by omega);have HWZ:Hid (wr.drew.heap.size=wr.heap.size):=q_ rfl;clear hrow;go_wp2;refine wp_region_held_drew (S:=fun _=>True) (by kernel_rfl) (by trivial) (fun hHeld => ?_);refine tk 0 30 rfl rfl ?_;try simp only [Act.put,ly3]
     refine tk 2 32 rfl rfl ?_;try simp only [Act.put,ly3]
     refine rd2 1 3 rfl rfl (fun K hK=>?_) fun K hK=>?_;rotate_left
     go_simp
     (with_reducible refine (cloneL_any gi (rowN M k) cI (rowZ M k) _ hgx HRO.out HRK.out.2 HRK.out.1).mono ?_)
     rintro e w4 ⟨g,c,rfl,ho4,hb4⟩;have HS4:=q_ (HSX.out.after hb4);have HO4:=q_ ho4;have HB4:=q_ hb4;have o4:w4.cell? ⟨w.heap.size+1+1,1,none⟩=some vL:=HS4.out.out.cell (i:=1) (by omega);refine hK.out _ _ (by trivial) (fun hHeld => ?_);clear hK K;try simp only [Act.put,ly3]
     refine rd2 1 4 rfl rfl (fun K hK=>?_) fun K hK=>?_;rotate_left
     go_simp
     have o4:(w4.alloc (.cells #[.slice (some ⟨g,0,none⟩) (rowN M k) c] 46)).cell? ⟨w.heap.size+1+1,1,none⟩=some vL:=(HS4.out.out.alloc _).cell (i:=1) (by omega);refine hK.out _ _ (by trivial) (fun hHeld => ?_);clear hK K;try simp only [Act.put,ly3]
     refine rd1 1 rfl fun K hK=>?_;go_simp
     refine hK.out _ _ (by trivial) (fun hHeld => ?_);clear hK K;try simp only [Act.put,ly3]
     rotate_left
     go_simp
     refine hK.out _ _ (by trivial) (fun hHeld => ?_);clear hK K;try simp only [Act.put,ly3]
     refine rd1 3 rfl fun K hK=>?_;go_simp
     (with_reducible refine (cloneL_any gi (rowN M k) cI (rowZ M k) _ hgx HRO.out HRK.out.2 HRK.out.1).mono ?_)
     rintro e w4 ⟨g,c,rfl,ho4,hb4⟩;have HS4:=q_ (HSX.out.after hb4);have HO4:=q_ ho4;have HB4:=q_ hb4;have o4:w4.cell? ⟨w.heap.size+1+1,1,none⟩=some vL:=HS4.out.out.cell (i:=1) (by omega);refine hK.out _ _ (by trivial) (fun hHeld => ?_);clear hK K;try simp only [Act.put,ly3]
     refine rd1 4 rfl fun K hK=>?_;go_simp
     have o4:(w4.alloc (.cells #[.slice (some ⟨g,0,none⟩) (rowN M k) c] 46)).cell? ⟨w.heap.size+1+1,1,none⟩=some vL:=(HS4.out.out.alloc _).cell (i:=1) (by omega);refine hK.out _ _ (by trivial) (fun hHeld => ?_);clear hK K;try simp only [Act.put,ly3]
     rotate_left
     go_simp
     refine hK.out _ _ (by trivial) (fun hHeld => ?_);clear hK K;try simp only [Act.put,ly3]
     refine rd1 4 rfl fun K hK=>?_;go_simp
     have o4:(w4.alloc (.cells #[.slice (some ⟨g,0,none⟩) (rowN M k) c] 46)).cell? ⟨w.heap.size+1+1,1,none⟩=some vL:=(HS4.out.out.alloc _).cell (i:=1) (by omega);refine hK.out _ _ (by trivial) (fun hHeld => ?_);clear hK K;try simp only [Act.put,ly3]
     all_goals
      refine rd1 5 rfl fun K hK=>?_;refine step_appCX rfl (.tmp 31) (.tmp 34) 29 rfl (w.heap.size+3) 46 24 (.slice none 0 0) Tryzx.underlying29 infoLLoadS rfl (by decide) vL k csL rfl (by exact HS4.out.loads.cells.alloc _) w4.heap.size 1 (.slice (some ⟨g,0,none⟩) (rowN M k) c) rfl rfl (by exact cell_new1 _ _ _) (by omega) (by have:=RowF.lt HS4.out.out; simp; omega) ?_
      intro g' cap' w5 hown5 har5;have HN5:=q_ (HS.out.pushL (wy:=(w4.alloc (.cells #[.slice (some ⟨g,0,none⟩) (rowN M k) c] 46))) (by exact (HBX.out.trans (HB4.out.mono (Nat.le_of_eq HWZ.out.symm))).alloc (by have:=HB4.out.size; rw [HWZ.out] at this; omega) _) (by exact (HO4.out.lowG (Nat.le_of_eq HWZ.out.symm)).alloc _) hown5 har5)
      have d0:w5.cell? ⟨w.heap.size+1+1,1,none⟩=some vL:=(RowF.below (HS4.out.out.alloc _) har5.below (by omega)).cell (i:=1) (by omega);have f0:=(RowF.below (HS4.out.out.alloc (.cells #[.slice (some ⟨g,0,none⟩) (rowN M k) c] 46)) har5.below (by omega)).frozen 1;refine hK.out _ _ (by trivial) (fun hHeld => ?_);clear hK K;try simp only [Act.put,ly3]
      refine tk 6 36 rfl rfl ?_;try simp only [Act.put,ly3]
      refine rd1 7 rfl fun K hK=>?_;go_simp
      refine hK.out _ _ (by trivial) (fun hHeld => ?_);clear hK K;try simp only [Act.put,ly3]
      refine wpAnyH_done (by kernel_rfl) ?_ _;clear hHeld;go_wp2;go_roundw
      case rel=>exact ⟨k+1,_,_,by go_num,by omega,HN5⟩
      case measure=>simp [intOf]; omega
    ·obtain rfl:q=k:=by omega
     have kn:¬ (q:Int)<(q:Int):=by omega
     have o0:wr.cell? ⟨w.heap.size+1+1,0,none⟩=some vR:=HS.out.out.cell (i:=0) (by omega);have o1:wr.cell? ⟨w.heap.size+1+1,1,none⟩=some vL:=HS.out.out.cell (i:=1) (by omega);have r0:wr.cell? ⟨w.heap.size+1,0,none⟩=some (.slice none 0 0):=HS.out.res.cell (i:=0) (by omega);have r1:wr.cell? ⟨w.heap.size+1,1,none⟩=some (.slice none 0 0):=HS.out.res.cell (i:=1) (by omega);have f0:=HS.out.res.frozen 0;have f1:=HS.out.res.frozen 1;have hs:=RowF.lt HS.out.res;obtain ⟨A1,c1,rfl,_⟩:=HS.out.ribs.cells.slice;obtain ⟨A2,c2,rfl,_⟩:=HS.out.loads.cells.slice;go_wp2;refine bodyPost_ret (v := .agg #[.slice A1 n c1,.slice A2 q c2]) (by simp [results,Tryz.results42,go_sem, *]) rfl ?_;exact ⟨_,_,csR,csL,rfl,((HS.out.ribs.setLow (by simp) _).setLow (by simp) _).mono (by omega),((HS.out.loads.setLow (by simp) _).setLow (by simp) _).mono (by omega),(HS.out.below.setCell (by simp) _).setCell (by simp) _⟩
end X
section
open Go.RowKit
theorem GN.cellAt {w:World} {base:Nat} {T E:TypeId} {K n:Nat} {cs:List Value} {L:List (Nat × List Int)} {g c:Nat} (h:GN w base T E K (.slice (some ⟨g,0,none⟩) n c) n cs L) {i:Nat} (hi:i<n):w.cell? ⟨g,i,none⟩=cs[i]?:=by
 rcases h.cells.form with ⟨e,_,_⟩ | ⟨g0,cap,e,_,_,_,hc⟩
 ·simp at e
 ·simp at e
  obtain ⟨rfl,rfl⟩:=e;exact hc i hi
theorem GN.ex {w:World} {base:Nat} {T E:TypeId} {K n:Nat} {A:Option Addr} {cs:List Value} {L:List (Nat × List Int)} {c:Nat} (h:GN w base T E K (.slice A n c) n cs L) (hn:0<n):∃ g,A=some ⟨g,0,none⟩:=by
 rcases h.cells.form with ⟨_,e,_⟩ | ⟨g0,cap,e,_,_,_,hc⟩
 ·omega
 ·simp at e
  exact ⟨g0,e.1⟩
section
variable {w w' : World} {base : Nat} {T E : TypeId} {K n : Nat} {v : Value} {cs : List Value} {L L' : List (Nat × List Int)}
theorem GN.congr (h:GN w base T E K v n cs L) (e:∀ i,i<n->rowN L' i=rowN L i/\rowZ L' i=rowZ L i):GN w base T E K v n cs L':=by
 refine ⟨h.cells,fun i hi => ?_,h.apart⟩;obtain ⟨e1,e2⟩:=e i hi;rw [e1,e2];exact h.row i hi
theorem OwnC.setAt {g c:Nat} (h:OwnC w base T (.slice (some ⟨g,0,none⟩) n c) n cs) (k:Nat) (u:Value):OwnC (w.setCell ⟨g,k,none⟩ u) base T (.slice (some ⟨g,0,none⟩) n c) n (cs.set k u):=by
 refine ⟨⟨by simp [h.1.1],?_⟩,by simp [h.2]⟩;rcases h.1.2 with ⟨e,_⟩ | ⟨g0,cap,cur,e,h2,h3,h4,h5,h6,h7⟩
 ·simp at e
 ·simp at e
  obtain ⟨rfl,rfl⟩:=e;refine .inr ⟨g,c,cur.setIfInBounds k u,rfl,h2,?_,h4,h5,by simpa using h6,?_⟩
  ·have hl:=(Array.getElem?_eq_some_iff.1 h3).1
   have e2:=(Array.getElem?_eq_some_iff.1 h3).2;simp [World.setCell,Array.getElem?_modify,h3]
  ·rw [Array.toList_setIfInBounds,<- h7,List.take_set]
theorem GN.replace {gL c k:Nat} {u:Value} {g' m' c':Nat} {zs':List Int} (h:GN w base T E K (.slice (some ⟨gL,0,none⟩) n c) n cs L) (hTE:T ≠ E) (hk:k<n) (hu:cs[k]?=some u)
  (ho:OwnR w' base E K (.slice (some ⟨g',0,none⟩) m' c') m' zs') (ha:AppRes w w' base u (.slice (some ⟨g',0,none⟩) m' c'))
  (e1:rowN L' k=m'/\rowZ L' k=zs') (e2:∀ i,i<n->i ≠ k->rowN L' i=rowN L i/\rowZ L' i=rowZ L i) :
  GN (w'.setCell ⟨gL,k,none⟩ (.slice (some ⟨g',0,none⟩) m' c')) base T E K (.slice (some ⟨gL,0,none⟩) n c) n (cs.set k (.slice (some ⟨g',0,none⟩) m' c')) L':=by
 obtain ⟨gu,cu,hu1,hur⟩:=h.row k hk;have hul:∃ gu,u.ownBlock=some gu/\∃ cc,w.heap[gu]?=some (.cells cc E):=by
  rw [hu] at hu1;simp at hu1;subst hu1;exact ⟨gu,rfl,hur.typeAt gu rfl⟩
 have hcs:=h.cells.2;obtain ⟨cc,hcT⟩:=h.cells.typeAt gL rfl;have hLlt:=(Array.getElem?_eq_some_iff.1 hcT).1;have hLne:u.ownBlock ≠ some gL:=fun e=>by
  obtain ⟨gu2,hg2,c2,hc2⟩:=hul;rw [e] at hg2;simp at hg2;subst hg2;rw [hcT] at hc2;simp at hc2;exact hTE hc2.2
 have hg'ne:g' ≠ gL:=fun e=>by
  subst e;obtain ⟨c3,hc3⟩:=ho.typeAt g' rfl;have hst:=ha.stay g' hLlt hLne;rw [hst,hcT] at hc3;simp at hc3;exact hTE hc3.2
 have hrow:∀ i,i<n->i ≠ k->∀ gi ci,cs[i]?=some (.slice (some ⟨gi,0,none⟩) (rowN L i) ci)->OwnR w base E K (.slice (some ⟨gi,0,none⟩) (rowN L i) ci) (rowN L i) (rowZ L i)->u.ownBlock ≠ some gi/\gi<w.heap.size/\gi ≠ gL:=fun i hi hik gi ci hc hr=>by
  obtain ⟨c4,hc4⟩:=hr.typeAt gi rfl;refine ⟨fun e => ?_,(Array.getElem?_eq_some_iff.1 hc4).1,fun e => ?_⟩
  ·have:=h.apart i k hi hk hik gi (by rw [hc]; rfl)
   rw [hu] at this;exact this e
  ·subst e
   rw [hcT] at hc4;simp at hc4;exact hTE hc4.2
 refine ⟨OwnC.setAt (h.cells.ofBlock fun g hg => ?_) k _,fun i hi => ?_,fun i j hi hj hij g => ?_⟩
 ·simp [Value.ownBlock] at hg
  subst hg;exact ha.stay gL hLlt hLne
 ·by_cases hik:i=k
  ·subst hik
   refine ⟨g',c',by rw [List.getElem?_set_self (by omega),e1.1],?_⟩;rw [e1.1,e1.2];exact ho.ofBlock fun g hg=>by
    simp [Value.ownBlock] at hg;subst hg;exact Below.heap_setCell _ _ _ _ (by simpa using hg'ne)
  ·obtain ⟨gi,ci,hc,hr⟩:=h.row i hi
   obtain ⟨f1,f2⟩:=e2 i hi hik;obtain ⟨n1,n2,n3⟩:=hrow i hi hik gi ci hc hr;refine ⟨gi,ci,by rw [List.getElem?_set_ne (fun e=>hik e.symm),f1]; exact hc,?_⟩;rw [f1,f2];exact hr.ofBlock fun g hg=>by
    simp [Value.ownBlock] at hg;subst hg;rw [Below.heap_setCell _ _ _ _ (by simpa using n3)];exact ha.stay gi n2 n1
 ·intro h1 h2
  have other:∀ t,t<n->t ≠ k->∀ gt,(cs[t]?).bind Value.ownBlock=some gt->gt ≠ g':=fun t ht htk gt hgt e=>by
   subst e;obtain ⟨gi,ci,hc,hr⟩:=h.row t ht;obtain ⟨n1,n2,_⟩:=hrow t ht htk gi ci hc hr;rw [hc] at hgt;simp [Value.ownBlock] at hgt;subst hgt;rcases ha.where_ gi rfl with e | e
   ·exact n1 e
   ·omega
  by_cases hik:i=k
  ·subst hik
   rw [List.getElem?_set_self (by omega)] at h1;simp [Value.ownBlock] at h1;rw [List.getElem?_set_ne hij] at h2;exact other j hj (fun e=>hij e.symm) g h2 h1.symm
  ·by_cases hjk:j=k
   ·subst hjk
    rw [List.getElem?_set_self (by omega)] at h2;simp [Value.ownBlock] at h2;rw [List.getElem?_set_ne (fun e=>hik e.symm)] at h1;exact other i hi hik g h1 h2.symm
   ·rw [List.getElem?_set_ne (fun e=>hik e.symm)] at h1
    rw [List.getElem?_set_ne (fun e=>hjk e.symm)] at h2;exact h.apart i j hi hj hij g h1 h2
end
end
namespace X
open Go.RowKit
def ribB (L M:List (Nat × List Int)) (i:Nat):Bool:=loadsB (rowZ L i) (rowN L i) (rowZ M i) (rowN M i)
def vaultB (L:List (Nat × List Int)) (n:Nat) (M:List (Nat × List Int)) (q:Nat):Bool:=inB (n:Int) 1 5 && (decide (q=n) && allB (ribB L M) n)
theorem vaultB_1 (L M:List (Nat × List Int)) {n:Nat} (q:Nat) (h:inB (n:Int) 1 5=false):vaultB L n M q=false:=by simp [vaultB,h]
theorem vaultB_2 (L M:List (Nat × List Int)) {n q:Nat} (h:¬ q=n):vaultB L n M q=false:=by simp [vaultB,h]
theorem vaultB_3 {L M:List (Nat × List Int)} {n:Nat} (q:Nat) {k:Nat} (hk:k<n) (h:ribB L M k=false):vaultB L n M q=false:=by simp [vaultB,allB_f hk h]
theorem vaultB_t {L M:List (Nat × List Int)} {n q:Nat} (h1:inB (n:Int) 1 5=true) (h2:q=n) (h:allTo (ribB L M) n):vaultB L n M q=true:=by simp [vaultB,allB_t h,h1,h2]
theorem vaultB_out {L M:List (Nat × List Int)} {n q:Nat} (h:vaultB L n M q=true):(1<=n/\n<=5)/\q=n/\allTo (ribB L M) n:=by
 simp only [vaultB,Bool.and_eq_true,decide_eq_true_eq,inB_iff] at h;exact ⟨by omega,h.2.1,allB_out h.2.2⟩
theorem cell_newA (w:World) (u v:Value) (t:TypeId):(w.alloc (.cells #[u,v] t)).cell? ⟨w.heap.size,0,none⟩=some u:=World.rowIs.cell (World.rowIs_alloc w #[u,v] t (fun i=>if i=0 then u else v) (fun i hi=>by simp at hi; match i,hi with | 0,_=>rfl | 1,_=>rfl)) (by simp)
theorem cell_newB (w:World) (u v:Value) (t:TypeId):(w.alloc (.cells #[u,v] t)).cell? ⟨w.heap.size,1,none⟩=some v:=World.rowIs.cell (World.rowIs_alloc w #[u,v] t (fun i=>if i=0 then u else v) (fun i hi=>by simp at hi; match i,hi with | 0,_=>rfl | 1,_=>rfl)) (by simp)
theorem iVaultOk_any (A:Option Addr) (n c:Nat) (L:List (Nat × List Int)) (B:Option Addr) (q d:Nat) (M:List (Nat × List Int)) (w:World) (h:NestAt w w.heap.size 4 A n L) (hn:n<=1048576) (hr:∀ i,i<n->rowN L i<=1048576) (hl:NestAt w w.heap.size 3 B q M) (hq:q<=1048576) (hs:∀ i,i<q->rowN M i<=1048576) :
  Calls Tryzx.prog 20 #[.agg #[.slice A n c,.slice B q d]] w fun e w'=>e = .returned (.bool (vaultB L n M q))/\Below w.heap.size w w':=by
 have HA:=q_ ((Below.refl w.heap.size w).alloc (Nat.le_refl _) (.cells #[.slice A n c,.slice B q d] 31));have H:=q_ h;have HL:=q_ hl;have HR:=q_ hr;have HS:=q_ hs;clear h hl hr hs;cases hB:inB (n:Int) 1 5
 ·have HF:=q_ (vaultB_1 L M q hB)
  go_enter Tryzx.func20,Tryz.ntmps20;go_wp2_with (go_at_call 43; refine (within_any _ _ _ _).mono ?_; rw [hB]; rintro e w' ⟨rfl,rfl⟩);go_ret;exact ⟨ret_bool HF.out.symm,HA.out⟩
 by_cases hqn:q=n
 ·subst hqn
  have hd:((q:Int) != (q:Int))=false:=by simp
  have HT:=q_ (fun h3=>vaultB_t (L:=L) (M:=M) hB (rfl:q=q) h3);go_enter Tryzx.func20,Tryz.ntmps20;go_wp2_with (go_at_call 43; refine (within_any _ _ _ _).mono ?_; rw [hB]; rintro e w' ⟨rfl,rfl⟩);go_loopw [22] (fun i wr=>∃ k:Nat,k<=q/\i = .int .i64 k/\allTo (ribB L M) k/\wr.cell? ⟨w.heap.size,0,none⟩=some (.slice A q c)/\wr.cell? ⟨w.heap.size,1,none⟩=some (.slice B q d)/\Below w.heap.size w wr) (fun i _=>q - (intOf i).toNat)
  case atStart=>exact ⟨0,Nat.zero_le _,rfl,allTo_0 _,cell_newA _ _ _ _,cell_newB _ _ _ _,HA.out⟩
  case round =>
   clear HA hB;obtain ⟨k,hk,rfl,hag,hbox,hbox',hb⟩:=hrel;have HB:=q_ hb;have hgl:=World.block_lt_of_cell? wr _ hbox;simp only at hgl;by_cases hlt:k<q
   ·obtain ⟨b,off,rfl,hbB,hc⟩:=H.out.2 (by omega)
    obtain ⟨b',off',rfl,hbB',hc'⟩:=HL.out.2 (by omega);obtain ⟨Ak,ck,hx,hrec,_,_⟩:=hc k hlt;obtain ⟨Bk,dk,hy,hrec',_,_⟩:=hc' k hlt;have x0:wr.cell? ⟨b,off+k,none⟩=some (.slice Ak (rowN L k) ck):=(hb.cell (by exact hbB)).trans hx;have hz:=hb.size;have y0:(wr.alloc (.cells #[.slice Ak (rowN L k) ck] 45)).cell? ⟨b',off'+k,none⟩=some (.slice Bk (rowN M k) dk):=(World.cell?_alloc_lt _ _ _ (by simp; omega)).trans ((hb.cell (by exact hbB')).trans hy)
    have v0:(wr.alloc (.cells #[.slice Ak (rowN L k) ck] 45)).cell? ⟨w.heap.size,0,none⟩=some (.slice (some ⟨b,off,none⟩) q c):=(World.cell?_alloc_lt _ _ _ (by simp; omega)).trans hbox
    have v1:(wr.alloc (.cells #[.slice Ak (rowN L k) ck] 45)).cell? ⟨w.heap.size,1,none⟩=some (.slice (some ⟨b',off',none⟩) q d):=(World.cell?_alloc_lt _ _ _ (by simp; omega)).trans hbox'
    have v2:(wr.alloc (.cells #[.slice Ak (rowN L k) ck] 45)).cell? ⟨wr.heap.size,0,none⟩=some (.slice Ak (rowN L k) ck):=cell_new0 _ _ _;have r1:=(((hrec.below hb).mono hb.size).alloc (Nat.le_refl _) (.cells #[.slice Ak (rowN L k) ck] 45)).mono (B':=(wr.alloc (.cells #[.slice Ak (rowN L k) ck] 45)).heap.size) (by simp);have r2:=(((hrec'.below hb).mono hb.size).alloc (Nat.le_refl _) (.cells #[.slice Ak (rowN L k) ck] 45)).mono (B':=(wr.alloc (.cells #[.slice Ak (rowN L k) ck] 45)).heap.size) (by simp);have HB0:=q_ (hb.alloc hz (.cells #[.slice Ak (rowN L k) ck] 45));have hrk:=HR.out k hlt;have hsk:=HS.out k hlt;have ki:(k:Int)<(q:Int):=by omega
    have k0:(0:Int)<=(k:Int):=by omega
    clear hc hc' hb hx hy hrec hrec';cases hp:ribB L M k;all_goals
     have hp':=hp;unfold ribB at hp';go_wp2;go_region_held3 (fun w'=>w'.cell? ⟨wr.heap.size,0,none⟩=some (.slice Ak (rowN L k) ck)/\w'.cell? ⟨w.heap.size,1,none⟩=some (.slice (some ⟨b',off',none⟩) q d)/\w'.cell? ⟨b',off'+k,none⟩=some (.slice Bk (rowN M k) dk)) (first | exact ⟨v2,v1,y0⟩ | (refine ⟨?_,?_,?_⟩ <;> (rw [hcc _ _ (by simp <;> omega)]; assumption))) ((go_at_call 45; refine (iLoadsOk_any _ _ _ (rowZ L k) _ _ _ (rowZ M k) _ (by exact r1) hrk (by exact r2) hsk).mono ?_; rw [hp']; rintro e w1 ⟨rfl,hb1⟩; obtain ⟨hcc,hff⟩:=bcell hb1));have HB1:=q_ (HB0.out.drew.trans (hb1.mono (by simp; omega)))
     have hbx1:=(hb1.cell (p:=⟨w.heap.size,0,none⟩) (by simp; omega)).trans v0
     have hbx2:=(hb1.cell (p:=⟨w.heap.size,1,none⟩) (by simp; omega)).trans v1
     clear hcc hff hb1 hp'
    ·have HF:=q_ (vaultB_3 q hlt hp)
     go_wp2;go_ret;exact ⟨ret_bool HF.out.symm,HB1.out⟩
    ·have HST:=q_ (allTo_step hag hp)
     clear hag;go_wp2;go_roundw
     case rel=>exact ⟨k+1,by omega,by go_num,HST.out,hbx1,hbx2,HB1.out⟩
     case measure=>first | (simp [intOf]; done) | (simp [intOf]; omega)
   ·obtain rfl:k=q:=by omega
    have HF:=q_ (HT.out hag);clear hb hag;go_wp2;go_ret;exact ⟨ret_bool HF.out.symm,HB.out⟩
 ·have HF:=q_ (vaultB_2 L M hqn)
  have hd:((q:Int) != (n:Int))=true:=by simp; omega
  clear hqn;go_enter Tryzx.func20,Tryz.ntmps20;go_wp2_with (go_at_call 43; refine (within_any _ _ _ _).mono ?_; rw [hB]; rintro e w' ⟨rfl,rfl⟩);go_ret;exact ⟨ret_bool HF.out.symm,HA.out⟩
end X
namespace X
open Go.RowKit
def stU (f:Nat->Bool):Nat->Nat
 | 0=>0
 | m+1=>if stU f m=m then (if f m=true then m else m+1) else stU f m
theorem stU_all {f:Nat->Bool}:∀ {m:Nat},(∀ i,i<m->f i=false)->stU f m=m
 | 0,_=>rfl
 | m+1,h=>by simp [stU,stU_all (m:=m) (fun i hi=>h i (by omega)),h m (by omega)]
theorem stU_at {f:Nat->Bool} {k:Nat} (h:∀ i,i<k->f i=false) (hk:f k=true):∀ {m:Nat},k<m->stU f m=k
 | m+1,hm=>by
  by_cases e:k=m
  ·subst e
   simp [stU,stU_all h,hk]
  ·have ih:=stU_at h hk (m:=m) (by omega)
   have:¬ k=m:=e;simp [stU,ih,this]
theorem stU_le (f:Nat->Bool):∀ m,stU f m<=m
 | 0=>Nat.le_refl _
 | m+1=>by
  have:=stU_le f m;simp only [stU];split
  ·split <;> omega
  ·omega
def stopAt (zs:List Int) (x:Int) (i:Nat):Bool:=decide (x<=nth zs ((i+1)*4))
def stoneU (zs:List Int) (n:Nat) (x:Int):Nat:=stU (stopAt zs x) (n - 2)
def shTo (L M:List (Nat × List Int)) (n:Nat) (wq x:Int) (k:Nat):List (Nat × List Int) :=
 (List.range n).map fun i=>if i<k then (rowN M i+1,rowZ M i ++ [(stoneU (rowZ L i) (rowN L i) x:Int),wq,x]) else (rowN M i,rowZ M i)
theorem shTo_len (L M:List (Nat × List Int)) (n:Nat) (wq x:Int) (k:Nat):(shTo L M n wq x k).length=n:=by simp [shTo]
theorem shTo_get {L M:List (Nat × List Int)} {n:Nat} {wq x:Int} {k i:Nat} (hi:i<n) :
  (shTo L M n wq x k).getD i (0,[])=if i<k then (rowN M i+1,rowZ M i ++ [(stoneU (rowZ L i) (rowN L i) x:Int),wq,x]) else (rowN M i,rowZ M i):=by
 simp [shTo,List.getD,hi]
theorem shTo_lt {L M:List (Nat × List Int)} {n:Nat} {wq x:Int} {k i:Nat} (hi:i<n) (hk:i<k):rowN (shTo L M n wq x k) i=rowN M i+1/\rowZ (shTo L M n wq x k) i=rowZ M i ++ [(stoneU (rowZ L i) (rowN L i) x:Int),wq,x]:=by
 have h:=shTo_get (L:=L) (M:=M) (wq:=wq) (x:=x) (k:=k) hi;rw [if_pos hk] at h;exact ⟨by rw [rowN,h],by rw [rowZ,h]⟩
theorem shTo_ge {L M:List (Nat × List Int)} {n:Nat} {wq x:Int} {k i:Nat} (hi:i<n) (hk:¬ i<k):rowN (shTo L M n wq x k) i=rowN M i/\rowZ (shTo L M n wq x k) i=rowZ M i:=by
 have h:=shTo_get (L:=L) (M:=M) (wq:=wq) (x:=x) (k:=k) hi;rw [if_neg hk] at h;exact ⟨by rw [rowN,h],by rw [rowZ,h]⟩
end X
namespace X
open Go.RowKit
theorem stoneUnder_any (A:Option Addr) (n c:Nat) (zs:List Int) (x:Int) (w:World) (h:RecsAt w w.heap.size 4 A n zs) (hn:2<=n) (hn8:n<=1048576) :
  Calls Tryzx.prog 44 #[.agg #[.slice A n c],.int .i64 x] w fun e w'=>e = .returned (.int .i64 (stoneU zs n x))/\Below w.heap.size w w':=by
 have H:=q_ h;have HB0:=q_ ((Below.refl w.heap.size w).alloc (Nat.le_refl _) (.cells #[.slice A n c] 45));have HV0:=q_ (rowF_new1S w (.slice A n c) 45);clear h;obtain ⟨m,rfl⟩:∃ m,n=m+2:=⟨n - 2,by omega⟩;have e0:IntKind.i64.wrap (((m+2:Nat):Int) - 2)=(m:Int):=by rw [show ((m+2:Nat):Int) - 2=(m:Int) by omega]; exact iW (by omega)
 have HU:Hid (stoneU zs (m+2) x=stU (stopAt zs x) m):=q_ rfl;obtain ⟨b,off,rfl,hbB,hc⟩:=H.out.2 (by omega);have HC:=q_ hc;clear hc;go_enter Tryzx.func44,Tryz.ntmps44;go_wp2;go_loopw [12] (fun v12 wr=>∃ k:Nat,v12 = .int .i64 k/\k<=m/\Hid (∀ i,i<k->stopAt zs x i=false)/\Hid (RowF wr w.heap.size 45 1 (fun _ => .slice (some ⟨b,off,none⟩) (m+2) c))/\Hid (Below w.heap.size w wr)) (fun v12 _=>m - (intOf v12).toNat)
 case atStart=>exact ⟨0,rfl,Nat.zero_le _,q_ (fun i hi=>absurd hi (by omega)),HV0,HB0⟩
 case round =>
  clear HB0 HV0;obtain ⟨k,rfl,hk,HF,HV,HB⟩:=hrel;have a0:wr.cell? ⟨w.heap.size,0,none⟩=some (.slice (some ⟨b,off,none⟩) (m+2) c):=HV.out.cell (i:=0) (by omega);by_cases hlt:k<m
  ·have km:(k:Int)<(m:Int):=by omega
   have e1:IntKind.i64.wrap ((k:Int)+1)=(k:Int)+1:=iW (by omega);have k1:(0:Int)<=(k:Int)+1:=by omega
   have k2:(k:Int)+1<((m+2:Nat):Int):=by omega
   have x0:wr.cell? ⟨b,off+(k+1)*4,none⟩=some (.int .i64 (nth zs ((k+1)*4))):=(HB.out.cell (p:=⟨b,off+(k+1)*4,none⟩) (by exact hbB)).trans (HC.out _ (by omega));have HP:Hid (stopAt zs x k=decide (x<=nth zs ((k+1)*4))):=rfl;have e3:((k:Int)+1).toNat=k+1:=by omega
   generalize nth zs ((k+1)*4)=X at *
   by_cases hx:x<=X
   ·have HT:Hid (stoneU zs (m+2) x=k):=q_ (by rw [HU.out]; exact stU_at HF.out (by rw [HP.out]; exact decide_eq_true hx) hlt)
    go_wp2;all_goals (try go_quiet (fail))
    go_wp2;go_ret;exact ⟨ret_int (by rw [HT.out]),by first | exact HB.out | exact below_drewN HB.out _⟩
   ·have HN:Hid (∀ i,i<k+1->stopAt zs x i=false):=q_ (fun i hi=>by
     by_cases e:i=k
     ·subst e; rw [HP.out]; exact decide_eq_false hx
     ·exact HF.out i (by omega))
    go_wp2;go_roundw
    case rel=>exact ⟨k+1,by go_num,by omega,HN,HV,HB⟩
    case measure=>simp [intOf]; omega
  ·obtain rfl:m=k:=by omega
   have km:¬ (m:Int)<(m:Int):=by omega
   have HT:Hid (stoneU zs (m+2) x=m):=q_ (by rw [HU.out]; exact stU_all HF.out);go_wp2;go_ret;exact ⟨ret_int (by rw [HT.out]),HB.out⟩
end X
end Go.Proofs.YtjcgklifabcfkaaGreat
