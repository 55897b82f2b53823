/-
  Texts that the law stands on, part 26.
-/
import Derived.Test.YtjcgklifabcfkaaGreatV25
set_option maxRecDepth 100000
set_option linter.unusedVariables false
set_option linter.unusedSimpArgs false
set_option maxHeartbeats 12800000
namespace Go.Proofs.YtjcgklifabcfkaaGreat
namespace X
open Go.RowKit
def FacCalls (f:FuncId) (F:Fac):Prop:=∀ (ax ay bx b_y:Int) (w:World),ptB ax ay=true->ptB bx b_y=true ->
 Calls Tryzx.prog f #[.agg #[.int .i64 ax,.int .i64 ay],.agg #[.int .i64 bx,.int .i64 b_y]] w fun e w'=>e = .returned (.int .i64 (F ax ay bx b_y))/\Below w.heap.size w w'
theorem facOne_calls:FacCalls 172 facOne:=by
 intro ax ay bx b_y w ha hb;rw [ptB_iff] at ha hb;go_enter Tryzx.func172,Tryz.ntmps172;go_wp2;go_ret;exact ⟨rfl,(bnw _ _).alloc (by simp) _⟩
theorem overAreaTwice_any (A:Option Addr) (n c:Nat) (zs:List Int) (w:World) (h:RecsAt w w.heap.size 2 A n zs) :
  Calls Tryzx.prog 168 #[.agg #[.slice A n c],.func (.func 172) #[] #[]] w fun e w'=>e = .returned (.int .i64 (overI facOne zs n))/\Below w.heap.size w w':=by
 have hF:FacOk facOne:=facOne_ok;have hC:FacCalls 172 facOne:=facOne_calls;have HA:=q_ ((Below.refl w.heap.size w).alloc (Nat.le_refl _) (.cells #[.slice A n c] 127));have H0:RecsAt (w.alloc (.cells #[.slice A n c] 127)) (w.alloc (.cells #[.slice A n c] 127)).heap.size 2 A n zs:=(h.alloc (Nat.le_refl _) _).mono (by simp);cases hs:stoneB zs n
 ·have HF:=q_ (overI_f (F:=facOne) hs)
  go_enter Tryzx.func168,Tryz.ntmps168;go_wp2_with fail
  refine (iStoneOk_any _ _ _ zs _ H0).mono ?_;rw [hs];rintro e w1 ⟨rfl,hb1⟩;have HB1:=q_ (HA.out.trans (hb1.mono (by simp)));clear hb1 H0;go_wp2;go_ret;exact ⟨ret_int HF.out.symm,HB1.out⟩
 ·have ho:=stoneB_out hs
  have HT:=q_ (overI_t (F:=facOne) hs);have hn3:=ho.1.1;have hn6:=ho.1.2;have HPT:=q_ ho.2.1;have HBD:=q_ (overTo_bd hF ho.2.1);obtain ⟨b,off,rfl,hbB,hc⟩:=h.2 (by omega);have HC:=q_ hc;have HFC:=q_ hC;have HFO:=q_ hF;clear hc h ho hC hF;go_enter Tryzx.func168,Tryz.ntmps168;go_wp2_with fail
  refine (iStoneOk_any _ _ _ zs _ H0).mono ?_;rw [hs];rintro e w1 ⟨rfl,hb1⟩;have HB1:=q_ (HA.out.trans (hb1.mono (by simp)));have hbox1:=(hb1.cell (p:=⟨w.heap.size,0,none⟩) (by simp)).trans (cell_new0 _ _ _);clear hb1 H0 hs;go_wp2;go_loopw [5,15] (fun s i wr=>∃ j:Nat,j<=n/\i = .int .i64 j/\s = .int .i64 (overTo facOne zs n j)/\wr.cell? ⟨w.heap.size,0,none⟩=some (.slice (some ⟨b,off,none⟩) n c)/\Below w.heap.size w wr) (fun _ i _=>n - (intOf i).toNat)
  case atStart=>exact ⟨0,Nat.zero_le _,rfl,rfl,hbox1,HB1.out⟩
  case round =>
   clear HB1 HA hbox1;obtain ⟨j,hj,rfl,rfl,hbox,hb⟩:=hrel;have HB:=q_ hb;have hgl:=World.block_lt_of_cell? _ _ hbox;simp only at hgl;have hz0:=hb.size;by_cases hlt:j<n
   ·have hm1:(j+1) % n<n:=Nat.mod_lt _ (by omega)
    obtain ⟨x0,x1⟩:=ptCells (fun i hi=>(hb.cell (by exact hbB)).trans (HC.out i hi)) hlt;obtain ⟨y0,y1⟩:=ptCells (fun i hi=>(hb.cell (by exact hbB)).trans (HC.out i hi)) hm1;have r1:Int.tmod ((j:Int)+1) (n:Int)=(((j+1) % n:Nat):Int):=rem_nat (j+1) n;have hpk:=HPT.out j hlt;have hp1:=HPT.out _ hm1;have HST:=q_ (show overTo facOne zs n (j+1)=overTo facOne zs n j+part facOne zs j ((j+1) % n) from rfl);have hb0:=HBD.out j (by omega);have hpb:=part_bd HFO.out hpk hp1;clear hb;unfold ptA at hpk hp1;have HPX:=hpk;have HPY:=hp1;generalize (j+1) % n=j1 at *
    have i1:IntKind.i64.wrap ((j:Int)+1)=(j:Int)+1:=iW (by omega);have i3:IntKind.i64.wrap (j1:Int)=(j1:Int):=iW (by omega);have i5:(j:Int)<(n:Int):=by omega
    have i6:(j1:Int)<(n:Int):=by omega
    have i8:¬ n=0:=by omega
    have i9:¬ (n:Int)=0:=by omega
    have i10:((n:Int) == 0)=false:=by simp; omega
    have i11:(0:Int)<=(j:Int):=by omega
    have i12:(0:Int)<=(j1:Int):=by omega
    have l1:b<wr.heap.size:=by omega
    have l2:b<wr.heap.size+1:=by omega
    have l3:w.heap.size<wr.heap.size+1:=by omega
    have l4:¬ b=wr.heap.size:=by omega
    have l5:¬ b=wr.heap.size+1:=by omega
    have l6:¬ w.heap.size=wr.heap.size:=by omega
    have l7:¬ w.heap.size=wr.heap.size+1:=by omega
    have hcr:=crossI_bd hpk hp1;have hfb:=HFO.out _ _ _ _ hpk hp1;unfold part at HST hpb;unfold crossI at HST hpb hcr;rw [ptB_iff] at HPX HPY;have hmA:=mul_bd (m:=60) (n:=60) (a:=nth zs (j*2)) (b:=nth zs (j1*2+1)) (by omega) (by omega);have hmB:=mul_bd (m:=60) (n:=60) (a:=nth zs (j*2+1)) (b:=nth zs (j1*2)) (by omega) (by omega);clear HPX HPY;generalize nth zs (j*2)=ax at *
    generalize nth zs (j*2+1)=ay at *
    generalize nth zs (j1*2)=bx at *
    generalize nth zs (j1*2+1)=b_y at *
    generalize overTo facOne zs n j=S at *
    have e1:IntKind.i64.wrap (ax*b_y)=ax*b_y:=iW (by omega);have e2:IntKind.i64.wrap (ay*bx)=ay*bx:=iW (by omega);have e3:IntKind.i64.wrap (ax*b_y - ay*bx)=ax*b_y - ay*bx:=iW (by omega);have e4:IntKind.i64.wrap (facOne ax ay bx b_y*(ax*b_y - ay*bx))=facOne ax ay bx b_y*(ax*b_y - ay*bx):=iW (by omega);have e5:IntKind.i64.wrap (S+facOne ax ay bx b_y*(ax*b_y - ay*bx))=S+facOne ax ay bx b_y*(ax*b_y - ay*bx):=iW (by omega);go_wp2;go_region
    ·go_wp2
     go_region_held3 (fun w'=>w'.cell? ⟨wr.heap.size,0,none⟩=some (.int .i64 ax)/\w'.cell? ⟨wr.heap.size,1,none⟩=some (.int .i64 ay)/\w'.cell? ⟨wr.heap.size+1,0,none⟩=some (.int .i64 bx)/\w'.cell? ⟨wr.heap.size+1,1,none⟩=some (.int .i64 b_y)) (first | (go_keep; done) | (refine ⟨?_,?_,?_,?_⟩ <;> (rw [hcc _ _ (by simp <;> omega)]; go_keep))) ((refine (HFC.out _ _ _ _ _ hpk hp1).mono ?_; rintro e w2 ⟨rfl,hb2⟩; obtain ⟨hcc,hff⟩:=bcell hb2));have HB2:=q_ ((((HB.out.alloc hz0 _).alloc (by simp; omega) _).drew.drew).trans (hb2.mono (by simp; omega)))
     have hbox2:=(hb2.cell (p:=⟨w.heap.size,0,none⟩) (by simp; omega)).trans ((World.cell?_alloc_lt _ _ _ (by simp; omega)).trans ((World.cell?_alloc_lt _ _ _ (by simp; omega)).trans hbox))
     clear hcc hff hb2;go_wp2;go_roundw
     case rel=>exact ⟨j+1,by omega,by go_num,by rw [HST.out],hbox2,HB2.out⟩
     case measure=>first | (simp [intOf]; done) | (simp [intOf]; omega)
    ·go_wp2
     go_region_held3 (fun w'=>w'.cell? ⟨wr.heap.size+1,0,none⟩=some (.int .i64 ax)/\w'.cell? ⟨wr.heap.size+1,1,none⟩=some (.int .i64 ay)/\w'.cell? ⟨wr.heap.size,0,none⟩=some (.int .i64 bx)/\w'.cell? ⟨wr.heap.size,1,none⟩=some (.int .i64 b_y)) (first | (go_keep; done) | (refine ⟨?_,?_,?_,?_⟩ <;> (rw [hcc _ _ (by simp <;> omega)]; go_keep))) ((refine (HFC.out _ _ _ _ _ hpk hp1).mono ?_; rintro e w2 ⟨rfl,hb2⟩; obtain ⟨hcc,hff⟩:=bcell hb2));have HB2:=q_ ((((HB.out.alloc hz0 _).alloc (by simp; omega) _).drew.drew).trans (hb2.mono (by simp; omega)))
     have hbox2:=(hb2.cell (p:=⟨w.heap.size,0,none⟩) (by simp; omega)).trans ((World.cell?_alloc_lt _ _ _ (by simp; omega)).trans ((World.cell?_alloc_lt _ _ _ (by simp; omega)).trans hbox))
     clear hcc hff hb2;go_wp2;go_roundw
     case rel=>exact ⟨j+1,by omega,by go_num,by rw [HST.out],hbox2,HB2.out⟩
     case measure=>first | (simp [intOf]; done) | (simp [intOf]; omega)
   ·obtain rfl:j=n:=by omega
    clear hb;go_wp2;go_ret;exact ⟨ret_int HT.out.symm,HB.out⟩
theorem iAreaTwice_any (A:Option Addr) (n c:Nat) (zs:List Int) (w:World) (h:RecsAt w w.heap.size 2 A n zs) :
  Calls Tryzx.prog 167 #[.agg #[.slice A n c]] w fun e w'=>e = .returned (.int .i64 (overI facOne zs n))/\Below w.heap.size w w':=by
 have HA:=q_ ((Below.refl w.heap.size w).alloc (Nat.le_refl _) (.cells #[.slice A n c] 127));have H0:RecsAt (w.alloc (.cells #[.slice A n c] 127)) (w.alloc (.cells #[.slice A n c] 127)).heap.size 2 A n zs:=(h.alloc (Nat.le_refl _) _).mono (by simp);go_enter Tryzx.func167,Tryz.ntmps167;go_wp2_with fail
 refine (overAreaTwice_any _ _ _ zs _ H0).mono ?_;rintro e w1 ⟨rfl,hb1⟩;have HB1:=q_ (HA.out.trans (hb1.mono (by simp)));clear hb1;go_wp2;go_ret;exact ⟨rfl,HB1.out⟩
theorem iWeightOf_any (A:Option Addr) (n c:Nat) (zs:List Int) (w:World) (h:RecsAt w w.heap.size 2 A n zs) :
  Calls Tryzx.prog 146 #[.agg #[.slice A n c]] w fun e w'=>e = .returned (.int .i64 (weightI zs n))/\Below w.heap.size w w':=by
 have HA:=q_ ((Below.refl w.heap.size w).alloc (Nat.le_refl _) (.cells #[.slice A n c] 127));have H0:RecsAt (w.alloc (.cells #[.slice A n c] 127)) (w.alloc (.cells #[.slice A n c] 127)).heap.size 2 A n zs:=(h.alloc (Nat.le_refl _) _).mono (by simp);have hbd:=overI_bd facOne_ok zs n;go_enter Tryzx.func146,Tryz.ntmps146;go_wp2_with fail
 refine (iAreaTwice_any _ _ _ zs _ H0).mono ?_;rintro e w1 ⟨rfl,hb1⟩;have HB1:=q_ (HA.out.trans (hb1.mono (by simp)));clear hb1;go_wp2;go_ret;exact ⟨ret_int (by unfold weightI; rfl),HB1.out⟩
theorem facX_calls:FacCalls 169 facX:=by
 intro ax ay bx b_y w ha hb;rw [ptB_iff] at ha hb;go_enter Tryzx.func169,Tryz.ntmps169;go_wp2;go_ret;exact ⟨rfl,(bnw _ _).alloc (by simp) _⟩
theorem overMomentOf_any (A:Option Addr) (n c:Nat) (zs:List Int) (w:World) (h:RecsAt w w.heap.size 2 A n zs) :
  Calls Tryzx.prog 168 #[.agg #[.slice A n c],.func (.func 169) #[] #[]] w fun e w'=>e = .returned (.int .i64 (overI facX zs n))/\Below w.heap.size w w':=by
 have hF:FacOk facX:=facX_ok;have hC:FacCalls 169 facX:=facX_calls;have HA:=q_ ((Below.refl w.heap.size w).alloc (Nat.le_refl _) (.cells #[.slice A n c] 127));have H0:RecsAt (w.alloc (.cells #[.slice A n c] 127)) (w.alloc (.cells #[.slice A n c] 127)).heap.size 2 A n zs:=(h.alloc (Nat.le_refl _) _).mono (by simp);cases hs:stoneB zs n
 ·have HF:=q_ (overI_f (F:=facX) hs)
  go_enter Tryzx.func168,Tryz.ntmps168;go_wp2_with fail
  refine (iStoneOk_any _ _ _ zs _ H0).mono ?_;rw [hs];rintro e w1 ⟨rfl,hb1⟩;have HB1:=q_ (HA.out.trans (hb1.mono (by simp)));clear hb1 H0;go_wp2;go_ret;exact ⟨ret_int HF.out.symm,HB1.out⟩
 ·have ho:=stoneB_out hs
  have HT:=q_ (overI_t (F:=facX) hs);have hn3:=ho.1.1;have hn6:=ho.1.2;have HPT:=q_ ho.2.1;have HBD:=q_ (overTo_bd hF ho.2.1);obtain ⟨b,off,rfl,hbB,hc⟩:=h.2 (by omega);have HC:=q_ hc;have HFC:=q_ hC;have HFO:=q_ hF;clear hc h ho hC hF;go_enter Tryzx.func168,Tryz.ntmps168;go_wp2_with fail
  refine (iStoneOk_any _ _ _ zs _ H0).mono ?_;rw [hs];rintro e w1 ⟨rfl,hb1⟩;have HB1:=q_ (HA.out.trans (hb1.mono (by simp)));have hbox1:=(hb1.cell (p:=⟨w.heap.size,0,none⟩) (by simp)).trans (cell_new0 _ _ _);clear hb1 H0 hs;go_wp2;go_loopw [5,15] (fun s i wr=>∃ j:Nat,j<=n/\i = .int .i64 j/\s = .int .i64 (overTo facX zs n j)/\wr.cell? ⟨w.heap.size,0,none⟩=some (.slice (some ⟨b,off,none⟩) n c)/\Below w.heap.size w wr) (fun _ i _=>n - (intOf i).toNat)
  case atStart=>exact ⟨0,Nat.zero_le _,rfl,rfl,hbox1,HB1.out⟩
  case round =>
   clear HB1 HA hbox1;obtain ⟨j,hj,rfl,rfl,hbox,hb⟩:=hrel;have HB:=q_ hb;have hgl:=World.block_lt_of_cell? _ _ hbox;simp only at hgl;have hz0:=hb.size;by_cases hlt:j<n
   ·have hm1:(j+1) % n<n:=Nat.mod_lt _ (by omega)
    obtain ⟨x0,x1⟩:=ptCells (fun i hi=>(hb.cell (by exact hbB)).trans (HC.out i hi)) hlt;obtain ⟨y0,y1⟩:=ptCells (fun i hi=>(hb.cell (by exact hbB)).trans (HC.out i hi)) hm1;have r1:Int.tmod ((j:Int)+1) (n:Int)=(((j+1) % n:Nat):Int):=rem_nat (j+1) n;have hpk:=HPT.out j hlt;have hp1:=HPT.out _ hm1;have HST:=q_ (show overTo facX zs n (j+1)=overTo facX zs n j+part facX zs j ((j+1) % n) from rfl);have hb0:=HBD.out j (by omega);have hpb:=part_bd HFO.out hpk hp1;clear hb;unfold ptA at hpk hp1;have HPX:=hpk;have HPY:=hp1;generalize (j+1) % n=j1 at *
    have i1:IntKind.i64.wrap ((j:Int)+1)=(j:Int)+1:=iW (by omega);have i3:IntKind.i64.wrap (j1:Int)=(j1:Int):=iW (by omega);have i5:(j:Int)<(n:Int):=by omega
    have i6:(j1:Int)<(n:Int):=by omega
    have i8:¬ n=0:=by omega
    have i9:¬ (n:Int)=0:=by omega
    have i10:((n:Int) == 0)=false:=by simp; omega
    have i11:(0:Int)<=(j:Int):=by omega
    have i12:(0:Int)<=(j1:Int):=by omega
    have l1:b<wr.heap.size:=by omega
    have l2:b<wr.heap.size+1:=by omega
    have l3:w.heap.size<wr.heap.size+1:=by omega
    have l4:¬ b=wr.heap.size:=by omega
    have l5:¬ b=wr.heap.size+1:=by omega
    have l6:¬ w.heap.size=wr.heap.size:=by omega
    have l7:¬ w.heap.size=wr.heap.size+1:=by omega
    have hcr:=crossI_bd hpk hp1;have hfb:=HFO.out _ _ _ _ hpk hp1;unfold part at HST hpb;unfold crossI at HST hpb hcr;rw [ptB_iff] at HPX HPY;have hmA:=mul_bd (m:=60) (n:=60) (a:=nth zs (j*2)) (b:=nth zs (j1*2+1)) (by omega) (by omega);have hmB:=mul_bd (m:=60) (n:=60) (a:=nth zs (j*2+1)) (b:=nth zs (j1*2)) (by omega) (by omega);clear HPX HPY;generalize nth zs (j*2)=ax at *
    generalize nth zs (j*2+1)=ay at *
    generalize nth zs (j1*2)=bx at *
    generalize nth zs (j1*2+1)=b_y at *
    generalize overTo facX zs n j=S at *
    have e1:IntKind.i64.wrap (ax*b_y)=ax*b_y:=iW (by omega);have e2:IntKind.i64.wrap (ay*bx)=ay*bx:=iW (by omega);have e3:IntKind.i64.wrap (ax*b_y - ay*bx)=ax*b_y - ay*bx:=iW (by omega);have e4:IntKind.i64.wrap (facX ax ay bx b_y*(ax*b_y - ay*bx))=facX ax ay bx b_y*(ax*b_y - ay*bx):=iW (by omega);have e5:IntKind.i64.wrap (S+facX ax ay bx b_y*(ax*b_y - ay*bx))=S+facX ax ay bx b_y*(ax*b_y - ay*bx):=iW (by omega);go_wp2;go_region
    ·go_wp2
     go_region_held3 (fun w'=>w'.cell? ⟨wr.heap.size,0,none⟩=some (.int .i64 ax)/\w'.cell? ⟨wr.heap.size,1,none⟩=some (.int .i64 ay)/\w'.cell? ⟨wr.heap.size+1,0,none⟩=some (.int .i64 bx)/\w'.cell? ⟨wr.heap.size+1,1,none⟩=some (.int .i64 b_y)) (first | (go_keep; done) | (refine ⟨?_,?_,?_,?_⟩ <;> (rw [hcc _ _ (by simp <;> omega)]; go_keep))) ((refine (HFC.out _ _ _ _ _ hpk hp1).mono ?_; rintro e w2 ⟨rfl,hb2⟩; obtain ⟨hcc,hff⟩:=bcell hb2));have HB2:=q_ ((((HB.out.alloc hz0 _).alloc (by simp; omega) _).drew.drew).trans (hb2.mono (by simp; omega)))
     have hbox2:=(hb2.cell (p:=⟨w.heap.size,0,none⟩) (by simp; omega)).trans ((World.cell?_alloc_lt _ _ _ (by simp; omega)).trans ((World.cell?_alloc_lt _ _ _ (by simp; omega)).trans hbox))
     clear hcc hff hb2;go_wp2;go_roundw
     case rel=>exact ⟨j+1,by omega,by go_num,by rw [HST.out],hbox2,HB2.out⟩
     case measure=>first | (simp [intOf]; done) | (simp [intOf]; omega)
    ·go_wp2
     go_region_held3 (fun w'=>w'.cell? ⟨wr.heap.size+1,0,none⟩=some (.int .i64 ax)/\w'.cell? ⟨wr.heap.size+1,1,none⟩=some (.int .i64 ay)/\w'.cell? ⟨wr.heap.size,0,none⟩=some (.int .i64 bx)/\w'.cell? ⟨wr.heap.size,1,none⟩=some (.int .i64 b_y)) (first | (go_keep; done) | (refine ⟨?_,?_,?_,?_⟩ <;> (rw [hcc _ _ (by simp <;> omega)]; go_keep))) ((refine (HFC.out _ _ _ _ _ hpk hp1).mono ?_; rintro e w2 ⟨rfl,hb2⟩; obtain ⟨hcc,hff⟩:=bcell hb2));have HB2:=q_ ((((HB.out.alloc hz0 _).alloc (by simp; omega) _).drew.drew).trans (hb2.mono (by simp; omega)))
     have hbox2:=(hb2.cell (p:=⟨w.heap.size,0,none⟩) (by simp; omega)).trans ((World.cell?_alloc_lt _ _ _ (by simp; omega)).trans ((World.cell?_alloc_lt _ _ _ (by simp; omega)).trans hbox))
     clear hcc hff hb2;go_wp2;go_roundw
     case rel=>exact ⟨j+1,by omega,by go_num,by rw [HST.out],hbox2,HB2.out⟩
     case measure=>first | (simp [intOf]; done) | (simp [intOf]; omega)
   ·obtain rfl:j=n:=by omega
    clear hb;go_wp2;go_ret;exact ⟨ret_int HT.out.symm,HB.out⟩
theorem iMomentOf_any (A:Option Addr) (n c:Nat) (zs:List Int) (w:World) (h:RecsAt w w.heap.size 2 A n zs) :
  Calls Tryzx.prog 147 #[.agg #[.slice A n c]] w fun e w'=>e = .returned (.int .i64 (overI facX zs n))/\Below w.heap.size w w':=by
 have HA:=q_ ((Below.refl w.heap.size w).alloc (Nat.le_refl _) (.cells #[.slice A n c] 127));have H0:RecsAt (w.alloc (.cells #[.slice A n c] 127)) (w.alloc (.cells #[.slice A n c] 127)).heap.size 2 A n zs:=(h.alloc (Nat.le_refl _) _).mono (by simp);go_enter Tryzx.func147,Tryz.ntmps147;go_wp2_with fail
 refine (overMomentOf_any _ _ _ zs _ H0).mono ?_;rintro e w1 ⟨rfl,hb1⟩;have HB1:=q_ (HA.out.trans (hb1.mono (by simp)));clear hb1;go_wp2;go_ret;exact ⟨rfl,HB1.out⟩
end X
namespace X
open Go.RowKit
theorem infoWt:(Tryzx.prog.info? 139).map (fun i=>(i.zero,i.size,i.bytes))=some (some (.agg #[.int .i64 0,.int .i64 0]),2,16):=by kernel_rfl
theorem box_set {w:World} {g:Nat} {t:TypeId} {f:Nat->Value} (v:Value) (h:RowF w g t 1 f):Box (w.setCell ⟨g,0,none⟩ v) g v :=
 ⟨by have:=(h.set 0 v).cell (i:=0) (by omega); simpa using this,by simpa using h.lt⟩
theorem rowF_new1 (w:World) (u:Value) (t:TypeId):RowF (w.alloc (.cells #[u] t)) w.heap.size t 1 (fun _=>u):=RowF.of_row (World.rowIs_alloc w #[u] t (fun _=>u) (fun i hi=>by simp at hi; subst hi; rfl))
theorem rowF_new3 (w:World) (a b c:Int) (T:TypeId):RowF (w.alloc (.cells #[.int .i64 a,.int .i64 b,.int .i64 c] T)) w.heap.size T 3 (ints [a,b,c]) :=
 RowF.of_row (World.rowIs_alloc w #[.int .i64 a,.int .i64 b,.int .i64 c] T _ (fun j hj=>by simp at hj; match j,hj with | 0,_=>rfl | 1,_=>rfl | 2,_=>rfl))
def WtsPost (w:World) (L:List Int) (m:Nat) (e:Ending) (w':World):Prop :=
 ∃ g,e = .returned (.slice (some ⟨g,0,none⟩) m m)/\w.heap.size<=g/\RowF w' g 139 (m*2) (ints L)/\Below w.heap.size w w'
theorem wmL_fill {zs ls:List Int} {i m k:Nat} (hk:k<m):(fun j=>if j=k*2+1 then Value.int .i64 (kmTo zs ls k i) else if j=k*2 then Value.int .i64 (kwTo zs ls k i) else fill (wmL zs ls i m) (k*2) j)=fill (wmL zs ls i m) ((k+1)*2):=by
 funext j
 have h:=wmL_nth zs ls i hk;have h2:=fill_step2 (wmL zs ls i m) (k*2) j;rw [h.1,h.2] at h2;rw [h2,show (k+1)*2=k*2+2 by omega]
theorem wmL_load {zs ls:List Int} {i m k:Nat} (hk:k<m) (h:nth ls (i*3)=(k:Int)):∀ j,j<m*2->(if j=k*2+1 then Value.int .i64 (kmTo zs ls k (i+1)) else if j=k*2 then Value.int .i64 (kwTo zs ls k (i+1)) else ints (wmL zs ls i m) j)=ints (wmL zs ls (i+1) m) j:=by
 intro j hj;have h1:=wmL_nth zs ls (i+1) hk;by_cases e1:j=k*2+1
 ·subst e1; rw [if_pos rfl,ints_def,h1.2]
 ·by_cases e2:j=k*2
  ·subst e2; rw [if_neg e1,if_pos rfl,ints_def,h1.1]
  ·rw [if_neg e1,if_neg e2,ints_def,ints_def]
   have hne:¬ nth ls (i*3)=((j / 2:Nat):Int):=by omega
   have ha:=wmL_nth zs ls i (m:=m) (k:=j / 2) (by omega);have hb:=wmL_nth zs ls (i+1) (m:=m) (k:=j / 2) (by omega);rw [kwTo_f zs hne,kmTo_f zs hne] at hb;rcases Nat.mod_two_eq_zero_or_one j with e | e
   ·rw [show j=j / 2*2 by omega,ha.1,hb.1]
   ·rw [show j=j / 2*2+1 by omega,ha.2,hb.2]
theorem weightsOf_any (A : Option Addr) (n c : Nat) (zs : List Int) (B : Option Addr) (q d : Nat) (ls : List Int) (w : World) (h : RecsAt w w.heap.size 4 A n zs) (hl : RecsAt w w.heap.size 3 B q ls) (hL : loadsB zs n ls q = true) :
    Calls Tryzx.prog 112 #[.agg #[.slice A n c], .slice B q d] w (WtsPost w (wmL zs ls q (n - 1)) (n - 1)) := by
  obtain ⟨hA, hq6, hLA⟩ := loadsB_out hL;obtain ⟨hn8, hpt⟩ := archB_out hA;obtain ⟨m, rfl⟩ : ∃ m, n = m + 1 := ⟨n - 1, by omega⟩;rw [Nat.add_sub_cancel] at hpt ⊢;have hmk := fun W => run_make_recs (P := Tryzx.prog) 162 139 2 16 #[.int .i64 0, .int .i64 0] Tryzx.underlying162 infoWt m (by omega) (by omega) W
  have HPT := q_ hpt;have HLA := q_ hLA;have HKB := q_ (fun k i hi => kwTo_bd zs hLA hq6 k (i := i) hi);have HMB := q_ (fun k i hi => kmTo_bd zs hLA hq6 k (i := i) hi);obtain ⟨b, off, rfl, hbB, hcell⟩ := h.2 (by omega);have HC := q_ (fun j (hj : j < m + 1) => jtCells hcell hj);have HLD := q_ hl;have e1 : ((m + 1 : Nat) : Int) - 1 = (m : Int) := by omega
  have e2 : IntKind.i64.wrap (((m + 1 : Nat) : Int) - 1) = (m : Int) := by rw [e1]; exact iW (by omega)
  have HB0 := q_ (((Below.refl w.heap.size w).alloc (Nat.le_refl _) (.cells #[.slice (some ⟨b, off, none⟩) (m + 1) c] 45)).alloc (by simp) (.cells (madeCells #[.int .i64 0, .int .i64 0] (m * 2)) 139));have HX0 := q_ ((Box.new w (.slice (some ⟨b, off, none⟩) (m + 1) c) 45).alloc (.cells (madeCells #[.int .i64 0, .int .i64 0] (m * 2)) 139));have HR0 : Hid (RowF ((w.alloc (.cells #[.slice (some ⟨b, off, none⟩) (m + 1) c] 45)).alloc (.cells (madeCells #[.int .i64 0, .int .i64 0] (m * 2)) 139)) (w.heap.size + 1) 139 (m * 2) (fill (wmL zs ls 0 m) (0 * 2))) := by
    have h := RowF.of_row (rowIs_made0 (w.alloc (.cells #[.slice (some ⟨b, off, none⟩) (m + 1) c] 45)) #[.int .i64 0, .int .i64 0] 139 (m * 2) (fun j hj => by simp at hj; match j, hj with | 0, _ => rfl | 1, _ => rfl) (by simp) (wmL zs ls 0 m))
    rw [World.size_alloc] at h;exact h
  clear hcell h hl hL hA hLA hpt;go_enter Tryzx.func112, Tryz.ntmps112;go_wp2;clear hmk;go_loopw [18] (fun i wr => ∃ k : Nat, k <= m /\ i = .int .i64 k /\ Hid (RowF wr (w.heap.size + 1) 139 (m * 2) (fill (wmL zs ls 0 m) (k * 2))) /\ Hid (Box wr w.heap.size (.slice (some ⟨b, off, none⟩) (m + 1) c)) /\ Hid (Below w.heap.size w wr)) (fun i _ => m - (intOf i).toNat)
  case atStart => exact ⟨0, Nat.zero_le _, rfl, HR0, HX0, HB0⟩
  case round =>
    clear HR0 HX0 HB0;obtain ⟨k, hk, rfl, HR, HX, HB⟩ := hrel;by_cases hlt : k < m
    · have hq := HC.out k (by omega)
      have hq2 := HC.out (k + 1) (by omega);have hz := HB.out.size;have hbr : b < wr.heap.size := by omega
      have hgl := HX.out.2;have hrl := HR.out.lt;have hbox := HX.out.1;have x0 := (HB.out.cell (p := ⟨b, off + k * 4, none⟩) hbB).trans hq.1;have x1 := (HB.out.cell (p := ⟨b, off + k * 4 + 1, none⟩) hbB).trans hq.2.1;have x2 := (HB.out.cell (p := ⟨b, off + k * 4 + 2, none⟩) hbB).trans hq.2.2.1;have x3 := (HB.out.cell (p := ⟨b, off + k * 4 + 3, none⟩) hbB).trans hq.2.2.2;have y0 := (HB.out.cell (p := ⟨b, off + (k + 1) * 4, none⟩) hbB).trans hq2.1;have y1 := (HB.out.cell (p := ⟨b, off + (k + 1) * 4 + 1, none⟩) hbB).trans hq2.2.1;have y2 := (HB.out.cell (p := ⟨b, off + (k + 1) * 4 + 2, none⟩) hbB).trans hq2.2.2.1;have y3 := (HB.out.cell (p := ⟨b, off + (k + 1) * 4 + 3, none⟩) hbB).trans hq2.2.2.2;have i1 : IntKind.i64.wrap ((k : Int) + 1) = (k : Int) + 1 := iW (by omega);have i2 : (k : Int) < ((m + 1 : Nat) : Int) := by omega
      have i2' : (k : Int) < (m : Int) + 1 := by omega
      have i3 : (k : Int) + 1 < ((m + 1 : Nat) : Int) := by omega
      have i3' : (k : Int) + 1 < (m : Int) + 1 := by omega
      have i4 : (0 : Int) <= (k : Int) + 1 := by omega
      have i5 : ((k : Int) + 1).toNat = k + 1 := by omega
      have i6 : (0 : Int) <= (k : Int) := by omega
      have i7 : (k : Int) < (m : Int) := by omega
      have ne1 : wr.heap.size ≠ w.heap.size := by omega
      have ne2 : wr.heap.size ≠ b := by omega
      have HST : Hid (btwA zs k = btw (nth zs (k * 4)) (nth zs (k * 4 + 1)) (nth zs (k * 4 + 2)) (nth zs (k * 4 + 3)) (nth zs ((k + 1) * 4)) (nth zs ((k + 1) * 4 + 1)) (nth zs ((k + 1) * 4 + 2)) (nth zs ((k + 1) * 4 + 3))) := rfl;have hS : stoneB (btw (nth zs (k * 4)) (nth zs (k * 4 + 1)) (nth zs (k * 4 + 2)) (nth zs (k * 4 + 3)) (nth zs ((k + 1) * 4)) (nth zs ((k + 1) * 4 + 1)) (nth zs ((k + 1) * 4 + 2)) (nth zs ((k + 1) * 4 + 3))) 4 = true := by
        have := HPT.out k hlt;simp only [pairB, Bool.and_eq_true] at this;exact this.1
      clear hq hq2;obtain ⟨wk, rfl⟩ : ∃ wk : World, wk = wr := ⟨_, rfl⟩;go_upto_region 5 with fail
      go_cut [7] (fun s7 wx => ∃ gs gq : Nat, s7 = .pointer (some ⟨gs, 0, none⟩) /\ wk.heap.size <= gs /\ Hid (Box wx gs (.slice (some ⟨gq, 0, none⟩) 4 4)) /\ Hid (RecsAt wx wx.heap.size 2 (some ⟨gq, 0, none⟩) 4 (btwA zs k)) /\ Hid (Below wk.heap.size wk wx))
      case first =>
        go_region_held3 (fun w' => w'.cell? ⟨w.heap.size, 0, none⟩ = some (.slice (some ⟨b, off, none⟩) (m + 1) c) /\ (w'.cell? ⟨b, off + k * 4, none⟩ = some (.int .i64 (nth zs (k * 4))) /\ w'.cell? ⟨b, off + k * 4 + 1, none⟩ = some (.int .i64 (nth zs (k * 4 + 1))) /\ w'.cell? ⟨b, off + k * 4 + 2, none⟩ = some (.int .i64 (nth zs (k * 4 + 2))) /\ w'.cell? ⟨b, off + k * 4 + 3, none⟩ = some (.int .i64 (nth zs (k * 4 + 3)))) /\ (w'.cell? ⟨b, off + (k + 1) * 4, none⟩ = some (.int .i64 (nth zs ((k + 1) * 4))) /\ w'.cell? ⟨b, off + (k + 1) * 4 + 1, none⟩ = some (.int .i64 (nth zs ((k + 1) * 4 + 1))) /\ w'.cell? ⟨b, off + (k + 1) * 4 + 2, none⟩ = some (.int .i64 (nth zs ((k + 1) * 4 + 2))) /\ w'.cell? ⟨b, off + (k + 1) * 4 + 3, none⟩ = some (.int .i64 (nth zs ((k + 1) * 4 + 3))))) (first | exact ⟨hbox, ⟨x0, x1, x2, x3⟩, ⟨y0, y1, y2, y3⟩⟩ | (refine keepA (by assumption) (fun i => ?_) ?_ <;> first | exact cell_alloc_lt (by first | (simp; done) | (simp; omega) | omega) | exact (cell_alloc_lt (by first | (simp; done) | (simp; omega) | omega)).trans (cell_alloc_lt (by first | (simp; done) | (simp; omega) | omega)).symm | exact hcc _ _ (by first | (simp; done) | (simp; omega) | omega) | exact World.cell?_setCell_far _ _ _ _ (by first | (simp; done) | (simp; omega) | omega))) ((go_at_call 99; refine (iBetween_any _ _ _ _ _ _ _ _ _).mono ?_; rintro e w1 ⟨A1, n1, c1, rfl, ht, _, hb1⟩; obtain ⟨rfl, rfl, gq, rfl, hrq, hgq⟩ := ht hS; rw [hS]; obtain ⟨hcc, hff⟩ := bcell hb1; have k1 := hb1.size; simp at k1; have k2 : w1.heap.size ≠ w.heap.size := (by omega); have k3 : w1.heap.size ≠ b := (by omega)))
        · go_wp2_with fail
          go_meet
          have hzk := hb1.size;simp at hzk;have hgl2 := hrq.lt;exact ⟨w1.heap.size, gq, rfl, by omega, q_ (Box.new _ _ _), q_ ((show RowF (w1.alloc _) gq 108 (4 * 2) (ints (btwA zs k)) from hrq.alloc _).recs rfl), q_ (((below_drewN (Below.refl wk.heap.size wk) 1).trans (hb1.mono (by simp))).alloc (by omega) _)⟩
        · go_wp2_with fail
          go_meet
          have hzk := hb1.size;simp at hzk;have hgl2 := hrq.lt;have hrw := (rowF_new1 wk.drew (.slice none 0 0) 127).after hb1;simp at hgq;exact ⟨wk.heap.size, gq, rfl, by omega, q_ (box_set _ hrw), q_ ((show RowF (w1.setCell _ _) gq 108 (4 * 2) (ints (btwA zs k)) from hrq.set_other (by simp; omega) _).recs rfl), q_ ((((below_drewN (Below.refl wk.heap.size wk) 1).alloc (Nat.le_refl _) _).trans (hb1.mono (by simp))).setCell (by simp) _)⟩
      case rest =>
        clear x0 x1 x2 x3 y0 y1 y2 y3 hbox;obtain ⟨gs, gq, rfl, hgs, HBX, HRQ, HBW⟩ := hcut;have HRc := q_ (HR.out.after HBW.out);have HXc := q_ (HX.out.after HBW.out);have HBc := q_ (HB.out.trans (HBW.out.mono hz));have hgsl := HBX.out.2;have bxc := HBX.out.1;have hrlc := HRc.out.lt;have hzc := HBW.out.size;have hnes : w.heap.size + 1 ≠ gs := by omega
        have HSW : Hid (swt zs k = weightI (btwA zs k) 4 /\ smt zs k = overI facX (btwA zs k) 4) := ⟨rfl, rfl⟩;clear HR HX HB;go_wp2;go_region_held3 (fun w' => w'.cell? ⟨gs, 0, none⟩ = some (.slice (some ⟨gq, 0, none⟩) 4 4)) (first | exact bxc | assumption | (refine (World.cell?_setCell_far _ _ _ _ hnes).trans ((World.cell?_setCell_far _ _ _ _ hnes).trans ?_); assumption))
          ((first
            | (go_at_call 146; refine (iWeightOf_any _ _ _ (btwA zs k) _ (by exact HRQ.out)).mono ?_; rintro e w1 ⟨rfl, hb1⟩; have bx1 : w1.cell? ⟨gs, 0, none⟩ = some (.slice (some ⟨gq, 0, none⟩) 4 4) := (hb1.cell (p := ⟨gs, 0, none⟩) (by exact hgsl)).trans bxc; have HQ1 := q_ ((show RecsAt wc.drew wc.drew.heap.size 2 _ 4 (btwA zs k) from HRQ.out).after hb1))
            | (go_at_call 147; refine (iMomentOf_any _ _ _ (btwA zs k) _ HQ1.out).mono ?_; rintro e w2 ⟨rfl, hb2⟩; have HR2 := q_ ((show RowF wc.drew _ _ _ _ from HRc.out).after hb1 |>.after hb2); have bx2 : w2.cell? ⟨gs, 0, none⟩ = some (.slice (some ⟨gq, 0, none⟩) 4 4) := (hb2.cell (p := ⟨gs, 0, none⟩) (by have := hb1.size; simp at this; exact Nat.lt_of_lt_of_le hgsl this)).trans bx1; have d0 := HR2.out.cell (i := k * 2) (by omega); have d1 := HR2.out.cell (i := k * 2 + 1) (by omega); have f0 := HR2.out.frozen (k * 2); have f1 := HR2.out.frozen (k * 2 + 1))))
        have HB3 := q_ ((((below_drewN HBc.out 1).trans (hb1.mono (by simp; omega))).trans (hb2.mono (by have := hb1.size; simp at this; omega))).setCell (p := ⟨w.heap.size + 1, k * 2, none⟩) (by simp) (.int .i64 (weightI (btwA zs k) 4)) |>.setCell (p := ⟨w.heap.size + 1, k * 2 + 1, none⟩) (by simp) (.int .i64 (overI facX (btwA zs k) 4)))
        have HX3 := q_ (((show Box wc.drew _ _ from HXc.out).after hb1).after hb2);have HX4 : Hid (Box ((w2.setCell ⟨w.heap.size + 1, k * 2, none⟩ (.int .i64 (weightI (btwA zs k) 4))).setCell ⟨w.heap.size + 1, k * 2 + 1, none⟩ (.int .i64 (overI facX (btwA zs k) 4))) w.heap.size (.slice (some ⟨b, off, none⟩) (m + 1) c)) :=
          ⟨(World.cell?_setCell_far _ _ _ _ (by simp)).trans ((World.cell?_setCell_far _ _ _ _ (by simp)).trans HX3.out.1), by have := HX3.out.2; simpa using this⟩
        have HR3 : Hid (RowF ((w2.setCell ⟨w.heap.size + 1, k * 2, none⟩ (.int .i64 (weightI (btwA zs k) 4))).setCell ⟨w.heap.size + 1, k * 2 + 1, none⟩ (.int .i64 (overI facX (btwA zs k) 4))) (w.heap.size + 1) 139 (m * 2) (fill (wmL zs ls 0 m) ((k + 1) * 2))) := by
          have h := (HR2.out.set (k * 2) (.int .i64 (weightI (btwA zs k) 4))).set (k * 2 + 1) (.int .i64 (overI facX (btwA zs k) 4));have hf := wmL_fill (zs := zs) (ls := ls) (i := 0) hlt;rw [kwTo_0, kmTo_0, HSW.out.1, HSW.out.2] at hf;rw [<- hf];exact h
        clear d0 d1 f0 f1 hb1 hb2 bx1 bx2 bxc;go_wp2;go_roundw
        case rel => exact ⟨k + 1, by omega, by go_num, HR3, HX4, HB3⟩
        case measure => simp [intOf]; omega
    · obtain rfl : m = k := by omega
      have HR0 : Hid (RowF wr (w.heap.size + 1) 139 (m * 2) (ints (wmL zs ls 0 m))) := HR.out.congr (fun j hj => fill_end _ hj);clear HR HC;go_wp2;go_loopw [47] (fun v wr => ∃ i : Nat, i <= q /\ v = .int .i64 i /\ Hid (RowF wr (w.heap.size + 1) 139 (m * 2) (ints (wmL zs ls i m))) /\ Hid (Below w.heap.size w wr)) (fun v _ => q - (intOf v).toNat)
      case atStart => exact ⟨0, Nat.zero_le _, rfl, HR0, HB⟩
      case round =>
        clear HR0 HB HX;obtain ⟨i, hi, rfl, HR, HB⟩ := hrel;by_cases hli : i < q
        · obtain ⟨b2, off2, rfl, hb2B, hc2⟩ := HLD.out.2 (by omega)
          have hlc := ldCells hc2 hli;have x0 := (HB.out.cell (p := ⟨b2, off2 + i * 3, none⟩) hb2B).trans hlc.1;have x1 := (HB.out.cell (p := ⟨b2, off2 + i * 3 + 1, none⟩) hb2B).trans hlc.2.1;have x2 := (HB.out.cell (p := ⟨b2, off2 + i * 3 + 2, none⟩) hb2B).trans hlc.2.2;have hlo := loadAt_out (HLA.out i hli);obtain ⟨s, hs⟩ : ∃ s : Nat, nth ls (i * 3) = (s : Int) := ⟨(nth ls (i * 3)).toNat, by omega⟩;have hsm : s < m := by omega
          have hz := HB.out.size;have hrl := HR.out.lt;have c0 := HR.out.cell (i := s * 2) (by omega);have c1 := HR.out.cell (i := s * 2 + 1) (by omega);have hwn := wmL_nth zs ls i hsm;rw [ints_def, hwn.1] at c0;rw [ints_def, hwn.2] at c1;have hkb := HKB.out s i (by omega);have hmb := HMB.out s i (by omega);have hkb2 := HKB.out s (i + 1) (by omega);have hmb2 := HMB.out s (i + 1) (by omega);have hwx := wx_bd hlo.2.1 hlo.2.2;have e3 : IntKind.i64.wrap (kwTo zs ls s i + nth ls (i * 3 + 1)) = kwTo zs ls s (i + 1) := by rw [<- kwTo_t zs hs]; exact iW (by omega)
          have e4 : IntKind.i64.wrap (nth ls (i * 3 + 1) * nth ls (i * 3 + 2)) = nth ls (i * 3 + 1) * nth ls (i * 3 + 2) := iW (by omega);have e5 : IntKind.i64.wrap (kmTo zs ls s i + nth ls (i * 3 + 1) * nth ls (i * 3 + 2)) = kmTo zs ls s (i + 1) := by rw [<- kmTo_t zs hs]; exact iW (by omega)
          have HLW := q_ (wmL_load (zs := zs) hsm hs);rw [hs] at x0;have s0 : (0 : Int) <= (s : Int) := by omega
          have s1 : (s : Int) < (m : Int) := by omega
          clear hs hlc hc2 hlo hwn;have HRA := q_ (HR.out.alloc (.cells #[.int .i64 (s : Int), .int .i64 (nth ls (i * 3 + 1)), .int .i64 (nth ls (i * 3 + 2))] 77));have HBA := q_ (HB.out.alloc hz (.cells #[.int .i64 (s : Int), .int .i64 (nth ls (i * 3 + 1)), .int .i64 (nth ls (i * 3 + 2))] 77));have g0 := HRA.out.frozen (s * 2);have g1 := HRA.out.frozen (s * 2 + 1);generalize nth ls (i * 3 + 1) = lw at *
          generalize nth ls (i * 3 + 2) = lx at *
          have HLB : Hid (RowF (wr.alloc (.cells #[.int .i64 (s : Int), .int .i64 lw, .int .i64 lx] 77)) wr.heap.size 77 3 (ints [(s : Int), lw, lx])) := RowF.of_row (World.rowIs_alloc wr #[.int .i64 (s : Int), .int .i64 lw, .int .i64 lx] 77 _ (fun j hj => by simp at hj; match j, hj with | 0, _ => rfl | 1, _ => rfl | 2, _ => rfl))
          clear hkb hmb hkb2 hmb2 hwx;obtain ⟨wk, rfl⟩ : ∃ wk : World, wk = wr := ⟨_, rfl⟩;go_upto_region 11 with fail
          go_cut [10] (fun s10 wx => s10 = .pointer (some ⟨wk.heap.size, 0, none⟩) /\ Hid (RowF wx (w.heap.size + 1) 139 (m * 2) (fun j => if j = s * 2 then Value.int .i64 (kwTo zs ls s (i + 1)) else ints (wmL zs ls i m) j)) /\ Hid (RowF wx wk.heap.size 77 3 (ints [(s : Int), lw, lx])) /\ Hid (Below w.heap.size w wx))
          case first =>
            have HLN : Hid (RowF ((wk.setCell ⟨w.heap.size + 1, s * 2, none⟩ (.int .i64 (kwTo zs ls s (i + 1)))).alloc (.cells #[.int .i64 (s : Int), .int .i64 lw, .int .i64 lx] 77)) wk.heap.size 77 3 (ints [(s : Int), lw, lx])) := by
              have h := rowF_new3 (wk.setCell ⟨w.heap.size + 1, s * 2, none⟩ (.int .i64 (kwTo zs ls s (i + 1)))) (s : Int) lw lx 77;have e : (wk.setCell ⟨w.heap.size + 1, s * 2, none⟩ (.int .i64 (kwTo zs ls s (i + 1)))).heap.size = wk.heap.size := by simp
              rw [e] at h;exact h
            go_region_law (fail)
            all_goals (go_wp2_with fail; go_meet; exact ⟨rfl, q_ ((HR.out.set (s * 2) _).alloc _).drew, q_ HLN.out.drew, q_ ((HB.out.setCell (by simp) _).alloc (by simp; omega) _).drew⟩)
          case rest =>
            clear c0 x0 x1 x2 e3 g0 g1 HRA HLB HBA;obtain ⟨rfl, HRc, HLc, HBc⟩ := hcut;have c1 : wc.cell? ⟨w.heap.size + 1, s * 2 + 1, none⟩ = some (.int .i64 (kmTo zs ls s i)) := by
              have h := HRc.out.cell (i := s * 2 + 1) (by omega);rw [if_neg (by omega), ints_def, (wmL_nth zs ls i hsm).2] at h;exact h
            have y0 : wc.cell? ⟨wk.heap.size, 0, none⟩ = some (.int .i64 (s : Int)) := HLc.out.cell (by omega);have y1 : wc.cell? ⟨wk.heap.size, 1, none⟩ = some (.int .i64 lw) := HLc.out.cell (by omega);have y2 : wc.cell? ⟨wk.heap.size, 2, none⟩ = some (.int .i64 lx) := HLc.out.cell (by omega);have g1 := HRc.out.frozen (s * 2 + 1);have HR4 : Hid (RowF (wc.drew.setCell ⟨w.heap.size + 1, s * 2 + 1, none⟩ (.int .i64 (kmTo zs ls s (i + 1)))) (w.heap.size + 1) 139 (m * 2) (ints (wmL zs ls (i + 1) m))) := (HRc.out.drew.set (s * 2 + 1) _).congr HLW.out;have HB4 : Hid (Below w.heap.size w (wc.drew.setCell ⟨w.heap.size + 1, s * 2 + 1, none⟩ (.int .i64 (kmTo zs ls s (i + 1))))) := q_ (HBc.out.drew.setCell (by simp) _);go_wp2;go_region_law (fail)
            all_goals
              go_wp2;go_roundw
              case rel => exact ⟨i + 1, by omega, by go_num, HR4, HB4⟩
              case measure => simp [intOf]; omega
        · obtain rfl : q = i := by omega
          go_wp2;go_ret;exact ⟨_, rfl, by omega, HR.out, HB.out⟩
end X
namespace X
open Go.RowKit
theorem sum_wm (zs ls:List Int) (q:Nat) {m:Nat}:∀ k,k<=m->sumW (wmL zs ls q m) k=leftW zs ls q k/\sumM (wmL zs ls q m) k=leftM zs ls q k
 | 0,_=>⟨rfl,rfl⟩
 | k+1,hk=>by
  have ih:=sum_wm zs ls q (m:=m) k (by omega);have h:=wmL_nth zs ls q (m:=m) (k:=k) (by omega);simp only [sumW,sumM,leftW,leftM,ih.1,ih.2,h.1,h.2];exact ⟨trivial,trivial⟩
theorem iRowsOfN_any (A : Option Addr) (n c : Nat) (zs : List Int) (B : Option Addr) (q d : Nat) (ls : List Int) (w : World) (h : RecsAt w w.heap.size 4 A n zs) (hn : n <= 1048576) (hl : RecsAt w w.heap.size 3 B q ls) (hq : q <= 1048576) :
    Calls Tryzx.prog 88 #[.agg #[.slice A n c], .slice B q d] w (RowsPostN w (rowsN zs n ls q) (rowsZ zs n ls q)) := by
  have b0 : Below w.heap.size w (w.alloc (.cells #[.slice A n c] 45)) := bnw _ _;have h1 := h.after b0;have l1 := hl.after b0;have bx0 : Box (w.alloc (.cells #[.slice A n c] 45)) w.heap.size (.slice A n c) := Box.new _ _ _;cases hL : loadsB zs n ls q
  · have HF := q_ (rows_f hL)
    go_enter Tryzx.func88, Tryz.ntmps88;go_wp2_with fail
    refine (iLoadsOk_any _ _ _ zs _ _ _ ls _ h1 hn l1 hq).mono ?_;rw [hL];rintro e w1 ⟨rfl, hb1⟩;have HB1 := q_ (below_then b0 hb1);clear hb1;go_wp2;go_ret;exact ⟨⟨_, rfl, by rw [HF.out.1, HF.out.2]; exact OwnR.nil _ _ _ _, HB1.out⟩, fun _ => rfl⟩
  · have HT := q_ (rows_t hL)
    have hA := (loadsB_out hL).1;have hn8 := (archB_out hA).1;have HE := q_ (rowsL_congr (zs := zs) (n := n) (W := sumW (wmL zs ls q (n - 1))) (M := sumM (wmL zs ls q (n - 1))) (W' := leftW zs ls q) (M' := leftM zs ls q) (fun k hk => sum_wm zs ls q k (by omega)));have HWM : Hid (WMok (sumW (wmL zs ls q (n - 1))) (sumM (wmL zs ls q (n - 1))) n) := fun k hk => by
      have e := sum_wm zs ls q (m := n - 1) k (by omega);rw [e.1, e.2];exact wmok_left hL k hk
    go_enter Tryzx.func88, Tryz.ntmps88;go_wp2_with fail
    refine (iLoadsOk_any _ _ _ zs _ _ _ ls _ h1 hn l1 hq).mono ?_;rw [hL];rintro e w1 ⟨rfl, hb1⟩;have HB1 := q_ (below_then b0 hb1);have bx1 := bx0.after hb1;have h2 := h1.after hb1;have l2 := l1.after hb1;have cx1 := bx1.1;clear hb1 b0 h1 l1 bx0 h hl;go_wp2;go_region_held3 (fun w' => w'.cell? ⟨w.heap.size, 0, none⟩ = some (.slice A n c)) (first | exact cx1 | exact cx2 | exact cx3)
      ((first
        | (go_at_call 112; refine (weightsOf_any _ _ _ zs _ _ _ ls _ (by exact h2) (by exact l2) hL).mono ?_; rintro e w2 ⟨g2, rfl, hg2, hr2, hbx2⟩; have hb2 := below_undrew hbx2; have h3 := h2.after hb2; have bx2 := bx1.after hb2; have cx2 := bx2.1; have HB2 := q_ (below_then HB1.out hb2); have s2 : RecsAt w2 w2.heap.size 2 (some ⟨g2, 0, none⟩) (n - 1) (wmL zs ls q (n - 1)) := hr2.recs (wmL_len _ _ _ _))
        | (go_at_call 111; refine (rowsFor_any _ _ _ zs _ _ _ _ (by exact h3) (by exact s2) hA HWM.out).mono ?_; rintro e w3 ⟨v3, rfl, ho3, hb3⟩; have cx3 := (bx2.after hb3).1; have HB3 := q_ (below_then HB2.out hb3))))
    obtain ⟨A3, c3, rfl, _⟩ := ho3.slice;have HO3 := q_ (ho3.weaken HB2.out.size);clear ho3 hb3 hb2 hbx2 hr2 h2 h3 l2 s2 bx1 bx2 cx1 cx2 cx3;go_wp2;go_ret;exact ⟨⟨_, rfl, by rw [HT.out.1, HT.out.2, <- HE.out]; exact HO3.out, HB3.out⟩, fun h0 => by have := HT.out.1; omega⟩
end X
namespace X
open Go.RowKit
theorem rowsN_few (zs:List Int) (n:Nat) (ls:List Int) (q:Nat):rowsN zs n ls q<=17:=by
 unfold rowsN;split
 ·rename_i h
  have:=(archB_out (loadsB_out h).1).1;omega
 ·omega
def thrN (zs:List Int) (n:Nat) (ls:List Int) (q:Nat):Nat:=cornN (rowsZ zs n ls q) (rowsN zs n ls q)
def thrL (zs:List Int) (n:Nat) (ls:List Int) (q:Nat):List Int:=cornL (rowsZ zs n ls q) (rowsN zs n ls q)
def ThrPost (w:World) (m:Nat) (L:List Int) (e:Ending) (w':World):Prop :=
 ∃ v,e = .returned v/\OwnR w' w.heap.size 66 4 v m L/\Below w.heap.size w w'
section
variable (A : Option Addr) (n c : Nat) (zs : List Int) (B : Option Addr) (q d : Nat) (ls : List Int) (w : World) (h : RecsAt w w.heap.size 4 A n zs) (hn : n <= 1048576) (hl : RecsAt w w.heap.size 3 B q ls) (hq : q <= 1048576)
include h hn hl hq
theorem sThr_any:Calls Tryzx.prog 41 #[.agg #[.slice A n c],.slice B q d] w (ThrPost w (thrN zs n ls q) (thrL zs n ls q)):=by
 have b0:Below w.heap.size w (w.alloc (.cells #[.slice A n c] 45)):=bnw _ _;have h1:=h.after b0;have l1:=hl.after b0;have bx0:Box (w.alloc (.cells #[.slice A n c] 45)) w.heap.size (.slice A n c):=Box.new _ _ _;have cx0:=bx0.1;go_enter Tryzx.func41,Tryz.ntmps41;go_wp2_with fail
 refine (sRowsOf_any _ _ _ zs _ _ _ ls _ (by exact h1) hn (by exact l1) hq).mono ?_;rintro e w1 ⟨v1,rfl,ho1,hb1⟩;have HB1:=q_ (below_then b0 hb1);obtain ⟨A1,c1,rfl,_⟩:=ho1.slice;have r1:=ho1.recs;go_wp2_with fail
 refine (sCorners_any _ _ _ (rowsZ zs n ls q) _ (by exact r1) (by have:=rowsN_few zs n ls q; omega)).mono ?_
 rintro e w2 ⟨v2,rfl,ho2,hb2⟩;have HB2:=q_ (below_then HB1.out hb2);have HO2:=q_ (ho2.weaken HB1.out.size);clear ho2 hb2 ho1 hb1 r1 cx0;go_wp2;go_ret;exact ⟨_,rfl,HO2.out,HB2.out⟩
theorem iThr_any:Calls Tryzx.prog 63 #[.agg #[.slice A n c],.slice B q d] w (ThrPost w (thrN zs n ls q) (thrL zs n ls q)):=by
 have b0:Below w.heap.size w (w.alloc (.cells #[.slice A n c] 45)):=bnw _ _;have h1:=h.after b0;have l1:=hl.after b0;have bx0:Box (w.alloc (.cells #[.slice A n c] 45)) w.heap.size (.slice A n c):=Box.new _ _ _;have cx0:=bx0.1;go_enter Tryzx.func63,Tryz.ntmps63;go_wp2_with fail
 refine (iRowsOfN_any _ _ _ zs _ _ _ ls _ (by exact h1) hn (by exact l1) hq).mono ?_;rintro e w1 ⟨⟨v1,rfl,ho1,hb1⟩,hz1⟩;have HB1:=q_ (below_then b0 hb1);obtain ⟨A1,c1,rfl,_⟩:=ho1.slice;have r1:=ho1.recs;have n1:rowsN zs n ls q=0->A1=none:=fun h0=>by have:=hz1 h0; simp at this; exact this.1
 go_wp2_with fail
 refine (xCorners_any _ _ _ (rowsZ zs n ls q) _ (by exact r1) (by have:=rowsN_few zs n ls q; omega) n1).mono ?_
 rintro e w2 ⟨v2,rfl,he2,hb2⟩;have HB2:=q_ (below_then HB1.out hb2);have HO2:=q_ (he2.own.weaken HB1.out.size);clear he2 hb2 ho1 hb1 r1 cx0 n1 hz1;go_wp2;go_ret;exact ⟨_,rfl,HO2.out,HB2.out⟩
end
end X
namespace X
open Go.RowKit
theorem ret_bool2 {a b:Bool} (h:a=b):Ending.returned (.bool a)=Ending.returned (.bool b):=by rw [h]
theorem sStd_any (A:Option Addr) (n c:Nat) (zs:List Int) (B:Option Addr) (q d:Nat) (ls:List Int) (w:World) (h:RecsAt w w.heap.size 4 A n zs) (hn:n<=1048576) (hl:RecsAt w w.heap.size 3 B q ls) (hq:q<=1048576) :
  Calls Tryzx.prog 18 #[.agg #[.slice A n c],.slice B q d] w fun e w'=>e = .returned (.bool (decide (0<(thrN zs n ls q:Int))))/\Below w.heap.size w w':=by
 have b0:Below w.heap.size w (w.alloc (.cells #[.slice A n c] 45)):=bnw _ _;have h1:=h.after b0;have l1:=hl.after b0;have HB0:=q_ b0;clear b0 h hl;go_enter Tryzx.func18,Tryz.ntmps18;go_wp2_with fail
 refine (sThr_any _ _ _ zs _ _ _ ls _ h1 hn l1 hq).mono ?_;rintro e w2 ⟨v2,rfl,ho2,hb2⟩;obtain ⟨A2,c2,rfl,_⟩:=ho2.slice;have HB2:=q_ (HB0.out.trans (hb2.mono HB0.out.size));clear hb2 ho2;obtain ⟨N,hN⟩:∃ N,thrN zs n ls q=N:=⟨_,rfl⟩;have HN:Hid (decide (0<N)=decide (0<(thrN zs n ls q:Int))):=q_ (by rw [hN]; simp)
 rw [hN];clear hN;go_wp2;go_ret;exact ⟨ret_bool2 HN.out,HB2.out⟩
end X
end Go.Proofs.YtjcgklifabcfkaaGreat
