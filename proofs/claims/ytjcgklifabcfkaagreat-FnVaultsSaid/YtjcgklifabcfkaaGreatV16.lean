/-
  Texts that the law stands on, part 16.
-/
import Derived.Test.YtjcgklifabcfkaaGreatV1
import Derived.Test.YtjcgklifabcfkaaGreatV15
import Derived.Test.YtjcgklifabcfkaaGreatV10
import Derived.Deep.RegionHeld3
import Derived.Deep.QuietTactic
import Derived.BigQuiet
import Derived.BigRegion
import Derived.IntWalk
set_option maxRecDepth 100000
set_option linter.unusedVariables false
set_option linter.unusedSimpArgs false
namespace Go.Proofs.YtjcgklifabcfkaaGreat
namespace X
open Go.RowKit
section
variable {P : Program} {ops : Array Oper} {Q : Exit → Act → World → Prop} {md : Region.Mode}
theorem take_held {i d:Nat} {oi:Oper} {v:Value} {fuel:Nat} {listed:Array Bool} {a:Act} {w:World} (hi:ops[i]?=some oi) (hd:oi.dst=some d)
  (h:wpAnyH P md ops Q (fun _=>True) fuel (listed.setIfInBounds i true) (a.put (some d) v) w)
  (hs:Region.noSelect ops=true:=by kernel_rfl) (hf:Region.free md ops listed i=true:=by kernel_rfl) (hr:(Region.ready md ops listed).contains i=true:=by kernel_rfl) (hQ:∀ c a w,Q (.panic c) (a.put (some d) v) w→Q (.panic c) a w:=by exact fun _ _ _ h=>h)
  (hw:Region.wanted oi (yielded ops a.tmps)=true:=by kernel_rfl) (hy:∀ w,True→(execOp a.eval oi).run P w = .ok (.value v) w:=by intro w _; go_simp; try rfl):wpAnyH P md ops Q (fun _=>True) (fuel+1) listed a w :=
 wpAnyH_take (v:=v) hi hs hf hr (by rw [hd]; exact hQ) (Or.inl ⟨hw,hy⟩) trivial (by rw [hd]; exact h)
theorem skip_held {i d:Nat} {oi:Oper} {fuel:Nat} {listed:Array Bool} {a:Act} {w:World} (hi:ops[i]?=some oi) (hd:oi.dst=some d)
  (h:wpAnyH P md ops Q (fun _=>True) fuel (listed.setIfInBounds i true) (a.put (some d) undef) w)
  (hs:Region.noSelect ops=true:=by kernel_rfl) (hf:Region.free md ops listed i=true:=by kernel_rfl) (hr:(Region.ready md ops listed).contains i=true:=by kernel_rfl) (hQ:∀ c a w,Q (.panic c) (a.put (some d) undef) w→Q (.panic c) a w:=by exact fun _ _ _ h=>h)
  (hw:Region.wanted oi (yielded ops a.tmps)=false:=by kernel_rfl):wpAnyH P md ops Q (fun _=>True) (fuel+1) listed a w :=
 wpAnyH_take (v:=undef) hi hs hf hr (by rw [hd]; exact hQ) (Or.inr ⟨hw,rfl⟩) trivial (by rw [hd]; exact h)
end
theorem cell_new0 (w:World) (u:Value) (t:TypeId):(w.alloc (.cells #[u] t)).cell? ⟨w.heap.size,0,none⟩=some u:=World.rowIs.cell (World.rowIs_alloc w #[u] t (fun _=>u) (fun i hi=>by simp at hi; subst hi; rfl)) (by simp)
theorem rem_nat (a n:Nat):Int.tmod (a:Int) (n:Int)=((a % n:Nat):Int):=by rw [Int.tmod_eq_emod_of_nonneg (by omega)]; rfl
theorem ptCells {wr:World} {b off n j:Nat} {zs:List Int} (hc:∀ i,i<n*2→wr.cell? ⟨b,off+i,none⟩=some (.int .i64 (nth zs i))) (hj:j<n) :
  wr.cell? ⟨b,off+j*2,none⟩=some (.int .i64 (nth zs (j*2)))∧wr.cell? ⟨b,off+j*2+1,none⟩=some (.int .i64 (nth zs (j*2+1))) :=
 ⟨hc (j*2) (by omega),by have:=hc (j*2+1) (by omega); rwa [← Nat.add_assoc] at this⟩
set_option maxHeartbeats 1000000 in
theorem sStoneOk_any (A:Option Addr) (n c:Nat) (zs:List Int) (w:World) (h:RecsAt w w.heap.size 2 A n zs) :
  Calls Tryzx.prog 114 #[.agg #[.slice A n c]] w fun e w'=>e = .returned (.bool (stoneB zs n))∧Below w.heap.size w w':=by
 have HA:=Lib.hid ((Below.refl w.heap.size w).alloc (Nat.le_refl _) (.cells #[.slice A n c] 127));cases hB:inB (n:Int) 3 6
 ·have HF:=Lib.hid (stoneB_f1 (zs:=zs) hB)
  go_enter Tryzx.func114,Tryz.ntmps114;go_wp2_with (go_at_call 52; refine (l01In_any _ _ _ _).mono ?_; rintro e w' ⟨rfl,rfl⟩);go_ret;exact ⟨ret_bool HF.out.symm,HA.out⟩
 ·have hn:=inB_iff.1 hB
  have hn3:3≤n:=by omega
  have hn6:n≤6:=by omega
  clear hn;obtain ⟨b,off,rfl,hbB,hc⟩:=h.2 (by omega);have HC:=Lib.hid hc;clear h hc;go_enter Tryzx.func114,Tryz.ntmps114;go_wp2_with (go_at_call 52; refine (l01In_any _ _ _ _).mono ?_; rintro e w' ⟨rfl,rfl⟩);go_loopw [4] (fun i wr=>∃ k:Nat,k≤n∧i = .int .i64 k∧ptsTo zs k∧wr.cell? ⟨w.heap.size,0,none⟩=some (.slice (some ⟨b,off,none⟩) n c)∧Below w.heap.size w wr) (fun i _=>n - (intOf i).toNat)
  case atStart=>exact ⟨0,Nat.zero_le _,rfl,ptsTo_0 _,cell_new0 _ _ _,HA.out⟩
  case round =>
   clear HA;obtain ⟨k,hk,rfl,hag,hbox,hb⟩:=hrel;have HB:=Lib.hid hb;have hgl:=World.block_lt_of_cell? wr _ hbox;simp only at hgl;by_cases hlt:k<n
   ·obtain ⟨x0,x1⟩:=ptCells (fun i hi=>(hb.cell (by exact hbB)).trans (HC.out i hi)) hlt
    clear hb;have HBOX:=Lib.hid hbox;cases hp:ptA zs k
    ·have HF:=Lib.hid (stoneB_f2 hlt hp)
     have hp':ptB (nth zs (k*2)) (nth zs (k*2+1))=false:=hp;go_wp2_with fail
     refine (pointOk_any _ _ _).mono ?_;rw [hp'];rintro e w1 ⟨rfl,hb1⟩;have HB1:=Lib.hid (HB.out.trans (hb1.mono HB.out.size));go_wp2;go_ret;exact ⟨ret_bool HF.out.symm,HB1.out⟩
    ·have HS:=Lib.hid (ptsTo_step hag hp)
     have hp':ptB (nth zs (k*2)) (nth zs (k*2+1))=true:=hp;go_wp2_with fail
     refine (pointOk_any _ _ _).mono ?_;rw [hp'];rintro e w1 ⟨rfl,hb1⟩;have HB1:=Lib.hid (HB.out.trans (hb1.mono HB.out.size));have HBX:=Lib.hid ((hb1.cell (p:=⟨w.heap.size,0,none⟩) hgl).trans HBOX.out);clear hb1;go_wp2;go_roundw
     case rel=>exact ⟨k+1,by omega,by go_num,HS.out,HBX.out,HB1.out⟩
     case measure=>first | (simp [intOf]; done) | (simp [intOf]; omega)
   ·obtain rfl:k=n:=by omega
    have HPT:=Lib.hid hag;clear hb hag;go_wp2;go_loopw [5] (fun i wr=>∃ j:Nat,j≤k∧i = .int .i64 j∧turnTo zs k j∧wr.cell? ⟨w.heap.size,0,none⟩=some (.slice (some ⟨b,off,none⟩) k c)∧Below w.heap.size w wr) (fun i _=>k - (intOf i).toNat)
    case atStart=>exact ⟨0,Nat.zero_le _,rfl,turnTo_0 _ _,hbox,HB.out⟩
    case round =>
     clear HB hgl hbox hlt hk;obtain ⟨j,hj,rfl,hag,hbox,hb⟩:=hrel;have HB:=Lib.hid hb;have hgl:=World.block_lt_of_cell? _ _ hbox;simp only at hgl;by_cases hlt:j<k
     ·have hm1:(j+1) % k<k:=Nat.mod_lt _ (by omega)
      have hm2:(j+2) % k<k:=Nat.mod_lt _ (by omega);obtain ⟨x0,x1⟩:=ptCells (fun i hi=>(hb.cell (by exact hbB)).trans (HC.out i hi)) hlt;obtain ⟨y0,y1⟩:=ptCells (fun i hi=>(hb.cell (by exact hbB)).trans (HC.out i hi)) hm1;obtain ⟨z0,z1⟩:=ptCells (fun i hi=>(hb.cell (by exact hbB)).trans (HC.out i hi)) hm2;obtain ⟨o0,o1⟩:=ptCells (fun i hi=>(hb.cell (by exact hbB)).trans (HC.out i hi)) (show 0<k by omega);clear hb;have r1:Int.tmod ((j:Int)+1) (k:Int)=(((j+1) % k:Nat):Int):=rem_nat (j+1) k;have r2:Int.tmod ((j:Int)+2) (k:Int)=(((j+2) % k:Nat):Int):=rem_nat (j+2) k;have hpk:=HPT.out j hlt;have hp1:=HPT.out _ hm1;have hp2:=HPT.out _ hm2;have hp0:=HPT.out 0 (by omega);have HTA:=Lib.hid (turnB_f1 (zs:=zs) (n:=k) (k:=j));have HTB:=Lib.hid (turnB_f2 (zs:=zs) (n:=k) (k:=j));have HTC:=Lib.hid (turnB_t1 (zs:=zs) (n:=k) (k:=j));have HTD:=Lib.hid (turnB_t2 (zs:=zs) (n:=k) (k:=j));generalize (j+1) % k=j1 at *
      generalize (j+2) % k=j2 at *
      have hsd:sd zs j j1 j2=sideI (nth zs (j*2)) (nth zs (j*2+1)) (nth zs (j1*2)) (nth zs (j1*2+1)) (nth zs (j2*2)) (nth zs (j2*2+1)):=rfl;have hbd:=sideI_bd hpk hp1 hp2;unfold ptA at hpk hp1 hp2 hp0;have i1:IntKind.i64.wrap ((j:Int)+1)=(j:Int)+1:=IntWalk.i64_in _ (by omega);have i2:IntKind.i64.wrap ((j:Int)+2)=(j:Int)+2:=IntWalk.i64_in _ (by omega);have i3:IntKind.i64.wrap (j1:Int)=(j1:Int):=IntWalk.i64_in _ (by omega);have i4:IntKind.i64.wrap (j2:Int)=(j2:Int):=IntWalk.i64_in _ (by omega);have i5:(j:Int)<(k:Int):=by omega
      have i6:(j1:Int)<(k:Int):=by omega
      have i7:(j2:Int)<(k:Int):=by omega
      have i8:¬ k=0:=by omega
      have i9:¬ (k:Int)=0:=by omega
      have i10:((k:Int) == 0)=false:=by simp; omega
      by_cases hneg:sd zs j j1 j2≤0
      ·have HF:=Lib.hid (stoneB_f3 hlt (HTA.out hneg))
       rw [hsd] at hneg;clear hsd;go_wp2;go_region_held3 (fun w'=>w'.cell? ⟨w.heap.size,0,none⟩=some (.slice (some ⟨b,off,none⟩) k c)∧(w'.cell? ⟨b,off+j*2,none⟩=some (.int .i64 (nth zs (j*2)))∧w'.cell? ⟨b,off+j*2+1,none⟩=some (.int .i64 (nth zs (j*2+1))))∧(w'.cell? ⟨b,off+j1*2,none⟩=some (.int .i64 (nth zs (j1*2)))∧w'.cell? ⟨b,off+j1*2+1,none⟩=some (.int .i64 (nth zs (j1*2+1))))∧(w'.cell? ⟨b,off+j2*2,none⟩=some (.int .i64 (nth zs (j2*2)))∧w'.cell? ⟨b,off+j2*2+1,none⟩=some (.int .i64 (nth zs (j2*2+1))))) (first | (simp [*]; done) | (refine ⟨?_,⟨?_,?_⟩,⟨?_,?_⟩,⟨?_,?_⟩⟩ <;> (rw [hcc _ _ (by simp <;> omega)]; simp [*]))) ((go_at_call 150; refine (l02Side_any _ _ _ _ _ _ _ hpk hp1 hp2).mono ?_; rintro e w1 ⟨rfl,hb1⟩; obtain ⟨hcc,hff⟩:=bcell hb1));have HB1:=Lib.hid (HB.out.drew.trans (hb1.mono (by have:=HB.out.size; simp; omega)))
       have HBX:Hid (w1.cell? ⟨w.heap.size,0,none⟩=some (.slice (some ⟨b,off,none⟩) k c)):=(hb1.cell (p:=⟨w.heap.size,0,none⟩) (by simp; omega)).trans hbox
       have hgl1:w.heap.size<w1.heap.size:=by have:=hb1.size; simp at this; omega
       clear hcc hff hb1;go_wp2;go_ret;exact ⟨ret_bool HF.out.symm,HB1.out⟩
      ·have hpos:0<sd zs j j1 j2:=by omega
       by_cases hlast:j+1<k
       ·obtain ⟨v0,v1⟩:=ptCells (fun i hi=>(HB.out.cell (by exact hbB)).trans (HC.out i hi)) hlast
        have hpn:=HPT.out _ hlast;unfold ptA at hpn;simp only [Nat.zero_mul,Nat.add_zero,Nat.zero_add] at o0 o1 hp0;have hsd2:sd zs 0 j (j+1)=sideI (nth zs 0) (nth zs 1) (nth zs (j*2)) (nth zs (j*2+1)) (nth zs ((j+1)*2)) (nth zs ((j+1)*2+1)):=rfl;have i11:(j:Int)+1<(k:Int):=by omega
        have i12:(0:Int)<(k:Int):=by omega
        have i13:((j:Int)+1).toNat=j+1:=by omega
        have i14:(0:Int)≤(j:Int)+1:=by omega
        have i15:0<k:=by omega
        by_cases hneg2:sd zs 0 j (j+1)<0
        ·have HF:=Lib.hid (stoneB_f3 hlt (HTB.out hlast hneg2))
         rw [hsd] at hneg hpos;rw [hsd2] at hneg2;clear hsd hsd2;go_wp2;go_region_held3 (fun w'=>w'.cell? ⟨w.heap.size,0,none⟩=some (.slice (some ⟨b,off,none⟩) k c)∧(w'.cell? ⟨b,off+j*2,none⟩=some (.int .i64 (nth zs (j*2)))∧w'.cell? ⟨b,off+j*2+1,none⟩=some (.int .i64 (nth zs (j*2+1))))∧(w'.cell? ⟨b,off+j1*2,none⟩=some (.int .i64 (nth zs (j1*2)))∧w'.cell? ⟨b,off+j1*2+1,none⟩=some (.int .i64 (nth zs (j1*2+1))))∧(w'.cell? ⟨b,off+j2*2,none⟩=some (.int .i64 (nth zs (j2*2)))∧w'.cell? ⟨b,off+j2*2+1,none⟩=some (.int .i64 (nth zs (j2*2+1))))) (first | (simp [*]; done) | (refine ⟨?_,⟨?_,?_⟩,⟨?_,?_⟩,⟨?_,?_⟩⟩ <;> (rw [hcc _ _ (by simp <;> omega)]; simp [*]))) ((go_at_call 150; refine (l02Side_any _ _ _ _ _ _ _ hpk hp1 hp2).mono ?_; rintro e w1 ⟨rfl,hb1⟩; obtain ⟨hcc,hff⟩:=bcell hb1));have HB1:=Lib.hid (HB.out.drew.trans (hb1.mono (by have:=HB.out.size; simp; omega)))
         have HBX:Hid (w1.cell? ⟨w.heap.size,0,none⟩=some (.slice (some ⟨b,off,none⟩) k c)):=(hb1.cell (p:=⟨w.heap.size,0,none⟩) (by simp; omega)).trans hbox
         have hgl1:w.heap.size<w1.heap.size:=by have:=hb1.size; simp at this; omega
         replace o0:=(hb1.cell (p:=⟨b,off,none⟩) (by simp; omega)).trans o0
         replace o1:=(hb1.cell (p:=⟨b,off+1,none⟩) (by simp; omega)).trans o1
         replace x0:=(hb1.cell (p:=⟨b,off+j*2,none⟩) (by simp; omega)).trans x0
         replace x1:=(hb1.cell (p:=⟨b,off+j*2+1,none⟩) (by simp; omega)).trans x1
         replace v0:=(hb1.cell (p:=⟨b,off+(j+1)*2,none⟩) (by simp; omega)).trans v0
         replace v1:=(hb1.cell (p:=⟨b,off+(j+1)*2+1,none⟩) (by simp; omega)).trans v1
         replace hbox:=HBX.out
         clear hcc hff hb1 y0 y1 z0 z1;go_wp2;go_region_held3 (fun w'=>w'.cell? ⟨w.heap.size,0,none⟩=some (.slice (some ⟨b,off,none⟩) k c)∧(w'.cell? ⟨b,off,none⟩=some (.int .i64 (nth zs 0))∧w'.cell? ⟨b,off+1,none⟩=some (.int .i64 (nth zs 1)))∧(w'.cell? ⟨b,off+j*2,none⟩=some (.int .i64 (nth zs (j*2)))∧w'.cell? ⟨b,off+j*2+1,none⟩=some (.int .i64 (nth zs (j*2+1))))∧(w'.cell? ⟨b,off+(j+1)*2,none⟩=some (.int .i64 (nth zs ((j+1)*2)))∧w'.cell? ⟨b,off+(j+1)*2+1,none⟩=some (.int .i64 (nth zs ((j+1)*2+1))))) (first | (simp [*]; done) | (refine ⟨?_,⟨?_,?_⟩,⟨?_,?_⟩,⟨?_,?_⟩⟩ <;> (rw [hcc _ _ (by simp <;> omega)]; simp [*]))) ((go_at_call 150; refine (l02Side_any _ _ _ _ _ _ _ hp0 hpk hpn).mono ?_; rintro e w2 ⟨rfl,hb2⟩; obtain ⟨hcc,hff⟩:=bcell hb2));have HB2:=Lib.hid (HB1.out.drew.trans (hb2.mono (by have:=HB1.out.size; simp; omega)))
         have HBX2:Hid (w2.cell? ⟨w.heap.size,0,none⟩=some (.slice (some ⟨b,off,none⟩) k c)):=(hb2.cell (p:=⟨w.heap.size,0,none⟩) (by simp; omega)).trans HBX.out
         clear hcc hff hb2;go_wp2;go_ret;exact ⟨ret_bool HF.out.symm,HB2.out⟩
        ·have HS:=Lib.hid (turnTo_step hag (HTD.out hpos hlast (by omega)))
         rw [hsd] at hneg hpos;rw [hsd2] at hneg2;clear hsd hsd2;go_wp2;go_region_held3 (fun w'=>w'.cell? ⟨w.heap.size,0,none⟩=some (.slice (some ⟨b,off,none⟩) k c)∧(w'.cell? ⟨b,off+j*2,none⟩=some (.int .i64 (nth zs (j*2)))∧w'.cell? ⟨b,off+j*2+1,none⟩=some (.int .i64 (nth zs (j*2+1))))∧(w'.cell? ⟨b,off+j1*2,none⟩=some (.int .i64 (nth zs (j1*2)))∧w'.cell? ⟨b,off+j1*2+1,none⟩=some (.int .i64 (nth zs (j1*2+1))))∧(w'.cell? ⟨b,off+j2*2,none⟩=some (.int .i64 (nth zs (j2*2)))∧w'.cell? ⟨b,off+j2*2+1,none⟩=some (.int .i64 (nth zs (j2*2+1))))) (first | (simp [*]; done) | (refine ⟨?_,⟨?_,?_⟩,⟨?_,?_⟩,⟨?_,?_⟩⟩ <;> (rw [hcc _ _ (by simp <;> omega)]; simp [*]))) ((go_at_call 150; refine (l02Side_any _ _ _ _ _ _ _ hpk hp1 hp2).mono ?_; rintro e w1 ⟨rfl,hb1⟩; obtain ⟨hcc,hff⟩:=bcell hb1));have HB1:=Lib.hid (HB.out.drew.trans (hb1.mono (by have:=HB.out.size; simp; omega)))
         have HBX:Hid (w1.cell? ⟨w.heap.size,0,none⟩=some (.slice (some ⟨b,off,none⟩) k c)):=(hb1.cell (p:=⟨w.heap.size,0,none⟩) (by simp; omega)).trans hbox
         have hgl1:w.heap.size<w1.heap.size:=by have:=hb1.size; simp at this; omega
         replace o0:=(hb1.cell (p:=⟨b,off,none⟩) (by simp; omega)).trans o0
         replace o1:=(hb1.cell (p:=⟨b,off+1,none⟩) (by simp; omega)).trans o1
         replace x0:=(hb1.cell (p:=⟨b,off+j*2,none⟩) (by simp; omega)).trans x0
         replace x1:=(hb1.cell (p:=⟨b,off+j*2+1,none⟩) (by simp; omega)).trans x1
         replace v0:=(hb1.cell (p:=⟨b,off+(j+1)*2,none⟩) (by simp; omega)).trans v0
         replace v1:=(hb1.cell (p:=⟨b,off+(j+1)*2+1,none⟩) (by simp; omega)).trans v1
         replace hbox:=HBX.out
         clear hcc hff hb1 y0 y1 z0 z1;go_wp2;go_region_held3 (fun w'=>w'.cell? ⟨w.heap.size,0,none⟩=some (.slice (some ⟨b,off,none⟩) k c)∧(w'.cell? ⟨b,off,none⟩=some (.int .i64 (nth zs 0))∧w'.cell? ⟨b,off+1,none⟩=some (.int .i64 (nth zs 1)))∧(w'.cell? ⟨b,off+j*2,none⟩=some (.int .i64 (nth zs (j*2)))∧w'.cell? ⟨b,off+j*2+1,none⟩=some (.int .i64 (nth zs (j*2+1))))∧(w'.cell? ⟨b,off+(j+1)*2,none⟩=some (.int .i64 (nth zs ((j+1)*2)))∧w'.cell? ⟨b,off+(j+1)*2+1,none⟩=some (.int .i64 (nth zs ((j+1)*2+1))))) (first | (simp [*]; done) | (refine ⟨?_,⟨?_,?_⟩,⟨?_,?_⟩,⟨?_,?_⟩⟩ <;> (rw [hcc _ _ (by simp <;> omega)]; simp [*]))) ((go_at_call 150; refine (l02Side_any _ _ _ _ _ _ _ hp0 hpk hpn).mono ?_; rintro e w2 ⟨rfl,hb2⟩; obtain ⟨hcc,hff⟩:=bcell hb2));have HB2:=Lib.hid (HB1.out.drew.trans (hb2.mono (by have:=HB1.out.size; simp; omega)))
         have HBX2:Hid (w2.cell? ⟨w.heap.size,0,none⟩=some (.slice (some ⟨b,off,none⟩) k c)):=(hb2.cell (p:=⟨w.heap.size,0,none⟩) (by simp; omega)).trans HBX.out
         clear hcc hff hb2;clear i13 r1 r2 i1 i2 i3 i4;go_wp2;go_roundw
         case rel=>exact ⟨j+1,by omega,by go_num,HS.out,HBX2.out,HB2.out⟩
         case measure=>first | (simp [intOf]; done) | (simp [intOf]; omega)
       ·have HS:=Lib.hid (turnTo_step hag (HTC.out hpos hlast))
        have i11:¬ (j:Int)+1<(k:Int):=by omega
        rw [hsd] at hneg hpos;clear hsd;go_wp2;go_region_held3 (fun w'=>w'.cell? ⟨w.heap.size,0,none⟩=some (.slice (some ⟨b,off,none⟩) k c)∧(w'.cell? ⟨b,off+j*2,none⟩=some (.int .i64 (nth zs (j*2)))∧w'.cell? ⟨b,off+j*2+1,none⟩=some (.int .i64 (nth zs (j*2+1))))∧(w'.cell? ⟨b,off+j1*2,none⟩=some (.int .i64 (nth zs (j1*2)))∧w'.cell? ⟨b,off+j1*2+1,none⟩=some (.int .i64 (nth zs (j1*2+1))))∧(w'.cell? ⟨b,off+j2*2,none⟩=some (.int .i64 (nth zs (j2*2)))∧w'.cell? ⟨b,off+j2*2+1,none⟩=some (.int .i64 (nth zs (j2*2+1))))) (first | (simp [*]; done) | (refine ⟨?_,⟨?_,?_⟩,⟨?_,?_⟩,⟨?_,?_⟩⟩ <;> (rw [hcc _ _ (by simp <;> omega)]; simp [*]))) ((go_at_call 150; refine (l02Side_any _ _ _ _ _ _ _ hpk hp1 hp2).mono ?_; rintro e w1 ⟨rfl,hb1⟩; obtain ⟨hcc,hff⟩:=bcell hb1));have HB1:=Lib.hid (HB.out.drew.trans (hb1.mono (by have:=HB.out.size; simp; omega)))
        have HBX:Hid (w1.cell? ⟨w.heap.size,0,none⟩=some (.slice (some ⟨b,off,none⟩) k c)):=(hb1.cell (p:=⟨w.heap.size,0,none⟩) (by simp; omega)).trans hbox
        have hgl1:w.heap.size<w1.heap.size:=by have:=hb1.size; simp at this; omega
        clear hcc hff hb1 x0 x1 y0 y1 z0 z1 hbox;go_wp2;refine wp_region_held_drew (S:=fun _=>True) (by kernel_rfl) trivial (fun _ => ?_);refine take_held (i:=0) (d:=52) rfl rfl ?_;try simp only [Act.put,ly3]
        refine take_held (i:=1) (d:=53) rfl rfl ?_;try simp only [Act.put,ly3]
        refine take_held (i:=2) (d:=54) rfl rfl ?_;try simp only [Act.put,ly3]
        refine take_held (i:=3) (d:=55) (v := .bool false) rfl rfl ?_;try simp only [Act.put,ly3]
        refine take_held (i:=4) (d:=56) (v := .bool false) rfl rfl ?_;try simp only [Act.put,ly3]
        refine skip_held (i:=5) (d:=57) rfl rfl ?_;try simp only [Act.put,ly3]
        refine skip_held (i:=6) (d:=58) rfl rfl ?_;try simp only [Act.put,ly3]
        refine skip_held (i:=7) (d:=59) rfl rfl ?_;try simp only [Act.put,ly3]
        refine skip_held (i:=8) (d:=60) rfl rfl ?_;try simp only [Act.put,ly3]
        refine skip_held (i:=9) (d:=61) rfl rfl ?_;try simp only [Act.put,ly3]
        refine skip_held (i:=10) (d:=62) rfl rfl ?_;try simp only [Act.put,ly3]
        refine skip_held (i:=11) (d:=63) rfl rfl ?_;try simp only [Act.put,ly3]
        refine skip_held (i:=12) (d:=64) rfl rfl ?_;try simp only [Act.put,ly3]
        refine skip_held (i:=13) (d:=65) rfl rfl ?_;try simp only [Act.put,ly3]
        refine skip_held (i:=14) (d:=66) rfl rfl ?_;try simp only [Act.put,ly3]
        refine skip_held (i:=15) (d:=67) rfl rfl ?_;try simp only [Act.put,ly3]
        refine skip_held (i:=16) (d:=68) rfl rfl ?_;try simp only [Act.put,ly3]
        refine skip_held (i:=17) (d:=69) rfl rfl ?_;try simp only [Act.put,ly3]
        refine skip_held (i:=18) (d:=70) rfl rfl ?_;try simp only [Act.put,ly3]
        refine skip_held (i:=19) (d:=71) rfl rfl ?_;try simp only [Act.put,ly3]
        refine skip_held (i:=20) (d:=72) rfl rfl ?_;try simp only [Act.put,ly3]
        refine skip_held (i:=21) (d:=73) rfl rfl ?_;try simp only [Act.put,ly3]
        refine take_held (i:=22) (d:=74) rfl rfl ?_;try simp only [Act.put,ly3]
        refine wpAnyH_done (by kernel_rfl) ?_ _;clear r1 r2 i1 i2 i3 i4;go_wp2;go_roundw
        case rel=>exact ⟨j+1,by omega,by go_num,HS.out,HBX.out,HB1.out.drew⟩
        case measure=>first | (simp [intOf]; done) | (simp [intOf]; omega)
     ·obtain rfl:j=k:=by omega
      have HF:=Lib.hid (stoneB_t hB HPT.out hag);clear hb;go_wp2;go_ret;exact ⟨ret_bool HF.out.symm,HB.out⟩
end X
namespace X
open Go.RowKit
theorem stoneOk1_any (x y:Int) (w:World):Calls Tryzx.prog 154 #[.agg #[.int .i64 x,.int .i64 y]] w fun e w'=>e = .returned (.bool (!ptB x y))∧Below w.heap.size w w':=by
 go_enter Tryzx.func154,Tryz.ntmps154;go_wp2_with fail
 refine (ok_any _ _ _).mono ?_;rintro e w1 ⟨rfl,hb1⟩;go_wp2;go_ret;exact ⟨rfl,((Below.refl _ w).alloc (Nat.le_refl _) _).trans (hb1.mono (by simp))⟩
set_option maxHeartbeats 800000 in
theorem indexPts_any (A:Option Addr) (n c:Nat) (zs:List Int) (w:World) (h:RecsAt w w.heap.size 2 A n zs) (hn:n≤1048576) :
  Calls Tryzx.prog 170 #[.slice A n c,.func (.func 154) #[] #[]] w fun e w'=>∃ r:Int,e = .returned (.int .i64 r)∧(ptsTo zs n∧r = -1 ∨ ∃ k:Nat,k<n∧ptA zs k=false∧r=k)∧Below w.heap.size w w':=by
 have H:=Lib.hid h;clear h;go_enter Tryzx.func170,Tryz.ntmps170;go_wp2;go_loopw [8] (fun i wr=>∃ k:Nat,k≤n∧i = .int .i64 k∧ptsTo zs k∧Below w.heap.size w wr) (fun i _=>n - (intOf i).toNat)
 case atStart=>exact ⟨0,Nat.zero_le _,rfl,ptsTo_0 _,Below.refl _ _⟩
 case round =>
  obtain ⟨k,hk,rfl,hag,hb⟩:=hrel;have HB:=Lib.hid hb;by_cases hlt:k<n
  ·obtain ⟨b,off,rfl,hbB,hc⟩:=H.out.2 (by omega)
   obtain ⟨x0,x1⟩:=ptCells (fun i hi=>(hb.cell (by exact hbB)).trans (hc i hi)) hlt;clear hb hc;cases hp:ptA zs k
   ·have hp':ptB (nth zs (k*2)) (nth zs (k*2+1))=false:=hp
    have HP:=Lib.hid hp;clear hp;go_wp2_with fail
    refine (stoneOk1_any _ _ _).mono ?_;rw [hp'];rintro e w1 ⟨rfl,hb1⟩;have HB1:=Lib.hid (HB.out.trans (hb1.mono HB.out.size));go_wp2;go_ret;exact ⟨k,rfl,.inr ⟨k,hlt,HP.out,rfl⟩,HB1.out⟩
   ·have hp':ptB (nth zs (k*2)) (nth zs (k*2+1))=true:=hp
    have HS:=Lib.hid (ptsTo_step hag hp);clear hp;go_wp2_with fail
    refine (stoneOk1_any _ _ _).mono ?_;rw [hp'];rintro e w1 ⟨rfl,hb1⟩;have HB1:=Lib.hid (HB.out.trans (hb1.mono HB.out.size));clear hb1;go_wp2;go_roundw
    case rel=>exact ⟨k+1,by omega,by go_num,HS.out,HB1.out⟩
    case measure=>first | (simp [intOf]; done) | (simp [intOf]; omega)
  ·obtain rfl:k=n:=by omega
   have HS:=Lib.hid hag;clear hb hag;go_wp2;go_ret;exact ⟨-1,rfl,.inl ⟨HS.out,rfl⟩,HB.out⟩
def badB (zs:List Int) (n:Nat):Bool := !(List.range n).all (ptA zs)
theorem badB_f {zs:List Int} {n:Nat} (h:ptsTo zs n):badB zs n=false:=by
 have e2:(List.range n).all (ptA zs)=true:=by
  rw [List.all_eq_true];exact fun i hi=>h i (by simpa using hi)
 simp [badB,e2]
theorem badB_t {zs:List Int} {n k:Nat} (hk:k<n) (h:ptA zs k=false):badB zs n=true:=by
 have:(List.range n).all (ptA zs)=false:=by
  rw [List.all_eq_false];exact ⟨k,by simpa using hk,by simp [h]⟩
 simp [badB,this]
theorem badB_out {zs:List Int} {n:Nat} (h:badB zs n=false):ptsTo zs n:=by
 simp only [badB,Bool.not_eq_false',List.all_eq_true] at h;exact fun i hi=>h i (by simpa using hi)
theorem badB_stone {zs:List Int} {n:Nat} (h:badB zs n=true):stoneB zs n=false:=by
 simp only [badB,Bool.not_eq_true'] at h;simp [stoneB,h]
theorem containsPts_any (A:Option Addr) (n c:Nat) (zs:List Int) (w:World) (h:RecsAt w w.heap.size 2 A n zs) (hn:n≤1048576) :
  Calls Tryzx.prog 153 #[.slice A n c,.func (.func 154) #[] #[]] w fun e w'=>e = .returned (.bool (badB zs n))∧Below w.heap.size w w':=by
 go_enter Tryzx.func153,Tryz.ntmps153;go_wp2_with fail
 refine (indexPts_any _ _ _ zs _ h hn).mono ?_;rintro e w1 ⟨r,rfl,hr,hb1⟩;rcases hr with ⟨hp,rfl⟩ | ⟨k,hk,hp,rfl⟩
 ·have HF:=Lib.hid (badB_f hp)
  clear hp;go_wp2;go_ret;exact ⟨ret_bool HF.out.symm,hb1⟩
 ·have HF:=Lib.hid (badB_t hk hp)
  clear hp;have i1:(0:Int)≤(k:Int):=by omega
  go_wp2;go_ret;exact ⟨ret_bool HF.out.symm,hb1⟩
set_option maxHeartbeats 1000000 in
theorem iStoneOk_any (A:Option Addr) (n c:Nat) (zs:List Int) (w:World) (h:RecsAt w w.heap.size 2 A n zs) :
  Calls Tryzx.prog 120 #[.agg #[.slice A n c]] w fun e w'=>e = .returned (.bool (stoneB zs n))∧Below w.heap.size w w':=by
 cases hB:inB (n:Int) 3 6
 ·have HF:=Lib.hid (stoneB_f1 (zs:=zs) hB)
  go_enter Tryzx.func120,Tryz.ntmps120;go_wp2;go_region
  go_wp2_with (go_at_call 43; refine (within_any _ _ _ _).mono ?_; rintro e w' ⟨rfl,rfl⟩);go_ret;exact ⟨ret_bool HF.out.symm,((Below.refl _ w).alloc (Nat.le_refl _) _).drew⟩
 ·have hn:=inB_iff.1 hB
  have hn3:3≤n:=by omega
  have hn6:n≤6:=by omega
  clear hn;have HA:=Lib.hid ((Below.refl w.heap.size w).alloc (Nat.le_refl _) (.cells #[.slice A n c] 127)).drew;have H0:RecsAt (w.alloc (.cells #[.slice A n c] 127)).drew (w.alloc (.cells #[.slice A n c] 127)).drew.heap.size 2 A n zs:=(h.alloc (Nat.le_refl _) _).mono (by simp);cases hbad:badB zs n
  ·have HPT:=Lib.hid (badB_out hbad)
   obtain ⟨b,off,rfl,hbB,hc⟩:=h.2 (by omega);have HC:=Lib.hid hc;clear hc h;go_enter Tryzx.func120,Tryz.ntmps120;go_wp2;go_region
   go_wp2_with (go_at_call 43; refine (within_any _ _ _ _).mono ?_; rintro e w' ⟨rfl,rfl⟩);refine (containsPts_any _ _ _ zs _ H0 (by omega)).mono ?_;rw [hbad];rintro e w1 ⟨rfl,hb1⟩;have HB1:=Lib.hid (HA.out.trans (hb1.mono (by simp)));clear hb1 H0;go_wp2;go_loopw [19] (fun i wr=>∃ j:Nat,j≤n∧i = .int .i64 j∧turnTo zs n j∧Below w.heap.size w wr) (fun i _=>n - (intOf i).toNat)
   case atStart=>exact ⟨0,Nat.zero_le _,rfl,turnTo_0 _ _,HB1.out⟩
   case round =>
    clear HB1 HA;obtain ⟨j,hj,rfl,hag,hb⟩:=hrel;have HB:=Lib.hid hb;have hz0:=hb.size;by_cases hlt:j<n
    ·have hm1:(j+1) % n<n:=Nat.mod_lt _ (by omega)
     have hm2:(j+2) % n<n:=Nat.mod_lt _ (by omega);obtain ⟨x0,x1⟩:=ptCells (fun i hi=>(hb.cell (by exact hbB)).trans (HC.out i hi)) hlt;obtain ⟨y0,y1⟩:=ptCells (fun i hi=>(hb.cell (by exact hbB)).trans (HC.out i hi)) hm1;obtain ⟨z0,z1⟩:=ptCells (fun i hi=>(hb.cell (by exact hbB)).trans (HC.out i hi)) hm2;obtain ⟨o0,o1⟩:=ptCells (fun i hi=>(hb.cell (by exact hbB)).trans (HC.out i hi)) (show 0<n by omega);clear hb;have r1:Int.tmod ((j:Int)+1) (n:Int)=(((j+1) % n:Nat):Int):=rem_nat (j+1) n;have r2:Int.tmod ((j:Int)+2) (n:Int)=(((j+2) % n:Nat):Int):=rem_nat (j+2) n;have hpk:=HPT.out j hlt;have hp1:=HPT.out _ hm1;have hp2:=HPT.out _ hm2;have hp0:=HPT.out 0 (by omega);have HTA:=Lib.hid (turnB_f1 (zs:=zs) (n:=n) (k:=j));have HTB:=Lib.hid (turnB_f2 (zs:=zs) (n:=n) (k:=j));have HTC:=Lib.hid (turnB_t1 (zs:=zs) (n:=n) (k:=j));have HTD:=Lib.hid (turnB_t2 (zs:=zs) (n:=n) (k:=j));generalize (j+1) % n=j1 at *
     generalize (j+2) % n=j2 at *
     have hsd:sd zs j j1 j2=sideI (nth zs (j*2)) (nth zs (j*2+1)) (nth zs (j1*2)) (nth zs (j1*2+1)) (nth zs (j2*2)) (nth zs (j2*2+1)):=rfl;have hbd:=sideI_bd hpk hp1 hp2;unfold ptA at hpk hp1 hp2 hp0;have i1:IntKind.i64.wrap ((j:Int)+1)=(j:Int)+1:=IntWalk.i64_in _ (by omega);have i2:IntKind.i64.wrap ((j:Int)+2)=(j:Int)+2:=IntWalk.i64_in _ (by omega);have i3:IntKind.i64.wrap (j1:Int)=(j1:Int):=IntWalk.i64_in _ (by omega);have i4:IntKind.i64.wrap (j2:Int)=(j2:Int):=IntWalk.i64_in _ (by omega);have i5:(j:Int)<(n:Int):=by omega
     have i6:(j1:Int)<(n:Int):=by omega
     have i7:(j2:Int)<(n:Int):=by omega
     have i8:¬ n=0:=by omega
     have i9:¬ (n:Int)=0:=by omega
     have i10:((n:Int) == 0)=false:=by simp; omega
     by_cases hneg:sd zs j j1 j2≤0
     ·have HF:=Lib.hid (stoneB_f3 hlt (HTA.out hneg))
      rw [hsd] at hneg;clear hsd;go_wp2;go_region_held3 (fun w'=>(w'.cell? ⟨b,off+j*2,none⟩=some (.int .i64 (nth zs (j*2)))∧w'.cell? ⟨b,off+j*2+1,none⟩=some (.int .i64 (nth zs (j*2+1))))∧(w'.cell? ⟨b,off+j1*2,none⟩=some (.int .i64 (nth zs (j1*2)))∧w'.cell? ⟨b,off+j1*2+1,none⟩=some (.int .i64 (nth zs (j1*2+1))))∧(w'.cell? ⟨b,off+j2*2,none⟩=some (.int .i64 (nth zs (j2*2)))∧w'.cell? ⟨b,off+j2*2+1,none⟩=some (.int .i64 (nth zs (j2*2+1))))) (first | (simp [*]; done) | (refine ⟨⟨?_,?_⟩,⟨?_,?_⟩,⟨?_,?_⟩⟩ <;> (rw [hcc _ _ (by simp <;> omega)]; simp [*]))) ((go_at_call 156; refine (side_any _ _ _ _ _ _ _ hpk hp1 hp2).mono ?_; rintro e w1 ⟨rfl,hb1⟩; obtain ⟨hcc,hff⟩:=bcell hb1));have HB1:=Lib.hid (HB.out.drew.trans (hb1.mono (by have:=HB.out.size; simp; omega)))
      clear hcc hff hb1;go_wp2;go_ret;exact ⟨ret_bool HF.out.symm,HB1.out⟩
     ·have hpos:0<sd zs j j1 j2:=by omega
      by_cases hj0:j=0
      ·have HS:=Lib.hid (turnTo_step hag (HTD.out hpos (by omega) (by subst hj0; rw [sd_self]; exact Int.le_refl 0)))
       have i11:¬ (0:Int)<(j:Int):=by omega
       have i12:¬ 0<j:=by omega
       rw [hsd] at hneg hpos;clear hsd hj0;go_wp2;go_region_held3 (fun w'=>(w'.cell? ⟨b,off+j*2,none⟩=some (.int .i64 (nth zs (j*2)))∧w'.cell? ⟨b,off+j*2+1,none⟩=some (.int .i64 (nth zs (j*2+1))))∧(w'.cell? ⟨b,off+j1*2,none⟩=some (.int .i64 (nth zs (j1*2)))∧w'.cell? ⟨b,off+j1*2+1,none⟩=some (.int .i64 (nth zs (j1*2+1))))∧(w'.cell? ⟨b,off+j2*2,none⟩=some (.int .i64 (nth zs (j2*2)))∧w'.cell? ⟨b,off+j2*2+1,none⟩=some (.int .i64 (nth zs (j2*2+1))))) (first | (simp [*]; done) | (refine ⟨⟨?_,?_⟩,⟨?_,?_⟩,⟨?_,?_⟩⟩ <;> (rw [hcc _ _ (by simp <;> omega)]; simp [*]))) ((go_at_call 156; refine (side_any _ _ _ _ _ _ _ hpk hp1 hp2).mono ?_; rintro e w1 ⟨rfl,hb1⟩; obtain ⟨hcc,hff⟩:=bcell hb1));have HB1:=Lib.hid (HB.out.drew.trans (hb1.mono (by have:=HB.out.size; simp; omega)))
       clear hcc hff hb1 x0 x1 y0 y1 z0 z1 o0 o1;go_wp2;refine wp_region_held_drew (S:=fun _=>True) (by kernel_rfl) trivial (fun _ => ?_);refine take_held (i:=0) (d:=42) rfl rfl ?_;try simp only [Act.put,ly3]
       refine take_held (i:=1) (d:=43) (v := .bool false) rfl rfl ?_;try simp only [Act.put,ly3]
       refine take_held (i:=2) (d:=44) (v := .bool false) rfl rfl ?_;try simp only [Act.put,ly3]
       refine skip_held (i:=3) (d:=45) rfl rfl ?_;try simp only [Act.put,ly3]
       refine skip_held (i:=4) (d:=46) rfl rfl ?_;try simp only [Act.put,ly3]
       refine skip_held (i:=5) (d:=47) rfl rfl ?_;try simp only [Act.put,ly3]
       refine skip_held (i:=6) (d:=48) rfl rfl ?_;try simp only [Act.put,ly3]
       refine take_held (i:=7) (d:=49) (v := .bool false) rfl rfl ?_;try simp only [Act.put,ly3]
       refine take_held (i:=8) (d:=50) (v := .bool false) rfl rfl ?_;try simp only [Act.put,ly3]
       refine skip_held (i:=9) (d:=51) rfl rfl ?_;try simp only [Act.put,ly3]
       refine skip_held (i:=10) (d:=52) rfl rfl ?_;try simp only [Act.put,ly3]
       refine skip_held (i:=11) (d:=53) rfl rfl ?_;try simp only [Act.put,ly3]
       refine skip_held (i:=12) (d:=54) rfl rfl ?_;try simp only [Act.put,ly3]
       refine skip_held (i:=13) (d:=55) rfl rfl ?_;try simp only [Act.put,ly3]
       refine skip_held (i:=14) (d:=56) rfl rfl ?_;try simp only [Act.put,ly3]
       refine skip_held (i:=15) (d:=57) rfl rfl ?_;try simp only [Act.put,ly3]
       refine skip_held (i:=16) (d:=58) rfl rfl ?_;try simp only [Act.put,ly3]
       refine skip_held (i:=17) (d:=59) rfl rfl ?_;try simp only [Act.put,ly3]
       refine skip_held (i:=18) (d:=60) rfl rfl ?_;try simp only [Act.put,ly3]
       refine skip_held (i:=19) (d:=61) rfl rfl ?_;try simp only [Act.put,ly3]
       refine skip_held (i:=20) (d:=62) rfl rfl ?_;try simp only [Act.put,ly3]
       refine skip_held (i:=21) (d:=63) rfl rfl ?_;try simp only [Act.put,ly3]
       refine skip_held (i:=22) (d:=64) rfl rfl ?_;try simp only [Act.put,ly3]
       refine take_held (i:=23) (d:=65) (v := .bool false) rfl rfl ?_;try simp only [Act.put,ly3]
       refine wpAnyH_done (by kernel_rfl) ?_ _;clear r1 r2 i1 i2 i3 i4;go_wp2;go_roundw
       case rel=>exact ⟨j+1,by omega,by go_num,HS.out,HB1.out.drew⟩
       case measure=>first | (simp [intOf]; done) | (simp [intOf]; omega)
      ·have i11:(0:Int)<(j:Int):=by omega
       have i12:0<j:=by omega
       clear hj0;by_cases hlast:j+1<n
       ·obtain ⟨v0,v1⟩:=ptCells (fun i hi=>(HB.out.cell (by exact hbB)).trans (HC.out i hi)) hlast
        have hpn:=HPT.out _ hlast;unfold ptA at hpn;simp only [Nat.zero_mul,Nat.add_zero,Nat.zero_add] at o0 o1 hp0;have hsd2:sd zs 0 j (j+1)=sideI (nth zs 0) (nth zs 1) (nth zs (j*2)) (nth zs (j*2+1)) (nth zs ((j+1)*2)) (nth zs ((j+1)*2+1)):=rfl;have i13:(j:Int)+1<(n:Int):=by omega
        have i14:(0:Int)<(n:Int):=by omega
        have i15:((j:Int)+1).toNat=j+1:=by omega
        have i16:(0:Int)≤(j:Int)+1:=by omega
        have i17:0<n:=by omega
        by_cases hneg2:sd zs 0 j (j+1)<0
        ·have HF:=Lib.hid (stoneB_f3 hlt (HTB.out hlast hneg2))
         rw [hsd] at hneg hpos;rw [hsd2] at hneg2;clear hsd hsd2;go_wp2;go_region_held3 (fun w'=>(w'.cell? ⟨b,off+j*2,none⟩=some (.int .i64 (nth zs (j*2)))∧w'.cell? ⟨b,off+j*2+1,none⟩=some (.int .i64 (nth zs (j*2+1))))∧(w'.cell? ⟨b,off+j1*2,none⟩=some (.int .i64 (nth zs (j1*2)))∧w'.cell? ⟨b,off+j1*2+1,none⟩=some (.int .i64 (nth zs (j1*2+1))))∧(w'.cell? ⟨b,off+j2*2,none⟩=some (.int .i64 (nth zs (j2*2)))∧w'.cell? ⟨b,off+j2*2+1,none⟩=some (.int .i64 (nth zs (j2*2+1))))) (first | (simp [*]; done) | (refine ⟨⟨?_,?_⟩,⟨?_,?_⟩,⟨?_,?_⟩⟩ <;> (rw [hcc _ _ (by simp <;> omega)]; simp [*]))) ((go_at_call 156; refine (side_any _ _ _ _ _ _ _ hpk hp1 hp2).mono ?_; rintro e w1 ⟨rfl,hb1⟩; obtain ⟨hcc,hff⟩:=bcell hb1));have HB1:=Lib.hid (HB.out.drew.trans (hb1.mono (by have:=HB.out.size; simp; omega)))
         have hz1:w.heap.size≤wr.heap.size:=HB.out.size;replace o0:=(hb1.cell (p:=⟨b,off,none⟩) (by simp; omega)).trans o0
         replace o1:=(hb1.cell (p:=⟨b,off+1,none⟩) (by simp; omega)).trans o1
         replace x0:=(hb1.cell (p:=⟨b,off+j*2,none⟩) (by simp; omega)).trans x0
         replace x1:=(hb1.cell (p:=⟨b,off+j*2+1,none⟩) (by simp; omega)).trans x1
         replace v0:=(hb1.cell (p:=⟨b,off+(j+1)*2,none⟩) (by simp; omega)).trans v0
         replace v1:=(hb1.cell (p:=⟨b,off+(j+1)*2+1,none⟩) (by simp; omega)).trans v1
         have hz2:w.heap.size≤w1.heap.size:=HB1.out.size;clear hcc hff hb1 y0 y1 z0 z1;go_wp2;go_region_held3 (fun w'=>(w'.cell? ⟨b,off,none⟩=some (.int .i64 (nth zs 0))∧w'.cell? ⟨b,off+1,none⟩=some (.int .i64 (nth zs 1)))∧(w'.cell? ⟨b,off+j*2,none⟩=some (.int .i64 (nth zs (j*2)))∧w'.cell? ⟨b,off+j*2+1,none⟩=some (.int .i64 (nth zs (j*2+1))))∧(w'.cell? ⟨b,off+(j+1)*2,none⟩=some (.int .i64 (nth zs ((j+1)*2)))∧w'.cell? ⟨b,off+(j+1)*2+1,none⟩=some (.int .i64 (nth zs ((j+1)*2+1))))) (first | (simp [*]; done) | (refine ⟨⟨?_,?_⟩,⟨?_,?_⟩,⟨?_,?_⟩⟩ <;> (rw [hcc _ _ (by simp <;> omega)]; simp [*]))) ((go_at_call 156; refine (side_any _ _ _ _ _ _ _ hp0 hpk hpn).mono ?_; rintro e w2 ⟨rfl,hb2⟩; obtain ⟨hcc,hff⟩:=bcell hb2));have HB2:=Lib.hid (HB1.out.drew.trans (hb2.mono (by have:=HB1.out.size; simp; omega)))
         clear hcc hff hb2;go_wp2;go_ret;exact ⟨ret_bool HF.out.symm,HB2.out⟩
        ·have HS:=Lib.hid (turnTo_step hag (HTD.out hpos hlast (by omega)))
         rw [hsd] at hneg hpos;rw [hsd2] at hneg2;clear hsd hsd2;go_wp2;go_region_held3 (fun w'=>(w'.cell? ⟨b,off+j*2,none⟩=some (.int .i64 (nth zs (j*2)))∧w'.cell? ⟨b,off+j*2+1,none⟩=some (.int .i64 (nth zs (j*2+1))))∧(w'.cell? ⟨b,off+j1*2,none⟩=some (.int .i64 (nth zs (j1*2)))∧w'.cell? ⟨b,off+j1*2+1,none⟩=some (.int .i64 (nth zs (j1*2+1))))∧(w'.cell? ⟨b,off+j2*2,none⟩=some (.int .i64 (nth zs (j2*2)))∧w'.cell? ⟨b,off+j2*2+1,none⟩=some (.int .i64 (nth zs (j2*2+1))))) (first | (simp [*]; done) | (refine ⟨⟨?_,?_⟩,⟨?_,?_⟩,⟨?_,?_⟩⟩ <;> (rw [hcc _ _ (by simp <;> omega)]; simp [*]))) ((go_at_call 156; refine (side_any _ _ _ _ _ _ _ hpk hp1 hp2).mono ?_; rintro e w1 ⟨rfl,hb1⟩; obtain ⟨hcc,hff⟩:=bcell hb1));have HB1:=Lib.hid (HB.out.drew.trans (hb1.mono (by have:=HB.out.size; simp; omega)))
         have hz1:w.heap.size≤wr.heap.size:=HB.out.size;replace o0:=(hb1.cell (p:=⟨b,off,none⟩) (by simp; omega)).trans o0
         replace o1:=(hb1.cell (p:=⟨b,off+1,none⟩) (by simp; omega)).trans o1
         replace x0:=(hb1.cell (p:=⟨b,off+j*2,none⟩) (by simp; omega)).trans x0
         replace x1:=(hb1.cell (p:=⟨b,off+j*2+1,none⟩) (by simp; omega)).trans x1
         replace v0:=(hb1.cell (p:=⟨b,off+(j+1)*2,none⟩) (by simp; omega)).trans v0
         replace v1:=(hb1.cell (p:=⟨b,off+(j+1)*2+1,none⟩) (by simp; omega)).trans v1
         have hz2:w.heap.size≤w1.heap.size:=HB1.out.size;clear hcc hff hb1 y0 y1 z0 z1;go_wp2;go_region_held3 (fun w'=>(w'.cell? ⟨b,off,none⟩=some (.int .i64 (nth zs 0))∧w'.cell? ⟨b,off+1,none⟩=some (.int .i64 (nth zs 1)))∧(w'.cell? ⟨b,off+j*2,none⟩=some (.int .i64 (nth zs (j*2)))∧w'.cell? ⟨b,off+j*2+1,none⟩=some (.int .i64 (nth zs (j*2+1))))∧(w'.cell? ⟨b,off+(j+1)*2,none⟩=some (.int .i64 (nth zs ((j+1)*2)))∧w'.cell? ⟨b,off+(j+1)*2+1,none⟩=some (.int .i64 (nth zs ((j+1)*2+1))))) (first | (simp [*]; done) | (refine ⟨⟨?_,?_⟩,⟨?_,?_⟩,⟨?_,?_⟩⟩ <;> (rw [hcc _ _ (by simp <;> omega)]; simp [*]))) ((go_at_call 156; refine (side_any _ _ _ _ _ _ _ hp0 hpk hpn).mono ?_; rintro e w2 ⟨rfl,hb2⟩; obtain ⟨hcc,hff⟩:=bcell hb2));have HB2:=Lib.hid (HB1.out.drew.trans (hb2.mono (by have:=HB1.out.size; simp; omega)))
         clear hcc hff hb2;clear i15 r1 r2 i1 i2 i3 i4;go_wp2;go_roundw
         case rel=>exact ⟨j+1,by omega,by go_num,HS.out,HB2.out⟩
         case measure=>first | (simp [intOf]; done) | (simp [intOf]; omega)
       ·have HS:=Lib.hid (turnTo_step hag (HTC.out hpos hlast))
        have i13:¬ (j:Int)+1<(n:Int):=by omega
        rw [hsd] at hneg hpos;clear hsd;go_wp2;go_region_held3 (fun w'=>(w'.cell? ⟨b,off+j*2,none⟩=some (.int .i64 (nth zs (j*2)))∧w'.cell? ⟨b,off+j*2+1,none⟩=some (.int .i64 (nth zs (j*2+1))))∧(w'.cell? ⟨b,off+j1*2,none⟩=some (.int .i64 (nth zs (j1*2)))∧w'.cell? ⟨b,off+j1*2+1,none⟩=some (.int .i64 (nth zs (j1*2+1))))∧(w'.cell? ⟨b,off+j2*2,none⟩=some (.int .i64 (nth zs (j2*2)))∧w'.cell? ⟨b,off+j2*2+1,none⟩=some (.int .i64 (nth zs (j2*2+1))))) (first | (simp [*]; done) | (refine ⟨⟨?_,?_⟩,⟨?_,?_⟩,⟨?_,?_⟩⟩ <;> (rw [hcc _ _ (by simp <;> omega)]; simp [*]))) ((go_at_call 156; refine (side_any _ _ _ _ _ _ _ hpk hp1 hp2).mono ?_; rintro e w1 ⟨rfl,hb1⟩; obtain ⟨hcc,hff⟩:=bcell hb1));have HB1:=Lib.hid (HB.out.drew.trans (hb1.mono (by have:=HB.out.size; simp; omega)))
        clear hcc hff hb1 x0 x1 y0 y1 z0 z1 o0 o1;go_wp2;refine wp_region_held_drew (S:=fun _=>True) (by kernel_rfl) trivial (fun _ => ?_);refine take_held (i:=0) (d:=42) rfl rfl ?_;try simp only [Act.put,ly3]
        refine take_held (i:=1) (d:=43) (v := .bool true) rfl rfl ?_;try simp only [Act.put,ly3]
        refine take_held (i:=2) (d:=44) (v := .bool true) rfl rfl ?_;try simp only [Act.put,ly3]
        refine take_held (i:=3) (d:=45) rfl rfl ?_;try simp only [Act.put,ly3]
        refine take_held (i:=4) (d:=46) rfl rfl ?_;try simp only [Act.put,ly3]
        refine take_held (i:=5) (d:=47) rfl rfl ?_;try simp only [Act.put,ly3]
        refine take_held (i:=6) (d:=48) (v := .bool false) rfl rfl ?_;try simp only [Act.put,ly3]
        refine take_held (i:=7) (d:=49) (v := .bool false) rfl rfl ?_;try simp only [Act.put,ly3]
        refine take_held (i:=8) (d:=50) (v := .bool false) rfl rfl ?_;try simp only [Act.put,ly3]
        refine skip_held (i:=9) (d:=51) rfl rfl ?_;try simp only [Act.put,ly3]
        refine skip_held (i:=10) (d:=52) rfl rfl ?_;try simp only [Act.put,ly3]
        refine skip_held (i:=11) (d:=53) rfl rfl ?_;try simp only [Act.put,ly3]
        refine skip_held (i:=12) (d:=54) rfl rfl ?_;try simp only [Act.put,ly3]
        refine skip_held (i:=13) (d:=55) rfl rfl ?_;try simp only [Act.put,ly3]
        refine skip_held (i:=14) (d:=56) rfl rfl ?_;try simp only [Act.put,ly3]
        refine skip_held (i:=15) (d:=57) rfl rfl ?_;try simp only [Act.put,ly3]
        refine skip_held (i:=16) (d:=58) rfl rfl ?_;try simp only [Act.put,ly3]
        refine skip_held (i:=17) (d:=59) rfl rfl ?_;try simp only [Act.put,ly3]
        refine skip_held (i:=18) (d:=60) rfl rfl ?_;try simp only [Act.put,ly3]
        refine skip_held (i:=19) (d:=61) rfl rfl ?_;try simp only [Act.put,ly3]
        refine skip_held (i:=20) (d:=62) rfl rfl ?_;try simp only [Act.put,ly3]
        refine skip_held (i:=21) (d:=63) rfl rfl ?_;try simp only [Act.put,ly3]
        refine skip_held (i:=22) (d:=64) rfl rfl ?_;try simp only [Act.put,ly3]
        refine take_held (i:=23) (d:=65) (v := .bool false) rfl rfl ?_;try simp only [Act.put,ly3]
        refine wpAnyH_done (by kernel_rfl) ?_ _;clear r1 r2 i1 i2 i3 i4;go_wp2;go_roundw
        case rel=>exact ⟨j+1,by omega,by go_num,HS.out,HB1.out.drew⟩
        case measure=>first | (simp [intOf]; done) | (simp [intOf]; omega)
    ·obtain rfl:j=n:=by omega
     have HF:=Lib.hid (stoneB_t hB HPT.out hag);clear hb;go_wp2;go_ret;exact ⟨ret_bool HF.out.symm,HB.out⟩
  ·have HF:=Lib.hid (badB_stone hbad)
   go_enter Tryzx.func120,Tryz.ntmps120;go_wp2;go_region
   go_wp2_with (go_at_call 43; refine (within_any _ _ _ _).mono ?_; rintro e w' ⟨rfl,rfl⟩);refine (containsPts_any _ _ _ zs _ H0 (by omega)).mono ?_;rw [hbad];rintro e w1 ⟨rfl,hb1⟩;go_wp2;go_ret;exact ⟨ret_bool HF.out.symm,HA.out.trans (hb1.mono (by simp))⟩
end X
namespace X
open Go.RowKit
def btw (a0 a1 a2 a3 b0 b1 b2 b3:Int):List Int := [a0,a1,b0,b1,b2,b3,a2,a3]
def BtwPost (w:World) (zs:List Int) (e:Ending) (w':World):Prop :=
 ∃ A n c,e = .returned (.tuple #[.agg #[.slice A n c],.bool (stoneB zs 4)])∧(stoneB zs 4=true→n=4∧c=4∧∃ g,A=some ⟨g,0,none⟩∧RowF w' g 108 8 (ints zs)∧w.heap.size≤g)∧(stoneB zs 4=false→A=none∧n=0∧c=0)∧Below w.heap.size w w'
theorem btwPost_t {w w':World} {zs:List Int} {g:Nat} (h:stoneB zs 4=true) (hr:RowF w' g 108 8 (ints zs)) (hg:w.heap.size≤g) (hb:Below w.heap.size w w'):BtwPost w zs (.returned (.tuple #[.agg #[.slice (some ⟨g,0,none⟩) 4 4],.bool true])) w' :=
 ⟨_,_,_,by rw [h],fun _=>⟨rfl,rfl,g,rfl,hr,hg⟩,fun h'=>absurd h' (by rw [h]; simp),hb⟩
theorem btwPost_f {w w':World} {zs:List Int} (h:stoneB zs 4=false) (hb:Below w.heap.size w w'):BtwPost w zs (.returned (.tuple #[.agg #[.slice none 0 0],.bool false])) w' :=
 ⟨_,_,_,by rw [h],fun h'=>absurd h' (by rw [h]; simp),fun _=>⟨rfl,rfl,rfl⟩,hb⟩
theorem btw_row {w:World} {a0 a1 a2 a3 b0 b1 b2 b3:Int}:(w.alloc (.cells #[.int .i64 a0,.int .i64 a1,.int .i64 b0,.int .i64 b1,.int .i64 b2,.int .i64 b3,.int .i64 a2,.int .i64 a3] 108)).rowIs w.heap.size 108 8 (ints (btw a0 a1 a2 a3 b0 b1 b2 b3)) :=
 World.rowIs_alloc w #[.int .i64 a0,.int .i64 a1,.int .i64 b0,.int .i64 b1,.int .i64 b2,.int .i64 b3,.int .i64 a2,.int .i64 a3] _ _ (fun j hj=>by simp at hj; match j,hj with | 0,_=>rfl | 1,_=>rfl | 2,_=>rfl | 3,_=>rfl | 4,_=>rfl | 5,_=>rfl | 6,_=>rfl | 7,_=>rfl)
theorem cell_alloc_lt {w:World} {o:Obj} {g i:Nat} (h:g<w.heap.size):(w.alloc o).cell? ⟨g,i,none⟩=w.cell? ⟨g,i,none⟩:=World.cell?_of_block (a:=⟨g,i,none⟩) (Below.heap_alloc w o g h)
theorem cell_new2 {w:World} {u:Value} {t:TypeId} {g:Nat} (h:g=w.heap.size):(w.alloc (.cells #[u] t)).cell? ⟨g,0,none⟩=some u:=by subst h; exact cell_new0 w u t
theorem frozen_new2 {w:World} {u:Value} {t:TypeId} {g:Nat} (h:g=w.heap.size):(w.alloc (.cells #[u] t)).frozen? ⟨g,0,none⟩=false:=by subst h; exact World.rowIs.frozen (World.rowIs_alloc w #[u] t (fun _=>u) (fun i hi=>by simp at hi; subst hi; rfl)) 0
theorem frozen_alloc_lt {w:World} {o:Obj} {g i:Nat} (h:g<w.heap.size):(w.alloc o).frozen? ⟨g,i,none⟩=w.frozen? ⟨g,i,none⟩:=World.frozen?_of_block (a:=⟨g,i,none⟩) (Below.heap_alloc w o g h)
theorem btw_ready (a0 a1 a2 a3 b0 b1 b2 b3:Int) (w:World):∃ W5:World,W5=(((((w.alloc (.cells #[.int .i64 a0,.int .i64 a1,.int .i64 a2,.int .i64 a3] 110)).alloc (.cells #[.int .i64 b0,.int .i64 b1,.int .i64 b2,.int .i64 b3] 110)).alloc (.cells #[.slice none 0 0] 127)).alloc (.cells #[.int .i64 a0,.int .i64 a1,.int .i64 b0,.int .i64 b1,.int .i64 b2,.int .i64 b3,.int .i64 a2,.int .i64 a3] 108)).alloc (.cells #[.slice (some ⟨w.heap.size+1+1+1,0,none⟩) 4 4] 127))∧RowF W5 (w.heap.size+1+1+1) 108 8 (ints (btw a0 a1 a2 a3 b0 b1 b2 b3))∧W5.cell? ⟨w.heap.size+1+1,0,none⟩=some (.slice none 0 0)∧W5.frozen? ⟨w.heap.size+1+1,0,none⟩=false∧W5.cell? ⟨w.heap.size+1+1+1+1,0,none⟩=some (.slice (some ⟨w.heap.size+1+1+1,0,none⟩) 4 4)∧W5.heap.size=w.heap.size+1+1+1+1+1∧Below w.heap.size w W5:=by
 refine ⟨_,rfl,?_,?_,?_,?_,?_,?_⟩
 ·have hr:=btw_row (w:=(((w.alloc (.cells #[.int .i64 a0,.int .i64 a1,.int .i64 a2,.int .i64 a3] 110)).alloc (.cells #[.int .i64 b0,.int .i64 b1,.int .i64 b2,.int .i64 b3] 110)).alloc (.cells #[.slice none 0 0] 127))) (a0:=a0) (a1:=a1) (a2:=a2) (a3:=a3) (b0:=b0) (b1:=b1) (b2:=b2) (b3:=b3)
  have e:(((w.alloc (.cells #[.int .i64 a0,.int .i64 a1,.int .i64 a2,.int .i64 a3] 110)).alloc (.cells #[.int .i64 b0,.int .i64 b1,.int .i64 b2,.int .i64 b3] 110)).alloc (.cells #[.slice none 0 0] 127)).heap.size=w.heap.size+1+1+1:=by simp
  rw [e] at hr;exact (RowF.of_row hr).alloc _
 ·rw [cell_alloc_lt (by simp),cell_alloc_lt (by simp)]
  exact cell_new2 (by simp)
 ·rw [frozen_alloc_lt (by simp),frozen_alloc_lt (by simp)]
  exact frozen_new2 (by simp)
 ·exact cell_new2 (by simp)
 ·simp
 ·exact (((((Below.refl _ _).alloc (Nat.le_refl _) _).alloc (by simp) _).alloc (by simp; omega) _).alloc (by simp; omega) _).alloc (by simp; omega) _
set_option maxHeartbeats 1200000 in
theorem sBetween_any (a0 a1 a2 a3 b0 b1 b2 b3:Int) (w:World) :
  Calls Tryzx.prog 91 #[.agg #[.int .i64 a0,.int .i64 a1,.int .i64 a2,.int .i64 a3],.agg #[.int .i64 b0,.int .i64 b1,.int .i64 b2,.int .i64 b3]] w (BtwPost w (btw a0 a1 a2 a3 b0 b1 b2 b3)):=by
 obtain ⟨W5,hW,hrow,c2,f2,c4,hsz,hbw⟩:=btw_ready a0 a1 a2 a3 b0 b1 b2 b3 w;have hrec:RecsAt W5 W5.heap.size 2 (some ⟨w.heap.size+1+1+1,0,none⟩) 4 (btw a0 a1 a2 a3 b0 b1 b2 b3):=RowF.recs (n:=4) (K:=2) hrow rfl;have hlt:=hrow.lt;have HW:=Lib.hid hW;have HR:=Lib.hid hrow;have HZ:=Lib.hid hsz;have HBW:=Lib.hid hbw;have HC2:=Lib.hid c2;have HF2:=Lib.hid f2;have HC4:=Lib.hid c4;clear hW hrow hsz hbw c2 f2 c4;cases hS:stoneB (btw a0 a1 a2 a3 b0 b1 b2 b3) 4;all_goals
  go_enter Tryzx.func91,Tryz.ntmps91;go_wp2_with fail
  rw [← HW.out];refine (sStoneOk_any _ 4 4 _ _ hrec).mono ?_;rw [hS];rintro e w1 ⟨rfl,hb1⟩;have g2:w1.cell? ⟨w.heap.size+1+1,0,none⟩=some (.slice none 0 0):=(hb1.cell (p:=⟨w.heap.size+1+1,0,none⟩) (by have:=HZ.out; simp; omega)).trans HC2.out
  have k2:w1.frozen? ⟨w.heap.size+1+1,0,none⟩=false:=(hb1.frozen (p:=⟨w.heap.size+1+1,0,none⟩) (by have:=HZ.out; simp; omega)).trans HF2.out
  have g4:w1.cell? ⟨w.heap.size+1+1+1+1,0,none⟩=some (.slice (some ⟨w.heap.size+1+1+1,0,none⟩) 4 4):=(hb1.cell (p:=⟨w.heap.size+1+1+1+1,0,none⟩) (by have:=HZ.out; simp; omega)).trans HC4.out
  have HR1:=Lib.hid (HR.out.after hb1);have HB1:=Lib.hid (HBW.out.trans (hb1.mono (by have:=HZ.out; omega)))
  clear hrec hlt hb1;go_wp2
 ·refine bodyPost_ret (v := .tuple #[.agg #[.slice none 0 0],.bool false]) (by simp [results,Tryz.results91,go_sem, *]) rfl ?_
  exact btwPost_f hS (HB1.out.setCell (by simp; omega) _)
 ·refine bodyPost_ret (v := .tuple #[.agg #[.slice (some ⟨w.heap.size+1+1+1,0,none⟩) 4 4],.bool true]) (by simp [results,Tryz.results91,go_sem, *]) rfl ?_
  exact btwPost_t hS (HR1.out.set_other (by simp) _) (by omega) (HB1.out.setCell (by simp; omega) _)
set_option maxHeartbeats 1200000 in
theorem iBetween_any (a0 a1 a2 a3 b0 b1 b2 b3:Int) (w:World) :
  Calls Tryzx.prog 99 #[.agg #[.int .i64 a0,.int .i64 a1,.int .i64 a2,.int .i64 a3],.agg #[.int .i64 b0,.int .i64 b1,.int .i64 b2,.int .i64 b3]] w (BtwPost w (btw a0 a1 a2 a3 b0 b1 b2 b3)):=by
 obtain ⟨W5,hW,hrow,c2,f2,c4,hsz,hbw⟩:=btw_ready a0 a1 a2 a3 b0 b1 b2 b3 w;have hrec:RecsAt W5 W5.heap.size 2 (some ⟨w.heap.size+1+1+1,0,none⟩) 4 (btw a0 a1 a2 a3 b0 b1 b2 b3):=RowF.recs (n:=4) (K:=2) hrow rfl;have hlt:=hrow.lt;have HW:=Lib.hid hW;have HR:=Lib.hid hrow;have HZ:=Lib.hid hsz;have HBW:=Lib.hid hbw;have HC2:=Lib.hid c2;have HF2:=Lib.hid f2;have HC4:=Lib.hid c4;clear hW hrow hsz hbw c2 f2 c4;cases hS:stoneB (btw a0 a1 a2 a3 b0 b1 b2 b3) 4;all_goals
  go_enter Tryzx.func99,Tryz.ntmps99;go_wp2_with fail
  rw [← HW.out];refine (iStoneOk_any _ 4 4 _ _ hrec).mono ?_;rw [hS];rintro e w1 ⟨rfl,hb1⟩;have g2:w1.cell? ⟨w.heap.size+1+1,0,none⟩=some (.slice none 0 0):=(hb1.cell (p:=⟨w.heap.size+1+1,0,none⟩) (by have:=HZ.out; simp; omega)).trans HC2.out
  have k2:w1.frozen? ⟨w.heap.size+1+1,0,none⟩=false:=(hb1.frozen (p:=⟨w.heap.size+1+1,0,none⟩) (by have:=HZ.out; simp; omega)).trans HF2.out
  have g4:w1.cell? ⟨w.heap.size+1+1+1+1,0,none⟩=some (.slice (some ⟨w.heap.size+1+1+1,0,none⟩) 4 4):=(hb1.cell (p:=⟨w.heap.size+1+1+1+1,0,none⟩) (by have:=HZ.out; simp; omega)).trans HC4.out
  have HR1:=Lib.hid (HR.out.after hb1);have HB1:=Lib.hid (HBW.out.trans (hb1.mono (by have:=HZ.out; omega)))
  clear hrec hlt hb1;go_wp2
 ·refine bodyPost_ret (v := .tuple #[.agg #[.slice none 0 0],.bool false]) (by simp [results,Tryz.results99,go_sem, *]) rfl ?_
  exact btwPost_f hS (HB1.out.setCell (by simp; omega) _)
 ·refine bodyPost_ret (v := .tuple #[.agg #[.slice (some ⟨w.heap.size+1+1+1,0,none⟩) 4 4],.bool true]) (by simp [results,Tryz.results99,go_sem, *]) rfl ?_
  exact btwPost_t hS (HR1.out.set_other (by simp) _) (by omega) (HB1.out.setCell (by simp; omega) _)
end X
end Go.Proofs.YtjcgklifabcfkaaGreat
