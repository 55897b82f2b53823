/-
  Texts that the law stands on, part 8.
-/
import Derived.Test.YtpblihmhpalkfaaGreatSettlementsP3
import Derived.Test.YtpblihmhpalkfaaGreatSettlementsP6
import Derived.BigRegion
set_option maxRecDepth 100000
set_option linter.unusedVariables false
set_option linter.unusedSimpArgs false
namespace Go.Proofs.YtpblihmhpalkfaaGreat
namespace X
open Go.RowKit
def HngF (w:World) (A:Option Addr) (m:Nat) (js:List Int) (fs:Nat→Bool):Prop :=
 1≤m→∃ b off,A=some ⟨b,off,none⟩∧b<w.heap.size∧∀ i,i<m→w.cell? ⟨b,off+i*2,none⟩=some (.int .i64 (nth js i))∧w.cell? ⟨b,off+i*2+1,none⟩=some (.bool (fs i))
theorem hngF_of {w:World} {A:Option Addr} {m:Nat} {js:List Int} (h:HngAt w A m js):∃ fs,HngF w A m js fs:=by
 by_cases hm:1≤m
 ·obtain ⟨b,off,rfl,hb,hc⟩:=h hm
  refine ⟨fun i=>if hi:i<m then (hc i hi).2.choose else false,fun _=>⟨b,off,rfl,hb,fun i hi=>⟨(hc i hi).1,?_⟩⟩⟩;dsimp only;rw [dif_pos hi];exact (hc i hi).2.choose_spec
 ·exact ⟨fun _=>false,fun h=>absurd h hm⟩
theorem HngF.at {w:World} {A:Option Addr} {m:Nat} {js:List Int} {fs:Nat→Bool} (h:HngF w A m js fs):HngAt w A m js:=fun hm=>by
 obtain ⟨b,off,e,hb,hc⟩:=h hm;exact ⟨b,off,e,hb,fun i hi=>⟨(hc i hi).1,_,(hc i hi).2⟩⟩
theorem HngF.below {w w':World} {A:Option Addr} {m:Nat} {js:List Int} {fs:Nat→Bool} (h:HngF w A m js fs) (hb:Below w.heap.size w w'):HngF w' A m js fs:=fun hm=>by
 obtain ⟨b,off,rfl,hlt,hc⟩:=h hm;have hs:=hb.size;exact ⟨b,off,rfl,by omega,fun i hi=>⟨(hb.cell hlt).trans (hc i hi).1,(hb.cell hlt).trans (hc i hi).2⟩⟩
def trnN (fs:Nat→Bool):Nat→Nat
 | 0=>0
 | 1=>0
 | k+2=>trnN fs (k+1)+(if (fs (k+1) != fs k)=true then 1 else 0)
theorem trnN_le (fs:Nat→Bool):∀ k,trnN fs (k+1)≤k
 | 0=>Nat.le_refl _
 | k+1=>by
  have:=trnN_le fs k;rw [trnN];split <;> omega
section
variable (A : Option Addr) (m c : Nat) (js : List Int) (fs : Nat → Bool) (w : World) (h : HngF w A m js fs) (hm : m ≤ 1048576)
include h hm
set_option maxRecDepth 100000 in
set_option maxHeartbeats 3200000 in
theorem iTurns_any:Calls Tryzx.prog 32 #[.slice A m c] w fun e w'=>e = .returned (.int .i64 (trnN fs m:Nat))∧Below w.heap.size w w':=by
 have H:=Lib.hid h;clear h;go_enter Tryzx.func32,Tryz.ntmps32;go_wp2;go_loopw [3,4] (fun v3 v4 wr=>∃ j:Nat,v4 = .int .i64 ((j:Int)+1)∧(j+1≤m ∨ j=0)∧v3 = .int .i64 (trnN fs (j+1):Nat)∧Hid (Below w.heap.size w wr)) (fun _ v4 _=>m - (intOf v4).toNat)
 case atStart=>exact ⟨0,rfl,.inr rfl,rfl,Lib.hid (Below.refl _ _)⟩
 case round =>
  obtain ⟨j,rfl,hj,rfl,HB⟩:=hrel;by_cases hlt:j+1<m
  ·have i1:IntKind.i64.wrap ((j:Int)+1+1)=(j:Int)+1+1:=IntWalk.i64_in _ (by omega)
   have i2:IntKind.i64.wrap ((j:Int)+1 - 1)=(j:Int):=by rw [IntWalk.i64_in _ (by omega)]; omega
   have ik:(j:Int)+1<(m:Int):=by omega
   have k0:(0:Int)≤(j:Int)+1:=by omega
   have j0:(0:Int)≤(j:Int):=by omega
   have j1:(j:Int)<(m:Int):=by omega
   have tn:((j:Int)+1).toNat=j+1:=by omega
   obtain ⟨b,off,rfl,hb,hc⟩:=H.out (by omega);have c1:=(HB.out.cell (p:=⟨b,off+(j+1)*2+1,none⟩) (by exact hb)).trans (hc (j+1) (by omega)).2;have c0:=(HB.out.cell (p:=⟨b,off+j*2+1,none⟩) (by exact hb)).trans (hc j (by omega)).2;have hle:=trnN_le fs j;have HT:Hid (trnN fs (j+1+1)=trnN fs (j+1)+(if (fs (j+1) != fs j)=true then 1 else 0)):=Lib.hid rfl;have i3:IntKind.i64.wrap (((trnN fs (j+1):Nat):Int)+1)=((trnN fs (j+1):Nat):Int)+1:=IntWalk.i64_in _ (by omega);generalize fs (j+1)=p1 at *
   generalize fs j=p0 at *
   clear hc hle;cases p1 <;> cases p0
   all_goals
    go_wp2;go_region
    go_wp2;go_roundw
    case rel=>exact ⟨j+1,by go_num,.inl (by omega),by rw [HT.out]; rfl,Lib.hid (below_dr HB.out)⟩
    case measure=>simp [intOf]; omega
  ·have ik:¬ (j:Int)+1<(m:Int):=by omega
   have HE:Hid (trnN fs (j+1)=trnN fs m):=Lib.hid (by
    rcases hj with e | e
    ·rw [show m=j+1 by omega]
    ·subst e
     have:m=0 ∨ m=1:=by omega
     rcases this with rfl | rfl <;> rfl)
   go_wp2;go_ret;exact ⟨by rw [HE.out]; rfl,HB.out⟩
end
section
variable (A : Option Addr) (m c : Nat) (js : List Int) (fs : Nat → Bool) (w : World) (h : HngF w A m js fs) (hm : m ≤ 1048576) (hj : ∀ i, i < m → 0 ≤ nth js i ∧ nth js i ≤ 1048576)
include h hm hj
set_option maxRecDepth 100000 in
set_option maxHeartbeats 1600000 in
theorem iMech_any:Calls Tryzx.prog 33 #[.slice A m c] w fun e w'=>e = .returned (.bool (decide (3≤dcnt js m) && decide (2≤trnN fs m)))∧Below w.heap.size w w':=by
 have H:=Lib.hid h;clear h;go_enter Tryzx.func33,Tryz.ntmps33;go_wp2_with fail
 refine (iJts_any A m c js _ (by exact H.out.at) hm hj).mono ?_;rintro e w1 ⟨rfl,hb1⟩;have HB1:=Lib.hid hb1;have H1:=Lib.hid (H.out.below hb1);clear hb1 H;by_cases h3:3≤dcnt js m
 ·have g3:((dcnt js m:Nat):Int) ≥ 3:=by omega
  have HN:Hid ((decide (3≤dcnt js m) && decide (2≤trnN fs m))=decide (2≤trnN fs m)):=Lib.hid (by rw [decide_eq_true h3,Bool.true_and]);go_wp2_with fail
  refine (iTurns_any A m c js fs _ (by exact H1.out) hm).mono ?_;rintro e w2 ⟨rfl,hb2⟩;have HB2:=Lib.hid (below_then HB1.out hb2);have HD:Hid (decide (((trnN fs m:Nat):Int) ≥ 2)=decide (2≤trnN fs m)):=Lib.hid (decide_eq_decide.2 (by omega));clear hb2;go_wp2;go_ret;first | exact ⟨ret_bool (HD.out.trans HN.out.symm),HB2.out⟩ | exact ⟨by rw [HN.out]; simp,HB2.out⟩
 ·have g3:¬ ((dcnt js m:Nat):Int) ≥ 3:=by omega
  have HN:Hid ((decide (3≤dcnt js m) && decide (2≤trnN fs m))=false):=Lib.hid (by rw [decide_eq_false h3,Bool.false_and]);go_wp2;go_ret;first | exact ⟨rfl,HB1.out⟩ | exact ⟨by rw [HN.out]; rfl,HB1.out⟩
end
end X
end Go.Proofs.YtpblihmhpalkfaaGreat
