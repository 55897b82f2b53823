/-
  Texts that the law stands on, part 19.
-/
import Derived.Test.YtjcgklifabcfkaaGreatN1
import Derived.Test.YtjcgklifabcfkaaGreatN11
import Derived.Test.YtjcgklifabcfkaaGreatN18
import Derived.WalkMore
import Derived.Deep.DeepCutAuto
import Derived.ScopeJumps
set_option maxRecDepth 100000
set_option linter.unusedVariables false
set_option linter.unusedSimpArgs false
namespace Go.Proofs.YtjcgklifabcfkaaGreat
namespace X
open Go.RowKit
def hasAt (xs:List Int) (H V M D:Int) (k:Nat):Bool:=decide (nth xs (k*4)=H) && (decide (nth xs (k*4+1)=V) && (decide (nth xs (k*4+2)=M) && decide (nth xs (k*4+3)=D)))
def hasTo (xs:List Int) (H V M D:Int):Nat→Bool
 | 0=>false
 | k+1=>hasTo xs H V M D k || hasAt xs H V M D k
theorem hasTo_mem {xs:List Int} {H V M D:Int} {k:Nat} (h:hasAt xs H V M D k=true):∀ {n:Nat},k<n→hasTo xs H V M D n=true
 | n+1,hk=>by
  by_cases e:k=n
  ·subst e; simp [hasTo,h]
  ·simp [hasTo,hasTo_mem h (n:=n) (by omega)]
theorem hasTo_step {xs:List Int} {H V M D:Int} {k:Nat} (h0:hasTo xs H V M D k=false) (h:hasAt xs H V M D k=false):hasTo xs H V M D (k+1)=false:=by simp [hasTo,h0,h]
section
variable (rs : List Int) (n : Nat)
def crB (i k m:Nat):Bool:=solB (nth rs (i*4)) (nth rs (i*4+1)) (nth rs (i*4+2)) (nth rs (i*4+3)) (nth rs (k*4)) (nth rs (k*4+1)) (nth rs (k*4+2)) (nth rs (k*4+3)) (nth rs (m*4)) (nth rs (m*4+1)) (nth rs (m*4+2)) (nth rs (m*4+3))
def crI (i k m:Nat) (x:Int):Int:=solI (nth rs (i*4)) (nth rs (i*4+1)) (nth rs (i*4+2)) (nth rs (i*4+3)) (nth rs (k*4)) (nth rs (k*4+1)) (nth rs (k*4+2)) (nth rs (k*4+3)) (nth rs (m*4)) (nth rs (m*4+1)) (nth rs (m*4+2)) (nth rs (m*4+3)) x
def crH (i k m:Nat):Int:=crI rs i k m (det9 (nth rs (i*4+3)) (nth rs (i*4+1)) (nth rs (i*4+2)) (nth rs (k*4+3)) (nth rs (k*4+1)) (nth rs (k*4+2)) (nth rs (m*4+3)) (nth rs (m*4+1)) (nth rs (m*4+2)))
def crV (i k m:Nat):Int:=crI rs i k m (det9 (nth rs (i*4)) (nth rs (i*4+3)) (nth rs (i*4+2)) (nth rs (k*4)) (nth rs (k*4+3)) (nth rs (k*4+2)) (nth rs (m*4)) (nth rs (m*4+3)) (nth rs (m*4+2)))
def crM (i k m:Nat):Int:=crI rs i k m (det9 (nth rs (i*4)) (nth rs (i*4+1)) (nth rs (i*4+3)) (nth rs (k*4)) (nth rs (k*4+1)) (nth rs (k*4+3)) (nth rs (m*4)) (nth rs (m*4+1)) (nth rs (m*4+3)))
def crD (i k m:Nat):Int:=crI rs i k m (solD (nth rs (i*4)) (nth rs (i*4+1)) (nth rs (i*4+2)) (nth rs (i*4+3)) (nth rs (k*4)) (nth rs (k*4+1)) (nth rs (k*4+2)) (nth rs (k*4+3)) (nth rs (m*4)) (nth rs (m*4+1)) (nth rs (m*4+2)) (nth rs (m*4+3)))
theorem crV_eq (i k m:Nat):solV (nth rs (i*4)) (nth rs (i*4+1)) (nth rs (i*4+2)) (nth rs (i*4+3)) (nth rs (k*4)) (nth rs (k*4+1)) (nth rs (k*4+2)) (nth rs (k*4+3)) (nth rs (m*4)) (nth rs (m*4+1)) (nth rs (m*4+2)) (nth rs (m*4+3))=thrV (crH rs i k m) (crV rs i k m) (crM rs i k m) (crD rs i k m) (crB rs i k m):=rfl
theorem cr_thr {i k m:Nat} (h:crB rs i k m=true):thrB (crH rs i k m) (crV rs i k m) (crM rs i k m) (crD rs i k m)=true:=mkI_thr h
def metAt (H V M D:Int) (x:Nat):Bool:=metB (nth rs (x*4)) (nth rs (x*4+1)) (nth rs (x*4+2)) (nth rs (x*4+3)) H V M D
def crAll (i k m:Nat):Bool:=allB (metAt rs (crH rs i k m) (crV rs i k m) (crM rs i k m) (crD rs i k m)) n
def crHas (acc:List Int) (i k m:Nat):Bool:=hasTo acc (crH rs i k m) (crV rs i k m) (crM rs i k m) (crD rs i k m) (acc.length / 4)
def crStep (i k m:Nat) (acc:List Int):List Int:=if (crB rs i k m && (!crHas rs acc i k m && crAll rs n i k m))=true then acc ++ [crH rs i k m,crV rs i k m,crM rs i k m,crD rs i k m] else acc
def foldN (f:Nat→List Int→List Int):Nat→List Int→List Int
 | 0,a=>a
 | j+1,a=>f j (foldN f j a)
def corM (i k:Nat) (acc:List Int) (t:Nat):List Int:=foldN (fun j a=>crStep rs n i k (k+1+j) a) t acc
def corK (i:Nat) (acc:List Int) (t:Nat):List Int:=foldN (fun j a=>corM rs n i (i+1+j) a (n - (i+1+j+1))) t acc
def corI (t:Nat):List Int:=foldN (fun i a=>corK rs n i a (n - (i+1))) t []
def cornB:Bool:=allB (rowAt rs) n && inB (n:Int) 3 20
def cornL:List Int:=if cornB rs n=true then corI rs n n else []
end
variable {rs : List Int} {n : Nat}
theorem crStep_t {i k m:Nat} {acc:List Int} (h1:crB rs i k m=true) (h2:crHas rs acc i k m=false) (h3:crAll rs n i k m=true):crStep rs n i k m acc=acc ++ [crH rs i k m,crV rs i k m,crM rs i k m,crD rs i k m]:=by simp [crStep,h1,h2,h3]
theorem crStep_1 {i k m:Nat} (acc:List Int) (h:crB rs i k m=false):crStep rs n i k m acc=acc:=by simp [crStep,h]
theorem crStep_2 {i k m:Nat} {acc:List Int} (h:crHas rs acc i k m=true):crStep rs n i k m acc=acc:=by simp [crStep,h]
theorem crStep_3 {i k m:Nat} (acc:List Int) (h:crAll rs n i k m=false):crStep rs n i k m acc=acc:=by simp [crStep,h]
structure CrFacts (rs:List Int) (n i k m:Nat) (acc:List Int) (H V M D:Int) (B:Bool):Prop where
 thr:B=true→thrB H V M D=true
 no:B=false→crStep rs n i k m acc=acc
 has:hasTo acc H V M D (acc.length / 4)=true→crStep rs n i k m acc=acc
 all0:allB (metAt rs H V M D) n=false→crStep rs n i k m acc=acc
 yes:B=true→hasTo acc H V M D (acc.length / 4)=false→allB (metAt rs H V M D) n=true→crStep rs n i k m acc=acc ++ [H,V,M,D]
theorem crFacts (rs:List Int) (n i k m:Nat) (acc:List Int):CrFacts rs n i k m acc (crH rs i k m) (crV rs i k m) (crM rs i k m) (crD rs i k m) (crB rs i k m) :=
 ⟨cr_thr rs,crStep_1 acc,crStep_2,crStep_3 acc,crStep_t⟩
theorem cr_names (rs:List Int) (n i k m:Nat) (acc:List Int):∃ (H V M D:Int) (B:Bool),CrFacts rs n i k m acc H V M D B∧solV (nth rs (i*4)) (nth rs (i*4+1)) (nth rs (i*4+2)) (nth rs (i*4+3)) (nth rs (k*4)) (nth rs (k*4+1)) (nth rs (k*4+2)) (nth rs (k*4+3)) (nth rs (m*4)) (nth rs (m*4+1)) (nth rs (m*4+2)) (nth rs (m*4+3))=thrV H V M D B :=
 ⟨_,_,_,_,_,crFacts rs n i k m acc,crV_eq rs i k m⟩
theorem corM_s (i k:Nat) (acc:List Int) (t:Nat):corM rs n i k acc (t+1)=crStep rs n i k (k+1+t) (corM rs n i k acc t):=rfl
theorem corK_s (i:Nat) (acc:List Int) (t:Nat):corK rs n i acc (t+1)=corM rs n i (i+1+t) (corK rs n i acc t) (n - (i+1+t+1)):=rfl
theorem corI_s (t:Nat):corI rs n (t+1)=corK rs n t (corI rs n t) (n - (t+1)):=rfl
theorem cornL_f (h:cornB rs n=false):cornL rs n = []:=by simp [cornL,h]
theorem cornL_t (h:cornB rs n=true):cornL rs n=corI rs n n:=by simp [cornL,h]
theorem cornB_1 {k:Nat} (hk:k<n) (h:rowAt rs k=false):cornB rs n=false:=by simp [cornB,allB_f hk h]
theorem cornB_2 (h:inB (n:Int) 3 20=false):cornB rs n=false:=by simp [cornB,h]
theorem cornB_t (h:allTo (rowAt rs) n) (h2:inB (n:Int) 3 20=true):cornB rs n=true:=by simp [cornB,allB_t h,h2]
structure CorAcc (acc:List Int) (q b:Nat):Prop where
 len:acc.length=q*4
 few:q≤b
theorem crStep_acc {i k m:Nat} {acc:List Int} {q b:Nat} (h:CorAcc acc q b):∃ q',CorAcc (crStep rs n i k m acc) q' (b+1):=by
 unfold crStep;split
 ·exact ⟨q+1,by simp [h.len]; omega,by have:=h.few; omega⟩
 ·exact ⟨q,h.len,by have:=h.few; omega⟩
theorem corM_acc {i k:Nat} {acc:List Int} {q b:Nat} (h:CorAcc acc q b):∀ t,∃ q',CorAcc (corM rs n i k acc t) q' (b+t)
 | 0=>⟨q,h⟩
 | t+1=>by obtain ⟨q',h'⟩:=corM_acc h t; rw [corM_s]; exact crStep_acc h'
theorem corK_acc {i:Nat} {acc:List Int} {q b:Nat} (hn:n≤20) (h:CorAcc acc q b):∀ t,∃ q',CorAcc (corK rs n i acc t) q' (b+20*t)
 | 0=>⟨q,h⟩
 | t+1=>by
  obtain ⟨q',h'⟩:=corK_acc hn h t;obtain ⟨q2,h2⟩:=corM_acc (rs:=rs) (n:=n) (i:=i) (k:=i+1+t) h' (n - (i+1+t+1));rw [corK_s];exact ⟨q2,h2.len,by have:=h2.few; omega⟩
theorem corI_acc (hn:n≤20):∀ t,∃ q',CorAcc (corI rs n t) q' (400*t)
 | 0=>⟨0,rfl,Nat.le_refl _⟩
 | t+1=>by
  obtain ⟨q',h'⟩:=corI_acc hn t;obtain ⟨q2,h2⟩:=corK_acc (rs:=rs) (n:=n) (i:=t) hn h' (n - (t+1));rw [corI_s];exact ⟨q2,h2.len,by have:=h2.few; omega⟩
def cornN (rs:List Int) (n:Nat):Nat:=(cornL rs n).length / 4
theorem corn_acc (rs:List Int) (n:Nat):CorAcc (cornL rs n) (cornN rs n) 8000:=by
 cases e:cornB rs n
 ·rw [cornN,cornL_f e]; exact ⟨rfl,by simp⟩
 ·have hn:n≤20:=by simp only [cornB,Bool.and_eq_true,inB_iff] at e; omega
  obtain ⟨q,h⟩:=corI_acc (rs:=rs) hn n;rw [cornN,cornL_t e];have h1:=h.len;exact ⟨by omega,by have:=h.few; omega⟩
end X
namespace X
open Go.RowKit
theorem infoThr:(Tryzx.prog.info? 66).map (fun i=>(i.zero,i.size,i.bytes))=some (some (.agg #[.int .i64 0,.int .i64 0,.int .i64 0,.int .i64 0]),4,32):=by kernel_rfl
set_option maxRecDepth 100000 in
set_option maxHeartbeats 1600000 in
theorem l11Has_any (A:Option Addr) (n c:Nat) (xs:List Int) (H V M D:Int) (w:World) (h:RecsAt w w.heap.size 4 A n xs) (hn:n≤1048576) :
  Calls Tryzx.prog 96 #[.slice A n c,.agg #[.int .i64 H,.int .i64 V,.int .i64 M,.int .i64 D]] w fun e w'=>e = .returned (.bool (hasTo xs H V M D n))∧Below w.heap.size w w':=by
 have HL:=Lib.hid h;have BX:=Lib.hid (Box4.new w H V M D 66);have B0:=Lib.hid ((Below.refl w.heap.size w).alloc (Nat.le_refl _) (.cells #[.int .i64 H,.int .i64 V,.int .i64 M,.int .i64 D] 66));clear h;go_enter Tryzx.func96,Tryz.ntmps96;go_wp2;go_loopw [5] (fun i wr=>∃ k:Nat,k≤n∧i = .int .i64 k∧Hid (hasTo xs H V M D k=false)∧Hid (Box4 wr w.heap.size H V M D)∧Hid (Below w.heap.size w wr)) (fun i _=>n - (intOf i).toNat)
 case atStart=>exact ⟨0,Nat.zero_le _,rfl,Lib.hid rfl,BX,B0⟩
 case round =>
  clear BX B0;obtain ⟨k,hk,rfl,HP,HX,HB⟩:=hrel;by_cases hlt:k<n
  ·obtain ⟨b,off,rfl,hbB,hc⟩:=HL.out.2 (by omega)
   obtain ⟨x0,x1,x2,x3⟩:=rwCells (fun i hi=>(HB.out.cell (by exact hbB)).trans (hc i hi)) hlt;have HT:=Lib.hid (fun e=>hasTo_mem (xs:=xs) (H:=H) (V:=V) (M:=M) (D:=D) e hlt);have HS:=Lib.hid (fun e=>hasTo_step HP.out (k:=k) e);have HE:Hid (hasAt xs H V M D k=(decide (nth xs (k*4)=H) && (decide (nth xs (k*4+1)=V) && (decide (nth xs (k*4+2)=M) && decide (nth xs (k*4+3)=D))))):=rfl;clear hc;generalize nth xs (k*4)=y0 at *
   generalize nth xs (k*4+1)=y1 at *
   generalize nth xs (k*4+2)=y2 at *
   generalize nth xs (k*4+3)=y3 at *
   obtain ⟨c0,c1,c2,c3⟩:=HX.out.1;have ki:(k:Int)<(n:Int):=by omega
   by_cases e0:y0=H
   rotate_left
   ·have HS1:=Lib.hid (HS.out (HE.out.trans (by simp [e0])))
    go_wp2;go_region
    go_wp2;go_roundw
    case rel=>exact ⟨k+1,by omega,by go_num,HS1,HX.out.after (below_dr (Below.refl _ _)) |> Lib.hid,Lib.hid (below_dr HB.out)⟩
    case measure=>simp [intOf]; omega
   by_cases e1:y1=V
   rotate_left
   ·have HS1:=Lib.hid (HS.out (HE.out.trans (by simp [e0,e1])))
    go_wp2;go_region
    go_wp2;go_roundw
    case rel=>exact ⟨k+1,by omega,by go_num,HS1,HX.out.after (below_dr (Below.refl _ _)) |> Lib.hid,Lib.hid (below_dr HB.out)⟩
    case measure=>simp [intOf]; omega
   by_cases e2:y2=M
   rotate_left
   ·have HS1:=Lib.hid (HS.out (HE.out.trans (by simp [e0,e1,e2])))
    go_wp2;go_region
    go_wp2;go_roundw
    case rel=>exact ⟨k+1,by omega,by go_num,HS1,HX.out.after (below_dr (Below.refl _ _)) |> Lib.hid,Lib.hid (below_dr HB.out)⟩
    case measure=>simp [intOf]; omega
   by_cases e3:y3=D
   rotate_left
   ·have HS1:=Lib.hid (HS.out (HE.out.trans (by simp [e0,e1,e2,e3])))
    go_wp2;go_region
    go_wp2;go_roundw
    case rel=>exact ⟨k+1,by omega,by go_num,HS1,HX.out.after (below_dr (Below.refl _ _)) |> Lib.hid,Lib.hid (below_dr HB.out)⟩
    case measure=>simp [intOf]; omega
   have HT1:=Lib.hid (HT.out (HE.out.trans (by simp [e0,e1,e2,e3])));go_wp2;go_region
   go_wp2;go_ret;exact ⟨ret_bool HT1.out.symm,below_dr HB.out⟩
  ·obtain rfl:k=n:=by omega
   go_wp2;go_ret;exact ⟨ret_bool HP.out.symm,HB.out⟩
theorem keep12 {w1 w2:World} {b off i k m:Nat} {pa pb pc pd qa qb qc qd ra rb rc rd:Int} (h:(w1.cell? ⟨b,off+i*4,none⟩=some (.int .i64 pa)∧w1.cell? ⟨b,off+i*4+1,none⟩=some (.int .i64 pb)∧w1.cell? ⟨b,off+i*4+2,none⟩=some (.int .i64 pc)∧w1.cell? ⟨b,off+i*4+3,none⟩=some (.int .i64 pd))∧(w1.cell? ⟨b,off+k*4,none⟩=some (.int .i64 qa)∧w1.cell? ⟨b,off+k*4+1,none⟩=some (.int .i64 qb)∧w1.cell? ⟨b,off+k*4+2,none⟩=some (.int .i64 qc)∧w1.cell? ⟨b,off+k*4+3,none⟩=some (.int .i64 qd))∧(w1.cell? ⟨b,off+m*4,none⟩=some (.int .i64 ra)∧w1.cell? ⟨b,off+m*4+1,none⟩=some (.int .i64 rb)∧w1.cell? ⟨b,off+m*4+2,none⟩=some (.int .i64 rc)∧w1.cell? ⟨b,off+m*4+3,none⟩=some (.int .i64 rd))) (e:∀ x,w2.cell? ⟨b,x,none⟩=w1.cell? ⟨b,x,none⟩) :
  (w2.cell? ⟨b,off+i*4,none⟩=some (.int .i64 pa)∧w2.cell? ⟨b,off+i*4+1,none⟩=some (.int .i64 pb)∧w2.cell? ⟨b,off+i*4+2,none⟩=some (.int .i64 pc)∧w2.cell? ⟨b,off+i*4+3,none⟩=some (.int .i64 pd))∧(w2.cell? ⟨b,off+k*4,none⟩=some (.int .i64 qa)∧w2.cell? ⟨b,off+k*4+1,none⟩=some (.int .i64 qb)∧w2.cell? ⟨b,off+k*4+2,none⟩=some (.int .i64 qc)∧w2.cell? ⟨b,off+k*4+3,none⟩=some (.int .i64 qd))∧(w2.cell? ⟨b,off+m*4,none⟩=some (.int .i64 ra)∧w2.cell? ⟨b,off+m*4+1,none⟩=some (.int .i64 rb)∧w2.cell? ⟨b,off+m*4+2,none⟩=some (.int .i64 rc)∧w2.cell? ⟨b,off+m*4+3,none⟩=some (.int .i64 rd)):=by
 simp only [e];exact h
set_option maxRecDepth 100000 in
set_option maxHeartbeats 6400000 in
theorem sCorners_any (A:Option Addr) (n c:Nat) (rs:List Int) (w:World) (h:RecsAt w w.heap.size 4 A n rs) (hn:n≤1048576) :
  Calls Tryzx.prog 68 #[.slice A n c] w fun e w'=>∃ v,e = .returned v∧OwnR w' w.heap.size 66 4 v (cornN rs n) (cornL rs n)∧Below w.heap.size w w':=by
 have HL:=Lib.hid h;have HO0:=Lib.hid (OwnR.new w 66 4);have HB0:=Lib.hid ((Below.refl w.heap.size w).alloc (Nat.le_refl _) (.cells #[] 66));have HCF:Hid (cornB rs n=false→cornN rs n=0∧cornL rs n = []):=Lib.hid fun e=>by rw [cornN,cornL_f e]; exact ⟨rfl,rfl⟩
 clear h;go_enter Tryzx.func68,Tryz.ntmps68;go_wp2;go_loopw [4] (fun v4 wr=>∃ k:Nat,k≤n∧v4 = .int .i64 k∧Hid (allTo (rowAt rs) k)∧Hid (OwnR wr w.heap.size 66 4 (.slice (some ⟨w.heap.size,0,none⟩) 0 0) 0 [])∧Hid (Below w.heap.size w wr)) (fun v4 _=>n - (intOf v4).toNat)
 case atStart=>exact ⟨0,Nat.zero_le _,rfl,Lib.hid (allTo_0 _),HO0,HB0⟩
 case round =>
  clear HO0 HB0;obtain ⟨k,hk,rfl,HP,HO,HB⟩:=hrel;by_cases hlt:k<n
  ·obtain ⟨b,off,rfl,hbB,hc⟩:=HL.out.2 (by omega)
   obtain ⟨x0,x1,x2,x3⟩:=rwCells (fun i hi=>(HB.out.cell (by exact hbB)).trans (hc i hi)) hlt;have HR:=Lib.hid (show rowAt rs k=rowB (nth rs (k*4)) (nth rs (k*4+1)) (nth rs (k*4+2)) (nth rs (k*4+3)) from rfl);have ki:(k:Int)<(n:Int):=by omega
   clear hc;go_wp2_with fail
   refine (sRowOk_any _ _ _ _ _).mono ?_;rw [← HR.out];rintro e w1 ⟨rfl,hb1⟩;have HO1:=Lib.hid (HO.out.below hb1);have HB1:=Lib.hid (below_then HB.out hb1);clear hb1 x0 x1 x2 x3 HO HB;cases hr:rowAt rs k
   ·obtain ⟨e1,e2⟩:=HCF.out (cornB_1 hlt hr)
    go_wp2;go_ret;exact ⟨_,rfl,by rw [e1,e2]; exact HO1.out,HB1.out⟩
   ·have HS:=Lib.hid (allTo_step HP.out hr)
    go_wp2;go_roundw
    case rel=>exact ⟨k+1,by omega,by go_num,HS,HO1,HB1⟩
    case measure=>simp [intOf]; omega
  ·obtain rfl:n=k:=by omega
   have kn:¬ (n:Int)<(n:Int):=by omega
   go_wp2_with fail
   refine (l01In_any _ _ _ _).mono ?_;cases hin:inB (n:Int) 3 20
   ·obtain ⟨e1,e2⟩:=HCF.out (cornB_2 hin)
    rintro e w1 ⟨rfl,rfl⟩;go_wp2;go_ret;exact ⟨_,rfl,by rw [e1,e2]; exact HO.out,HB.out⟩
   have HCT:=Lib.hid (cornB_t HP.out hin);have h20:n≤20:=by rw [inB_iff] at hin; omega
   rintro e w1 ⟨rfl,rfl⟩;have HP0:=HP.out;clear HP hin hk hlt HCF;go_wp2;go_loopw [3,5] (fun v3 v5 wr=>∃ i q:Nat,i≤n∧v5 = .int .i64 i∧Hid (CorAcc (corI rs n i) q (400*i))∧Hid (OwnR wr w.heap.size 66 4 v3 q (corI rs n i))∧Hid (Below w.heap.size w wr)) (fun _ v5 _=>n - (intOf v5).toNat)
   case atStart=>exact ⟨0,0,Nat.zero_le _,rfl,Lib.hid ⟨rfl,Nat.le_refl _⟩,HO,HB⟩
   case round =>
    clear HO HB;obtain ⟨i,q,hi,rfl,HA,HO,HB⟩:=hrel;by_cases hli:i<n
    ·have HI1:=Lib.hid (show corI rs n (i+1)=corK rs n i (corI rs n i) (n - (i+1)) from corI_s i)
     obtain ⟨a2,ha2⟩:∃ a,corI rs n i=a:=⟨_,rfl⟩;rw [ha2] at HA HO HI1;clear ha2;have ii:(i:Int)<(n:Int):=by omega
     have ei:IntKind.i64.wrap ((i:Int)+1)=(i:Int)+1:=IntWalk.i64_in _ (by omega);go_wp2;go_loopw [3,6] (fun v3 v6 wr=>∃ t q:Nat,i+1+t≤n∧v6 = .int .i64 ((i:Int)+1+t)∧Hid (CorAcc (corK rs n i a2 t) q (400*i+20*t))∧Hid (OwnR wr w.heap.size 66 4 v3 q (corK rs n i a2 t))∧Hid (Below w.heap.size w wr)) (fun _ v6 _=>n - (intOf v6).toNat)
     case atStart=>exact ⟨0,q,by omega,by simp,HA,HO,HB⟩
     case round =>
      clear HA HO HB;obtain ⟨t,q,hk,rfl,HA,HO,HB⟩:=hrel;by_cases hlk:i+1+t<n
      ·have HK1:=Lib.hid (show corK rs n i a2 (t+1)=corM rs n i (i+1+t) (corK rs n i a2 t) (n - (i+1+t+1)) from corK_s i a2 t)
       obtain ⟨a3,ha3⟩:∃ a,corK rs n i a2 t=a:=⟨_,rfl⟩;rw [ha3] at HA HO HK1;obtain ⟨k,ek⟩:∃ k,i+1+t=k:=⟨_,rfl⟩;have ek':(i:Int)+1+(t:Int)=(k:Int):=by omega
       rw [ek] at HK1 hlk;rw [ek'];have kk:(k:Int)<(n:Int):=by omega
       have ekk:IntKind.i64.wrap ((k:Int)+1)=(k:Int)+1:=IntWalk.i64_in _ (by omega);clear ha3;go_wp2;go_loopw [3,7] (fun v3 v7 wr=>∃ j q:Nat,k+1+j≤n∧v7 = .int .i64 ((k:Int)+1+j)∧Hid (CorAcc (corM rs n i k a3 j) q (400*i+20*t+j))∧Hid (OwnR wr w.heap.size 66 4 v3 q (corM rs n i k a3 j))∧Hid (Below w.heap.size w wr)) (fun _ v7 _=>n - (intOf v7).toNat)
       case atStart=>exact ⟨0,q,by omega,by simp,HA,HO,HB⟩
       case round =>
        clear HA HO HB;obtain ⟨j,q,hm,rfl,HA,HO,HB⟩:=hrel;by_cases hlm:k+1+j<n
        ·have HM1:=Lib.hid (show corM rs n i k a3 (j+1)=crStep rs n i k (k+1+j) (corM rs n i k a3 j) from corM_s i k a3 j)
         obtain ⟨a4,ha4⟩:∃ a,corM rs n i k a3 j=a:=⟨_,rfl⟩;rw [ha4] at HA HO HM1;obtain ⟨m,em⟩:∃ m,k+1+j=m:=⟨_,rfl⟩;have em':(k:Int)+1+(j:Int)=(m:Int):=by omega
         rw [em] at HM1 hlm;rw [em'];have mm:(m:Int)<(n:Int):=by omega
         have emm:IntKind.i64.wrap ((m:Int)+1)=(m:Int)+1:=IntWalk.i64_in _ (by omega);clear ha4;obtain ⟨b,off,rfl,hbB,hc⟩:=HL.out.2 (by omega);have hc':∀ x,x<n*4→wr.cell? ⟨b,off+x,none⟩=some (.int .i64 (nth rs x)):=fun x hx=>(HB.out.cell (by exact hbB)).trans (hc x hx)
         obtain ⟨x0,x1,x2,x3⟩:=rwCells hc' hli;obtain ⟨y0,y1,y2,y3⟩:=rwCells hc' hlk;obtain ⟨z0,z1,z2,z3⟩:=rwCells hc' hlm;clear hc hc';have hbk:b<wr.heap.size:=Nat.lt_of_lt_of_le hbB HB.out.size;obtain ⟨H,V,M,D,B,hcf,hve⟩:=cr_names rs n i k m a4;generalize nth rs (i*4)=pa at *
         generalize nth rs (i*4+1)=pb at *
         generalize nth rs (i*4+2)=pc at *
         generalize nth rs (i*4+3)=pd at *
         generalize nth rs (k*4)=qa at *
         generalize nth rs (k*4+1)=qb at *
         generalize nth rs (k*4+2)=qc at *
         generalize nth rs (k*4+3)=qd at *
         generalize nth rs (m*4)=ra at *
         generalize nth rs (m*4+1)=rb at *
         generalize nth rs (m*4+2)=rc at *
         generalize nth rs (m*4+3)=rd at *
         have HVE:=Lib.hid hve;have HCF:=Lib.hid hcf;clear hve hcf;obtain ⟨wk,rfl⟩:∃ wk:World,wk=wr:=⟨_,rfl⟩;go_upto_region 18 with fail
         go_cut [8,9] (fun s8 s9 wx=>∃ g:Nat,s8 = .pointer (some ⟨g,0,none⟩)∧s9 = .bool B∧wk.heap.size≤g∧Hid (Box4 wx g H V M D)∧Hid (Below wk.heap.size wk wx))
         case first =>
          refine wp_region_held_drew (S:=fun w'=>(w'.cell? ⟨b,off+i*4,none⟩=some (.int .i64 pa)∧w'.cell? ⟨b,off+i*4+1,none⟩=some (.int .i64 pb)∧w'.cell? ⟨b,off+i*4+2,none⟩=some (.int .i64 pc)∧w'.cell? ⟨b,off+i*4+3,none⟩=some (.int .i64 pd))∧(w'.cell? ⟨b,off+k*4,none⟩=some (.int .i64 qa)∧w'.cell? ⟨b,off+k*4+1,none⟩=some (.int .i64 qb)∧w'.cell? ⟨b,off+k*4+2,none⟩=some (.int .i64 qc)∧w'.cell? ⟨b,off+k*4+3,none⟩=some (.int .i64 qd))∧(w'.cell? ⟨b,off+m*4,none⟩=some (.int .i64 ra)∧w'.cell? ⟨b,off+m*4+1,none⟩=some (.int .i64 rb)∧w'.cell? ⟨b,off+m*4+2,none⟩=some (.int .i64 rc)∧w'.cell? ⟨b,off+m*4+3,none⟩=some (.int .i64 rd))) (by kernel_rfl) (by exact ⟨⟨x0,x1,x2,x3⟩,⟨y0,y1,y2,y3⟩,⟨z0,z1,z2,z3⟩⟩) (fun hHeld => ?_);refine take_heldS (i:=0) (d:=54) rfl rfl ?_;try simp only [Act.put,ly3]
          refine take_heldS (i:=1) (d:=55) rfl rfl ?_;try simp only [Act.put,ly3]
          refine take_heldS (i:=2) (d:=56) rfl rfl ?_;try simp only [Act.put,ly3]
          refine take_heldS (i:=3) (d:=57) rfl rfl ?_;try simp only [Act.put,ly3]
          refine take_heldS (i:=4) (d:=58) rfl rfl ?_;try simp only [Act.put,ly3]
          refine take_heldS (i:=5) (d:=59) rfl rfl ?_;try simp only [Act.put,ly3]
          refine take_heldS (i:=6) (d:=60) rfl rfl ?_;try simp only [Act.put,ly3]
          refine take_heldS (i:=7) (d:=61) rfl rfl ?_;try simp only [Act.put,ly3]
          refine take_heldS (i:=8) (d:=62) rfl rfl ?_;try simp only [Act.put,ly3]
          refine take_heldS (i:=9) (d:=63) rfl rfl ?_;try simp only [Act.put,ly3]
          refine take_heldS (i:=10) (d:=64) rfl rfl ?_;try simp only [Act.put,ly3]
          refine take_heldS (i:=11) (d:=65) rfl rfl ?_;try simp only [Act.put,ly3]
          refine wpAnyH_ready (rs := [12,16]) (by kernel_rfl) (by simp) ?_;refine AllReadyH.cons rfl (fun K hK => ?_) (AllReadyH.cons rfl (fun K hK => ?_) AllReadyH.nil)
          ·go_simp
           (with_reducible refine (sSolve_any _ _ _ _ _ _ _ _ _ _ _ _ _).mono ?_)
           rintro e w1 ⟨rfl,hb1⟩;rw [HVE.out,thrV];refine hK.out _ _ (by exact keep12 (by assumption) (fun x=>hb1.cell (p:=⟨b,x,none⟩) (by first | exact hbk | (simp; omega)))) (fun hHeld => ?_)
           clear hK K;try simp only [Act.put,ly3]
           refine take_heldS (i:=13) (d:=53) rfl rfl ?_;try simp only [Act.put,ly3]
           refine take_heldS (i:=14) (d:=67) rfl rfl ?_;try simp only [Act.put,ly3]
           refine take_heldS (i:=15) (d:=68) rfl rfl ?_;try simp only [Act.put,ly3]
           refine wpAnyH_ready (rs := [16]) (by kernel_rfl) (by simp) ?_;refine AllReadyH.cons rfl (fun K hK => ?_) AllReadyH.nil;go_simp
           refine hK.out _ _ (by exact keep12 (by assumption) (fun x=>cell_alloc_lt (by have:=hb1.size; simp at this; omega))) (fun hHeld => ?_)
           clear hK K;try simp only [Act.put,ly3]
           refine wpAnyH_ready (rs := [17]) (by kernel_rfl) (by simp) ?_;refine AllReadyH.cons rfl (fun K hK => ?_) AllReadyH.nil;go_simp
           refine hK.out _ _ (by exact keep12 (by assumption) (fun x=>(cell_alloc_lt (by have:=hb1.size; simp at this; omega)).trans (cell_alloc_lt (by have:=hb1.size; simp at this; omega)).symm)) (fun hHeld => ?_)
           clear hK K;try simp only [Act.put,ly3]
           refine take_heldS (i:=18) (d:=9) rfl rfl ?_;try simp only [Act.put,ly3]
           refine wpAnyH_done (by kernel_rfl) ?_ _;go_wp2_with fail
           go_meet
           have hz1:=hb1.size;simp at hz1;exact ⟨w1.heap.size,rfl,rfl,by omega,Lib.hid (Box4.new _ _ _ _ _ _),Lib.hid (((below_drewN (Below.refl wk.heap.size wk) 1).trans (hb1.mono (by simp))).alloc (by omega) _)⟩
          ·go_simp
           refine hK.out _ _ (by exact keep12 (by assumption) (fun x=>cell_alloc_lt (by exact hbk))) (fun hHeld => ?_);clear hK K;try simp only [Act.put,ly3]
           refine wpAnyH_ready (rs := [12]) (by kernel_rfl) (by simp) ?_;refine AllReadyH.cons rfl (fun K hK => ?_) AllReadyH.nil;go_simp
           (with_reducible refine (sSolve_any _ _ _ _ _ _ _ _ _ _ _ _ _).mono ?_)
           rintro e w1 ⟨rfl,hb1⟩;rw [HVE.out,thrV];have HVW:Hid (RowF w1 wk.heap.size 66 4 (fun _ => .int .i64 0)):=Lib.hid ((show RowF _ wk.heap.size 66 4 (fun _ => .int .i64 0) from RowF.of_row (World.rowIs_alloc wk.drew #[.int .i64 0,.int .i64 0,.int .i64 0,.int .i64 0] 66 (fun _ => .int .i64 0) (fun i hi=>by simp at hi; match i,hi with | 0,_=>rfl | 1,_=>rfl | 2,_=>rfl | 3,_=>rfl))).after hb1)
           refine hK.out _ _ (by exact keep12 (by assumption) (fun x=>hb1.cell (p:=⟨b,x,none⟩) (by simp; omega))) (fun hHeld => ?_)
           clear hK K;try simp only [Act.put,ly3]
           refine take_heldS (i:=13) (d:=53) rfl rfl ?_;try simp only [Act.put,ly3]
           refine take_heldS (i:=14) (d:=67) rfl rfl ?_;try simp only [Act.put,ly3]
           refine take_heldS (i:=15) (d:=68) rfl rfl ?_;try simp only [Act.put,ly3]
           have u0:w1.cell? ⟨wk.heap.size,0,none⟩=some (.int .i64 0):=HVW.out.cell (i:=0) (by omega);have u1:w1.cell? ⟨wk.heap.size,1,none⟩=some (.int .i64 0):=HVW.out.cell (i:=1) (by omega);have u2:w1.cell? ⟨wk.heap.size,2,none⟩=some (.int .i64 0):=HVW.out.cell (i:=2) (by omega);have u3:w1.cell? ⟨wk.heap.size,3,none⟩=some (.int .i64 0):=HVW.out.cell (i:=3) (by omega);have f0:=HVW.out.frozen 0;have f1:=HVW.out.frozen 1;have f2:=HVW.out.frozen 2;have f3:=HVW.out.frozen 3;have hs:=RowF.lt HVW.out;have hz1:=hb1.size;simp at hz1;refine wpAnyH_ready (rs := [17]) (by kernel_rfl) (by simp) ?_;refine AllReadyH.cons rfl (fun K hK => ?_) AllReadyH.nil;go_simp
           refine hK.out _ _ (by exact keep12 (by assumption) (fun x=>(World.cell?_setCell_far _ _ _ _ (by first | (simp; done) | (simp; omega) | omega)).trans ((World.cell?_setCell_far _ _ _ _ (by first | (simp; done) | (simp; omega) | omega)).trans ((World.cell?_setCell_far _ _ _ _ (by first | (simp; done) | (simp; omega) | omega)).trans ((World.cell?_setCell_far _ _ _ _ (by first | (simp; done) | (simp; omega) | omega)).trans (rfl)))))) (fun hHeld => ?_)
           clear hK K;try simp only [Act.put,ly3]
           refine take_heldS (i:=18) (d:=9) rfl rfl ?_;try simp only [Act.put,ly3]
           refine wpAnyH_done (by kernel_rfl) ?_ _;go_wp2_with fail
           go_meet
           have HV4:=Lib.hid (((HVW.out.set 0 (.int .i64 H)).set 1 (.int .i64 V)).set 2 (.int .i64 M) |>.set 3 (.int .i64 D));exact ⟨wk.heap.size,rfl,rfl,Nat.le_refl _,Lib.hid ⟨⟨HV4.out.cell (i:=0) (by omega),HV4.out.cell (i:=1) (by omega),HV4.out.cell (i:=2) (by omega),HV4.out.cell (i:=3) (by omega)⟩,by simpa using hs⟩,Lib.hid (below_set4 (((below_drewN (Below.refl wk.heap.size wk) 1).alloc (Nat.le_refl _) _).trans (hb1.mono (by simp))) (Nat.le_refl _) _ _ _ _)⟩
         case rest =>
         obtain ⟨g,rfl,rfl,hg,HBX,HBW⟩:=hcut;have HOC:=Lib.hid (HO.out.below HBW.out);have HBC:=Lib.hid (below_then HB.out HBW.out);have hql:a4.length / 4=q:=by have:=HA.out.len; omega
         clear x0 x1 x2 x3 y0 y1 y2 y3 z0 z1 z2 z3 HVE HO HB HBW hbk;cases B
         ·have HEQ:=Lib.hid (HCF.out.no rfl)
          have HAX:Hid (CorAcc (corM rs n i k a3 (j+1)) q (400*i+20*t+(j+1))):=by rw [HM1.out,HEQ.out]; exact Lib.hid ⟨HA.out.len,by have:=HA.out.few; omega⟩
          have HOX:=HOC;rw [← HM1.out.trans HEQ.out] at HOX;go_wp2;go_roundw
          case rel=>exact ⟨j+1,q,by omega,by go_num,HAX,HOX,HBC⟩
          case measure=>simp [intOf]; omega
         have HTH:=Lib.hid (HCF.out.thr rfl);obtain ⟨A3,c3,rfl,hc3⟩:=HOC.out.slice;have HRC:=Lib.hid HOC.out.recs;obtain ⟨t0,t1,t2,t3⟩:=HBX.out.1;have hq8:q≤8000:=by have:=HA.out.few; omega
         go_wp2_with fail
         refine (l11Has_any _ _ _ _ _ _ _ _ _ HRC.out (by omega)).mono ?_;rintro e w1 ⟨rfl,hb1⟩;have HO1:=Lib.hid (HOC.out.below hb1);have HB1:=Lib.hid (below_then HBC.out hb1);have HX1:=Lib.hid (HBX.out.after hb1);clear t0 t1 t2 t3 hb1 HOC HBC HBX HRC;cases hh:hasTo a4 H V M D q;rotate_left
         ·have HEQ:=Lib.hid (HCF.out.has (by rw [hql]; exact hh))
          have HAX:Hid (CorAcc (corM rs n i k a3 (j+1)) q (400*i+20*t+(j+1))):=by rw [HM1.out,HEQ.out]; exact Lib.hid ⟨HA.out.len,by have:=HA.out.few; omega⟩
          have HOX:=HO1;rw [← HM1.out.trans HEQ.out] at HOX;go_wp2;go_roundw
          case rel=>exact ⟨j+1,q,by omega,by go_num,HAX,HOX,HB1⟩
          case measure=>simp [intOf]; omega
         have HH:=Lib.hid hh;clear hh;go_wp2;go_loopw [10,11] (fun v10 v11 wr=>∃ (x:Nat) (bb:Bool),x≤n∧v11 = .int .i64 x∧v10 = .bool bb∧Hid (bb=true→allTo (metAt rs H V M D) x)∧Hid (bb=false→allB (metAt rs H V M D) n=false)∧Hid (OwnR wr w.heap.size 66 4 (.slice A3 q c3) q a4)∧Hid (Box4 wr g H V M D)∧Hid (Below w.heap.size w wr)) (fun _ v11 _=>n - (intOf v11).toNat)
         case atStart=>exact ⟨0,true,Nat.zero_le _,rfl,rfl,Lib.hid fun _=>allTo_0 _,Lib.hid fun e=>absurd e (by simp),HO1,HX1,HB1⟩
         case round =>
          clear HO1 HX1 HB1;obtain ⟨x,bb,hx,rfl,rfl,HPT,HPF,HO,HX,HB⟩:=hrel;cases bb
          ·have HEQ:=Lib.hid (HCF.out.all0 (HPF.out rfl))
           by_cases hlx:x<n
           ·have xx:(x:Int)<(n:Int):=by omega
            have HAX:Hid (CorAcc (corM rs n i k a3 (j+1)) q (400*i+20*t+(j+1))):=by rw [HM1.out,HEQ.out]; exact Lib.hid ⟨HA.out.len,by have:=HA.out.few; omega⟩
            have HOX:=HO;rw [← HM1.out.trans HEQ.out] at HOX;go_wp2;go_roundw
            case rel=>exact ⟨j+1,q,by omega,by go_num,HAX,HOX,HB⟩
            case measure=>simp [intOf]; omega
           ·have xx:¬ (x:Int)<(n:Int):=by omega
            have HAX:Hid (CorAcc (corM rs n i k a3 (j+1)) q (400*i+20*t+(j+1))):=by rw [HM1.out,HEQ.out]; exact Lib.hid ⟨HA.out.len,by have:=HA.out.few; omega⟩
            have HOX:=HO;rw [← HM1.out.trans HEQ.out] at HOX;go_wp2;go_roundw
            case rel=>exact ⟨j+1,q,by omega,by go_num,HAX,HOX,HB⟩
            case measure=>simp [intOf]; omega
          by_cases hlx:x<n
          ·have xx:(x:Int)<(n:Int):=by omega
           obtain ⟨b',off',eA,hbB',hc⟩:=HL.out.2 (by omega);simp only [Option.some.injEq,Addr.mk.injEq,and_true] at eA;obtain ⟨rfl,rfl⟩:=eA;have hc':∀ y,y<n*4→wr.cell? ⟨b,off+y,none⟩=some (.int .i64 (nth rs y)):=fun y hy=>(HB.out.cell (by exact hbB')).trans (hc y hy)
           obtain ⟨x0,x1,x2,x3⟩:=rwCells hc' hlx;have hro:=(HP0 x hlx);have hside:=sideBd (a:=nth rs (x*4)) (b:=nth rs (x*4+1)) (c:=nth rs (x*4+2)) (d:=nth rs (x*4+3)) HTH.out hro;have HSI:=Lib.hid hside;have HME:Hid (metAt rs H V M D x=metB (nth rs (x*4)) (nth rs (x*4+1)) (nth rs (x*4+2)) (nth rs (x*4+3)) H V M D):=rfl;have HTS:=Lib.hid (fun e=>allTo_step (HPT.out rfl) (k:=x) e);have HFS:=Lib.hid (fun e=>allB_f (p:=metAt rs H V M D) hlx e);clear hc hc' hro hside;generalize nth rs (x*4)=p0 at *
           generalize nth rs (x*4+1)=p1 at *
           generalize nth rs (x*4+2)=p2 at *
           generalize nth rs (x*4+3)=p3 at *
           obtain ⟨t0,t1,t2,t3⟩:=HX.out.1;have hbk:b<wr.heap.size:=Nat.lt_of_lt_of_le hbB' HB.out.size;have hgk:=HX.out.2;go_wp2;refine wp_region_held_drew (S:=fun w'=>(w'.cell? ⟨b,off+x*4,none⟩=some (.int .i64 p0)∧w'.cell? ⟨b,off+x*4+1,none⟩=some (.int .i64 p1)∧w'.cell? ⟨b,off+x*4+2,none⟩=some (.int .i64 p2)∧w'.cell? ⟨b,off+x*4+3,none⟩=some (.int .i64 p3))∧(w'.cell? ⟨g,0,none⟩=some (.int .i64 H)∧w'.cell? ⟨g,1,none⟩=some (.int .i64 V)∧w'.cell? ⟨g,2,none⟩=some (.int .i64 M)∧w'.cell? ⟨g,3,none⟩=some (.int .i64 D))) (by kernel_rfl) (by exact ⟨⟨x0,x1,x2,x3⟩,⟨t0,t1,t2,t3⟩⟩) (fun hHeld => ?_);refine take_heldS (i:=0) (d:=85) rfl rfl ?_;try simp only [Act.put,ly3]
           refine take_heldS (i:=1) (d:=86) rfl rfl ?_;try simp only [Act.put,ly3]
           refine take_heldS (i:=2) (d:=87) rfl rfl ?_;try simp only [Act.put,ly3]
           refine take_heldS (i:=3) (d:=88) rfl rfl ?_;try simp only [Act.put,ly3]
           refine take_heldS (i:=4) (d:=89) rfl rfl ?_;try simp only [Act.put,ly3]
           refine wpAnyH_ready (rs := [5]) (by kernel_rfl) (by simp) ?_;refine AllReadyH.cons rfl (fun K hK => ?_) AllReadyH.nil;go_simp
           (with_reducible refine (l10Holds_any _ _ _ _ _ _ _ _ _ HSI.out).mono ?_); rintro e w5 ⟨rfl,hb5⟩; have HBn:=Lib.hid (below_then (below_dr (Below.refl wr.heap.size wr)) hb5);refine hK.out _ _ (by exact ⟨⟨(HBn.out.cell (by exact hbk)).trans x0,(HBn.out.cell (by exact hbk)).trans x1,(HBn.out.cell (by exact hbk)).trans x2,(HBn.out.cell (by exact hbk)).trans x3⟩,⟨(HBn.out.cell (by exact hgk)).trans t0,(HBn.out.cell (by exact hgk)).trans t1,(HBn.out.cell (by exact hgk)).trans t2,(HBn.out.cell (by exact hgk)).trans t3⟩⟩) (fun hHeld => ?_);clear hK K;try simp only [Act.put,ly3]
           refine take_heldS (i:=6) (d:=10) rfl rfl ?_;try simp only [Act.put,ly3]
           refine wpAnyH_done (by kernel_rfl) ?_ _;have HO5:=Lib.hid (HO.out.below HBn.out);have HX5:=Lib.hid (HX.out.after HBn.out);have HB5:=Lib.hid (below_then HB.out HBn.out);clear x0 x1 x2 x3 t0 t1 t2 t3 hb5 hHeld HO HX HB HBn hbk hgk;rw [← HME.out];have HPT5:Hid (metAt rs H V M D x=true→allTo (metAt rs H V M D) (x+1)):=HTS;have HPF5:Hid (metAt rs H V M D x=false→allB (metAt rs H V M D) n=false):=HFS;clear HTS HFS HME;generalize metAt rs H V M D x=bb at *
           go_wp2;go_roundw
           case rel=>exact ⟨x+1,bb,by omega,by go_num,rfl,HPT5,HPF5,HO5,HX5,HB5⟩
           case measure=>simp [intOf]; omega
          ·obtain rfl:n=x:=by omega
           have xx:¬ (n:Int)<(n:Int):=by omega
           have HEQ:=Lib.hid (HCF.out.yes rfl (by rw [hql]; exact HH.out) (allB_t (HPT.out rfl)));obtain ⟨t0,t1,t2,t3⟩:=HX.out.1;have hcn:∀ y,y<1*4→(wr.alloc (.cells #[.int .i64 H,.int .i64 V,.int .i64 M,.int .i64 D] 66)).cell? ⟨wr.heap.size,y,none⟩=some (.int .i64 (nth [H,V,M,D] y)):=fun y hy =>
            World.rowIs.cell (World.rowIs_alloc wr #[.int .i64 H,.int .i64 V,.int .i64 M,.int .i64 D] 66 (ints [H,V,M,D]) (fun i hi=>by simp at hi; match i,hi with | 0,_=>rfl | 1,_=>rfl | 2,_=>rfl | 3,_=>rfl)) (by simpa using hy)
           have HCN:=Lib.hid hcn;have HBA:=Lib.hid (HB.out.alloc HB.out.size (.cells #[.int .i64 H,.int .i64 V,.int .i64 M,.int .i64 D] 66));have hW0:w.heap.size≤(wr.alloc (.cells #[.int .i64 H,.int .i64 V,.int .i64 M,.int .i64 D] 66)).heap.size:=HBA.out.size;have HXX:Hid (a4 ++ [H,V,M,D]=corM rs n i k a3 (j+1)):=Lib.hid (by rw [HM1.out,HEQ.out]);have HAX:Hid (CorAcc (corM rs n i k a3 (j+1)) (q+1) (400*i+20*t+(j+1))):=by rw [HM1.out,HEQ.out]; exact Lib.hid ⟨by simp [HA.out.len]; omega,by have:=HA.out.few; omega⟩
           clear hcn;go_wp2_with (at_builtin; refine wpList_appR _ rfl (.tmp 92) (.tmp 94) 71 rfl w.heap.size 66 4 32 #[.int .i64 0,.int .i64 0,.int .i64 0,.int .i64 0] Tryzx.underlying71 infoThr rfl (by decide) (by decide) _ q a4 rfl (by exact HO.out.alloc _) wr.heap.size 1 1 [H,V,M,D] rfl rfl (by exact HCN.out) (by omega) w.heap.size w (by exact HBA.out) (Nat.le_refl _) hW0 _ HXX.out ?_ (by omega); intro g' cap' w7 hown7 hb7; have HO7:=Lib.hid hown7; have HB7:=Lib.hid hb7);go_roundw
           case rel=>exact ⟨j+1,q+1,by omega,by go_num,HAX,HO7,HB7⟩
           case measure=>simp [intOf]; omega
        ·obtain rfl:n - (k+1)=j:=by omega
         have e7:(k:Int)+1+((n - (k+1):Nat):Int)=(n:Int):=by omega
         have nn:¬ (n:Int)<(n:Int):=by omega
         have HA1:Hid (CorAcc (corK rs n i a2 (t+1)) q (400*i+20*(t+1))):=by rw [HK1.out]; exact Lib.hid ⟨HA.out.len,by have:=HA.out.few; omega⟩
         have HO1:=HO;rw [← HK1.out] at HO1;have e6:(k:Int)+1=(i:Int)+1+((t+1:Nat):Int):=by omega
         rw [e7];go_wp2;go_roundw
         case rel=>exact ⟨t+1,q,by omega,by first | rw [e6] | go_num,HA1,HO1,HB⟩
         case measure=>simp [intOf]; omega
      ·obtain rfl:n - (i+1)=t:=by omega
       have e7:(i:Int)+1+((n - (i+1):Nat):Int)=(n:Int):=by omega
       have nn:¬ (n:Int)<(n:Int):=by omega
       have HA1:Hid (CorAcc (corI rs n (i+1)) q (400*(i+1))):=by rw [HI1.out]; exact Lib.hid ⟨HA.out.len,by have:=HA.out.few; omega⟩
       have HO1:=HO;rw [← HI1.out] at HO1;rw [e7];go_wp2;go_roundw
       case rel=>exact ⟨i+1,q,by omega,by go_num,HA1,HO1,HB⟩
       case measure=>simp [intOf]; omega
    ·obtain rfl:n=i:=by omega
     have nn:¬ (n:Int)<(n:Int):=by omega
     have hq:cornN rs n=q:=by have:=HA.out.len; rw [cornN,cornL_t HCT.out]; omega
     have HO1:=HO;rw [← cornL_t HCT.out] at HO1;obtain ⟨A9,c9,rfl,_⟩:=HO1.out.slice;go_wp2;go_ret;exact ⟨.slice A9 q c9,rfl,by first | exact HO1.out | (rw [hq]; exact HO1.out),HB.out⟩
end X
section
open Go.RowKit
def capOf (t:Nat→Question→Nat) (d need:Nat) (E:TypeId):Nat:=(Question.appendCap need 0 E).cut (t d (.appendCap need 0 E))
theorem capOf_ge (t:Nat→Question→Nat) (d need:Nat) (E:TypeId):need≤capOf t d need E:=by simp [capOf,Question.cut]
theorem capOf_le (t:Nat→Question→Nat) (d need:Nat) (E:TypeId) (h:need≤maxLen):capOf t d need E≤maxLen:=by
 have hlt:=Nat.mod_lt (t d (.appendCap need 0 E)) (show 0<2 ^ 63 - need by simp only [maxLen] at h; omega)
 simp only [capOf,Question.cut,maxLen] at h ⊢;omega
theorem capOf_set {need c:Nat} (E:TypeId) (h1:need≤c) (h2:c≤maxLen) (d:Nat):capOf (fun _ q=>match q with | .appendCap _ _ _=>c - need | _=>0) d need E=c:=by
 simp only [capOf,Question.cut,maxLen] at h2 ⊢;rw [Nat.mod_eq_of_lt (by omega)];omega
theorem run_eqNil {P:Program} {t e:TypeId} (h:P.underlying t=some (.slice e)) (A:Option Addr) (n c:Nat) (w:World):(binOp .eql t (.slice A n c) (.slice none 0 0)).run P w = .ok (.bool A.isNone) w:=by
 have hb:binOp .eql t (.slice A n c) (.slice none 0 0)=(Op.equal t (.slice A n c) (.slice none 0 0) >>= fun x=>pure (.bool x)):=rfl;have he:(Op.equal t (.slice A n c) (.slice none 0 0)).run P w = .ok A.isNone w:=by
  show (Op.equalIn (9999+1) t (.slice A n c) (.slice none 0 0)).run P w=_
  rw [Op.equalIn.eq_2,Sem.run_bind,run_underlying h];cases A <;> rfl
 rw [hb,Sem.run_bind,he];rfl
theorem wpList_appB {P:Program} (w:World) {ops:Array Oper} {rest:List Oper} {o:Oper} {a:Act} {Q:Exit→Act→World→Prop} (hgd:o.guard=none) (s x:Operand) (t:TypeId)
  (ho:o.op = .call { callee := .builtin .append,args := #[s,x],argTypes := #[t,t] })
  (E:TypeId) (K bytes:Nat) (zc:Array Value) (ht:P.underlying t=some (.slice E)) (hinfo:(P.info? E).map (fun i=>(i.zero,i.size,i.bytes))=some (some (.agg zc),K,bytes)) (hzc:zc.size=K) (hK:0<K) (hby:bytes≤1024)
  (hs:a.eval s = .slice none 0 0) (A:Option Addr) (q c:Nat) (hx:a.eval x = .slice A q c) (ys:List Int) (hy:RecsAt w w.heap.size K A q ys) (hn:q≤1048576)
  (h:∀ v' w',(q=0∧v' = .slice none 0 0∧w'=w) ∨ (1≤q∧v' = .slice (some ⟨w.heap.size,0,none⟩) q (capOf w.tape w.drawn q E)∧w'=w.drew.alloc (.cells ((ys.map (Value.int .i64)).toArray ++ Builtin.zeroCells zc (capOf w.tape w.drawn q E - q)) E (0,0))) →
   wpList P ops Q rest (a.put o.dst v') w'):wpList P ops Q (o :: rest) a w:=by
 obtain ⟨i0,hi0,hz0,hz1,hz2⟩:=info_parts hinfo;refine wpList_plain hgd fun _ hK' => ?_
 rcases Nat.eq_zero_or_pos q with e | e
 ·subst e
  have hr:(Builtin.append_ #[t,t] o.type #[.slice none 0 0,.slice A 0 c]).run P w = .ok (.slice none 0 0) w:=by
   cases A with
   | none=>simp [Builtin.append_,run_underlying ht,sizeOf,typeInfo,hi0,Builtin.lenOf,Builtin.firstCells,loadCells,loadCellsFrom]
   | some a=>simp [Builtin.append_,run_underlying ht,sizeOf,typeInfo,hi0,Builtin.lenOf,Builtin.firstCells,loadCells,loadCellsFrom]
  unfold Oper.wp execOp;simp only [ho,resolve,invoke,builtin,Sem.run_bind,Sem.run_pure,Result.andThen_ok,List.map_toArray,List.map_cons,List.map_nil,hs,hx,hr];exact hK' _ _ (h _ _ (.inl ⟨rfl,rfl,rfl⟩))
 ·obtain ⟨b,off,rfl,hb,hc⟩:=hy.2 e
  have hnews:∀ j u,(ys.map (Value.int .i64))[j]?=some u→w.cell? ((⟨b,off,none⟩:Addr).add j)=some u:=by
   intro j u hj;have hjl:j<ys.length:=by
    have:=(List.getElem?_eq_some_iff.1 hj).1;simpa using this
   rw [List.getElem?_map,List.getElem?_eq_getElem hjl] at hj;simp at hj;subst hj;rw [Go.WideShapes.add_plain,hc j (by rw [← hy.1]; exact hjl),nth_get ys j hjl]
  have hqb:q*bytes≤1048576*1024:=Nat.mul_le_mul hn hby;have hr:=run_append_nil (P:=P) w t o.type E i0 (.agg zc) ht hi0 hz0 ⟨b,off,none⟩ q c (ys.map (Value.int .i64)) (by rw [hz1]; simpa using hy.1) hnews e (by omega) (by rw [hz2]; omega)
  unfold Oper.wp execOp;simp only [ho,resolve,invoke,builtin,Sem.run_bind,Sem.run_pure,Result.andThen_ok,List.map_toArray,List.map_cons,List.map_nil,hs,hx,hr];exact hK' _ _ (h _ _ (.inr ⟨e,rfl,rfl⟩))
end
namespace X
open Go.RowKit
def XEnd (w':World) (base:Nat) (v:Value) (rs:List Int) (n:Nat):Prop :=
 (v = .slice none 0 0∧cornL rs n = []) ∨ ∃ g d,base≤g∧1≤cornN rs n∧v = .slice (some ⟨g,0,none⟩) (cornN rs n) (capOf w'.tape d (cornN rs n) 66) ∧
  w'.heap[g]?=some (.cells (((cornL rs n).map (Value.int .i64)).toArray ++ Builtin.zeroCells #[.int .i64 0,.int .i64 0,.int .i64 0,.int .i64 0] (capOf w'.tape d (cornN rs n) 66 - cornN rs n)) 66 (0,0))
theorem XEnd.own {w':World} {base:Nat} {v:Value} {rs:List Int} {n:Nat} (h:XEnd w' base v rs n):OwnR w' base 66 4 v (cornN rs n) (cornL rs n):=by
 have hl:=(corn_acc rs n).len;have hf:=(corn_acc rs n).few;rcases h with ⟨rfl,e⟩ | ⟨g,d,hg,hq,rfl,hh⟩
 ·rw [cornN,e]; exact OwnR.nil _ _ _ _
 ·refine ⟨⟨by simp [hl],.inr ⟨g,_,_,rfl,hg,hh,capOf_ge ..,capOf_le _ _ _ _ (by unfold maxLen; omega),?_,?_⟩⟩,hl⟩
  ·have:=capOf_ge w'.tape d (cornN rs n) 66
   rw [Array.size_append,size_zeroCells];simp only [List.size_toArray,List.length_map,hl,List.length_cons,List.length_nil,Nat.reduceAdd];omega
  ·rw [Array.toList_append]
   simp only [hl.symm];rw [show (cornL rs n).length=(((cornL rs n).map (Value.int .i64)).toArray.toList).length by simp,List.take_left]
set_option maxRecDepth 100000 in
set_option maxHeartbeats 3200000 in
theorem xCorners_any (A:Option Addr) (n c:Nat) (rs:List Int) (w:World) (h:RecsAt w w.heap.size 4 A n rs) (hn:n≤1048576) (hA:n=0→A=none) :
  Calls Tryzx.prog 87 #[.slice A n c] w fun e w'=>∃ v,e = .returned v∧XEnd w' w.heap.size v rs n∧Below w.heap.size w w':=by
 have HL:=Lib.hid h;clear h;have nlt:(n:Int)<1048577:=by omega
 have HAN:=Lib.hid hA;clear hA;go_enter Tryzx.func87,Tryzx.ntmps87;unfold Tryzx.bodyX;go_wp2;go_loopw [1] (fun v1 wr=>∃ i:Nat,i≤n∧v1 = .int .i64 i∧Hid (Below w.heap.size w wr)) (fun v1 _=>n - (intOf v1).toNat)
 case atStart=>exact ⟨0,Nat.zero_le _,rfl,Lib.hid (Below.refl _ _)⟩
 case round =>
  obtain ⟨i,hi,rfl,HB⟩:=hrel;by_cases hli:i<n
  ·have ii:(i:Int)<(n:Int):=by omega
   obtain ⟨b,off,rfl,hbB,hc⟩:=HL.out.2 (by omega);obtain ⟨x0,x1,x2,x3⟩:=rwCells (fun i hi=>(HB.out.cell (by exact hbB)).trans (hc i hi)) hli;clear hc;generalize nth rs (i*4)=y0 at *
   generalize nth rs (i*4+1)=y1 at *
   generalize nth rs (i*4+2)=y2 at *
   generalize nth rs (i*4+3)=y3 at *
   go_wp2;go_roundw
   case rel=>exact ⟨i+1,by omega,by go_num,HB⟩
   case measure=>simp [intOf]; omega
  ·obtain rfl:n=i:=by omega
   have nn:¬ (n:Int)<(n:Int):=by omega
   have HLR:=Lib.hid (HL.out.after HB.out);by_cases h0:n=0
   ·subst h0
    obtain rfl:=HAN.out rfl;have heq:∀ u:World,(binOp .eql 103 (.slice none 0 c) (.slice none 0 0)).run Tryzx.prog u = .ok (.bool true) u:=fun u=>run_eqNil Tryzx.underlying103 none 0 c u
    go_wp2_with fail
    refine (sCorners_any _ _ _ rs _ HLR.out (by omega)).mono ?_;rintro e w1 ⟨v,rfl,hown,hb1⟩;have HB1:=Lib.hid (below_then HB.out hb1);obtain ⟨A9,c9,rfl,hc9⟩:=hown.slice;have HR9:=Lib.hid hown.recs;have HF9:=Lib.hid ((corn_acc rs 0).few);have HE9:=Lib.hid ((corn_acc rs 0).len);clear hown hb1;go_wp2_with (at_builtin; refine wpList_appB _ rfl (.const (.slice none 0 0)) (.tmp 9) 71 rfl 66 4 32 #[.int .i64 0,.int .i64 0,.int .i64 0,.int .i64 0] Tryzx.underlying71 infoThr rfl (by decide) (by decide) rfl A9 _ c9 rfl (cornL rs 0) (by exact HR9.out) (by have:=HF9.out; omega) ?_; intro v' w' hend; have HEND:=Lib.hid hend; clear hend);go_ret;rcases HEND.out with ⟨hq,rfl,rfl⟩ | ⟨hq,rfl,rfl⟩
    ·exact ⟨_,rfl,.inl ⟨rfl,List.eq_nil_of_length_eq_zero (by have:=HE9.out; omega)⟩,HB1.out⟩
    ·have hs:=HB1.out.size
     exact ⟨_,rfl,.inr ⟨_,_,hs,hq,rfl,heap_alloc_new w1.drew _⟩,(below_dr HB1.out).alloc (by simpa using hs) _⟩
   ·have n0:((n:Int) == 0)=false:=by simp; omega
    go_wp2_with fail
    refine (sCorners_any _ _ _ rs _ HLR.out (by omega)).mono ?_;rintro e w1 ⟨v,rfl,hown,hb1⟩;have HB1:=Lib.hid (below_then HB.out hb1);obtain ⟨A9,c9,rfl,hc9⟩:=hown.slice;have HR9:=Lib.hid hown.recs;have HF9:=Lib.hid ((corn_acc rs n).few);have HE9:=Lib.hid ((corn_acc rs n).len);clear hown hb1;go_wp2_with (at_builtin; refine wpList_appB _ rfl (.const (.slice none 0 0)) (.tmp 9) 71 rfl 66 4 32 #[.int .i64 0,.int .i64 0,.int .i64 0,.int .i64 0] Tryzx.underlying71 infoThr rfl (by decide) (by decide) rfl A9 _ c9 rfl (cornL rs n) (by exact HR9.out) (by have:=HF9.out; omega) ?_; intro v' w' hend; have HEND:=Lib.hid hend; clear hend);go_ret;rcases HEND.out with ⟨hq,rfl,rfl⟩ | ⟨hq,rfl,rfl⟩
    ·exact ⟨_,rfl,.inl ⟨rfl,List.eq_nil_of_length_eq_zero (by have:=HE9.out; omega)⟩,HB1.out⟩
    ·have hs:=HB1.out.size
     exact ⟨_,rfl,.inr ⟨_,_,hs,hq,rfl,heap_alloc_new w1.drew _⟩,(below_dr HB1.out).alloc (by simpa using hs) _⟩
end X
end Go.Proofs.YtjcgklifabcfkaaGreat
