/-
  Texts that the law stands on, part 5.
-/
import Derived.Test.YtpblihmhpalkfaaGreatCracksP4
import Derived.Test.YtpblihmhpalkfaaGreatJ21
set_option maxRecDepth 100000
set_option linter.unusedVariables false
set_option linter.unusedSimpArgs false
namespace Go.Proofs.YtpblihmhpalkfaaGreat
namespace X
open Go.RowKit
def zN:Nat→List Int
 | 0 => []
 | k+1=>zN k ++ [0]
theorem zN_len:∀ k,(zN k).length=k
 | 0=>rfl
 | k+1=>by simp [zN,zN_len k]
theorem zN_at:∀ k i,nth (zN k) i=0
 | 0,i=>by simp [zN,nth]
 | k+1,i=>by
  by_cases h:i<(zN k).length
  ·simp only [zN]
   rw [nthL h];exact zN_at k i
  ·by_cases e:i=k
   ·subst e
    have h2:=nthR (xs:=zN i) (ys := [(0:Int)]) (j:=0) (by simp);rw [zN_len,Nat.add_zero] at h2;simp only [zN];rw [h2]; rfl
   ·have hl:=zN_len (k+1)
    have:=zN_len k;simp [nth,List.getD,List.getElem?_eq_none (show (zN (k+1)).length≤i by omega)]
theorem cnt_zN (n:Nat):∀ k,cnt (zN n) k=0
 | 0=>rfl
 | k+1=>by rw [cnt_miss (zN_at n k)]; exact cnt_zN n k
theorem cracks_t {zs:List Int} {n:Nat} {cs:List Int} (hA:archB zs n=true) (h:∀ k,k<n→0≤nth cs k∧nth cs k≤2):cracksB zs n cs n=true:=by
 unfold cracksB;rw [hA,decide_eq_true rfl,Bool.true_and,Bool.true_and,List.all_eq_true];intro i hi;rw [inB_iff];exact h i (by simpa using hi)
theorem cracks_zN {zs:List Int} {n:Nat} (hA:archB zs n=true):cracksB zs n (zN n) n=true:=cracks_t hA (fun k _=>by rw [zN_at]; omega)
theorem exB_zN (sn:List Int) (n:Nat):∀ k,exB sn (zN n) k=true
 | 0=>rfl
 | k+1=>exB_0 (exB_zN sn n k) (zN_at n k)
theorem exN_all {f:Nat→Bool} (h:∀ k,f k=true):∀ k,exN f k=k
 | 0=>rfl
 | k+1=>by rw [exN_t (h k),exN_all h k]
theorem exp_zN {zs:List Int} {n:Nat} {ls:List Int} {q:Nat} (hA:archB zs n=true):expN zs n ls q (zN n) n=thrN zs n ls q:=by
 rw [expN_t (cracks_zN hA)];exact exN_all (fun k=>exB_zN _ _ _) _
theorem exN_pos {f:Nat→Bool} {j:Nat} (h:f j=true):∀ k,j<k→0<exN f k
 | 0,hj=>absurd hj (by omega)
 | k+1,hj=>by
  by_cases e:j=k
  ·subst e; rw [exN_t h]; omega
  ·have ih:=exN_pos h k (by omega)
   cases hk:f k
   ·rw [exN_f hk]; exact ih
   ·rw [exN_t hk]; omega
theorem exB_self (cs:List Int):∀ k,exB cs cs k=true
 | 0=>rfl
 | k+1=>exB_1 (exB_self cs k) rfl
section
variable {zs : List Int} {n : Nat} {ls : List Int} {q : Nat} {H V M D : Int}
theorem crL_at {m k:Nat} (h:k<m):nth (crL zs n ls q H V M D m) k=crAt zs n ls q H V M D k:=by
 rw [nth_get _ _ (by rw [crL_len]; exact h)];simp [crL]
theorem crAt_in (k:Nat):0≤crAt zs n ls q H V M D k∧crAt zs n ls q H V M D k≤2:=by
 unfold crAt;split
 ·omega
 ·split <;> omega
theorem cnt_hg:∀ k,k≤n→cnt (crL zs n ls q H V M D n) k≤(hgP zs n ls q H V M D k).length
 | 0,_=>Nat.zero_le _
 | k+1,hk=>by
  have ih:=cnt_hg k (by omega);have hat:=crL_at (zs:=zs) (n:=n) (ls:=ls) (q:=q) (H:=H) (V:=V) (M:=M) (D:=D) (m:=n) (k:=k) (by omega);by_cases h1:mIn zs n ls q H V M D (k:Int)=0
  ·have h0:nth (crL zs n ls q H V M D n) k ≠ 0:=by rw [hat]; unfold crAt; rw [if_pos h1]; omega
   rw [cnt_hit h0];by_cases h2:mOut zs n ls q H V M D (k:Int)=0
   ·rw [hgP_00 h1 h2]; simp; omega
   ·rw [hgP_01 h1 h2]; simp; omega
  ·by_cases h2:mOut zs n ls q H V M D (k:Int)=0
   ·have h0:nth (crL zs n ls q H V M D n) k ≠ 0:=by rw [hat]; unfold crAt; rw [if_neg h1,if_pos h2]; omega
    rw [cnt_hit h0,hgP_10 h1 h2]; simp; omega
   ·have h0:nth (crL zs n ls q H V M D n) k=0:=by rw [hat]; unfold crAt; rw [if_neg h1,if_neg h2]
    rw [cnt_miss h0,hgP_11 h1 h2]; exact ih
end
theorem crk_facts {zs:List Int} {n:Nat} {ls:List Int} {q j:Nat} (hA:archB zs n=true) (hj:j<thrN zs n ls q) {H V M D:Int} (h0:nth (thrL zs n ls q) (j*4)=H) (h1:nth (thrL zs n ls q) (j*4+1)=V) (h2:nth (thrL zs n ls q) (j*4+2)=M) (h3:nth (thrL zs n ls q) (j*4+3)=D) :
  (crRes zs n ls q H V M D).length=n∧cracksB zs n (crRes zs n ls q H V M D) n=true∧0<expN zs n ls q (crRes zs n ls q H V M D) n∧cnt (crRes zs n ls q H V M D) n≤(hgJ zs n ls q H V M D).length:=by
 have hs:=thr_stands hj;rw [h0,h1,h2,h3] at hs;rw [crRes_t hs,hgJ_t hs];have hc:cracksB zs n (crL zs n ls q H V M D n) n=true:=cracks_t hA (fun k hk=>by rw [crL_at hk]; exact crAt_in k);refine ⟨crL_len n,hc,?_,cnt_hg n (Nat.le_refl _)⟩;rw [expN_t hc];refine exN_pos (j:=j) ?_ _ hj;unfold exAt;rw [h0,h1,h2,h3,crRes_t hs];exact exB_self _ _
end X
section
open Go.RowKit
theorem OwnV.sliceN {w:World} {base:Nat} {E:TypeId} {v:Value} {xs:List Int} (h:OwnV w base E v xs):∃ A l c,v = .slice A l c:=by
 rcases h.form with ⟨rfl,_⟩ | ⟨g,cap,rfl,_⟩ <;> exact ⟨_,_,_,rfl⟩
end
end Go.Proofs.YtpblihmhpalkfaaGreat
