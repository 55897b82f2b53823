/-
  Texts that the law stands on, part 7.
-/
import Derived.Test.YtpblihmhpalkfaaGreatSettlementsP4
import Derived.Test.YtpblihmhpalkfaaGreatSettlementsP5
import Derived.Test.YtpblihmhpalkfaaGreatSettlementsP6
set_option maxRecDepth 100000
set_option linter.unusedVariables false
set_option linter.unusedSimpArgs false
namespace Go.Proofs.YtpblihmhpalkfaaGreat
namespace X
open Go.RowKit
structure SetF (zs:List Int) (n:Nat) (ls:List Int) (q:Nat) (x0 x1 x2 x3:Int) (b1:Bool) (y0 y1 y2 y3:Int) (b2:Bool):Prop where
 one:decide (0<(thrN zs n ls q:Int))=b1
 cmp:b2=true→¬ cmpT x0 x1 x2 x3 y0 y1 y2 y3 > 0
 three:b1=true→x0 > 0→3≤(hgJ zs n ls q x0 x1 x2 x3).length
 mov:movB zs n ls q=(b1 && decide ((3:Int)≤(movJ zs n ls q x0 x1 x2 x3:Nat)))
theorem tup_inj {a b c d a' b' c' d':Int} {e e':Bool} (h:Value.tuple #[.agg #[.int .i64 a,.int .i64 b,.int .i64 c,.int .i64 d],.bool e] = .tuple #[.agg #[.int .i64 a',.int .i64 b',.int .i64 c',.int .i64 d'],.bool e']):a=a'∧b=b'∧c=c'∧d=d'∧e=e':=by
 simp at h;obtain ⟨⟨h1,h2,h3,h4⟩,h5⟩:=h;exact ⟨h1,h2,h3,h4,h5⟩
theorem set_facts (zs:List Int) (n:Nat) (ls:List Int) (q:Nat):∃ x0 x1 x2 x3 b1 y0 y1 y2 y3 b2,setV zs n ls q 1 = .tuple #[.agg #[.int .i64 x0,.int .i64 x1,.int .i64 x2,.int .i64 x3],.bool b1]∧setV zs n ls q 2 = .tuple #[.agg #[.int .i64 y0,.int .i64 y1,.int .i64 y2,.int .i64 y3],.bool b2]∧SetF zs n ls q x0 x1 x2 x3 b1 y0 y1 y2 y3 b2:=by
 obtain ⟨y0,y1,y2,y3,b2,hy⟩:=setV_ex zs n ls q 2;obtain ⟨a,b,c,d,e,hx,hm⟩:=mov_ex zs n ls q;refine ⟨a,b,c,d,e,y0,y1,y2,y3,b2,hx,hy,?_⟩;have hx':=hx;rw [setV_1] at hx';have hy':=hy;rw [setV_2] at hy';by_cases hT:0<thrN zs n ls q
 ·have hl:lstB zs n ls q=true:=decide_eq_true hT
  rw [endV_t hl] at hx';obtain ⟨e0,e1,e2,e3,e4⟩:=tup_inj hx';subst e4;obtain ⟨m,hlen,hall⟩:=cornL_thr (rowsZ zs n ls q) (rowsN zs n ls q);have hmT:m=thrN zs n ls q:=by unfold thrN cornN; omega
  have hthr:∀ j,j<thrN zs n ls q→thrB (nth (thrL zs n ls q) (j*4)) (nth (thrL zs n ls q) (j*4+1)) (nth (thrL zs n ls q) (j*4+2)) (nth (thrL zs n ls q) (j*4+3))=true:=fun j hj=>hall j (by omega)
  have hk:=bstK_up (-1) (thrL zs n ls q) (thrN zs n ls q - 1);have hkl:bstK (-1) (thrL zs n ls q) (thrN zs n ls q - 1)<thrN zs n ls q:=by omega
  refine ⟨decide_eq_true (by omega),fun hb => ?_,fun _ hH => ?_,hm⟩
  ·subst hb
   cases hg:grtB zs n ls q
   ·rw [endV_f hg] at hy'
    have:=(tup_inj hy').2.2.2.2;cases this
   ·rw [endV_t hg] at hy'
    obtain ⟨f0,f1,f2,f3,_⟩:=tup_inj hy';have hk2:=bstK_up 1 (thrL zs n ls q) (thrN zs n ls q - 1);have hmin:=bst_min hthr (thrN zs n ls q - 1) (by omega) (bstK 1 (thrL zs n ls q) (thrN zs n ls q - 1)) hk2;have t1:thrB a b c d=true:=by rw [← e0,← e1,← e2,← e3]; exact hthr _ hkl
    have t2:thrB y0 y1 y2 y3=true:=by rw [← f0,← f1,← f2,← f3]; exact hthr _ (by omega)
    rw [cmpT_3 t1 t2];have h1:a*y3≤y0*d:=by rw [← e0,← e3,← f0,← f3]; exact hmin
    unfold cmpN;split
    ·omega
    ·rw [if_neg (by omega)]; omega
  ·have hs:=thr_stands (zs:=zs) (n:=n) (ls:=ls) (q:=q) hkl
   have g0:nth (thrL zs n ls q) (bstK (-1) (thrL zs n ls q) (thrN zs n ls q - 1)*4)=a:=e0;have g1:nth (thrL zs n ls q) (bstK (-1) (thrL zs n ls q) (thrN zs n ls q - 1)*4+1)=b:=e1;have g2:nth (thrL zs n ls q) (bstK (-1) (thrL zs n ls q) (thrN zs n ls q - 1)*4+2)=c:=e2;have g3:nth (thrL zs n ls q) (bstK (-1) (thrL zs n ls q) (thrN zs n ls q - 1)*4+3)=d:=e3;rw [g0,g1,g2,g3] at hs;exact hinges_3 hkl g0 g1 g2 g3 hs hH
 ·have hT0:thrN zs n ls q=0:=by omega
  have hl:lstB zs n ls q=false:=decide_eq_false hT;rw [endV_f hl] at hx';obtain ⟨_,_,_,_,e4⟩:=tup_inj hx';subst e4;rw [endV_f (grt_1 hT0)] at hy';obtain ⟨_,_,_,_,f4⟩:=tup_inj hy';subst f4;exact ⟨decide_eq_false (by omega),fun h=>(by cases h),fun h=>(by cases h),hm⟩
theorem hgJ_asc (zs:List Int) (n:Nat) (ls:List Int) (q:Nat) (H V M D:Int):∀ k,k+1<(hgJ zs n ls q H V M D).length→nth (hjs (hgJ zs n ls q H V M D)) k≤nth (hjs (hgJ zs n ls q H V M D)) (k+1):=by
 intro k hk;have hl:(hjs (hgJ zs n ls q H V M D)).length=(hgJ zs n ls q H V M D).length:=by simp [hjs]
 refine asc_at ?_ (by omega);cases hs:stB zs n ls q H V M D
 ·rw [hgJ_f hs]; exact List.Pairwise.nil
 ·rw [hgJ_t hs]; exact hgL_asc _ _ _
theorem dcnt_012:dcnt [0,1,2] 3=3:=by
 have h0:dcnt [0,1,2] 1=1:=by
  rw [dcnt_s,if_neg (by rintro ⟨i,hi,_⟩; omega)]; rfl
 have h1:dcnt [0,1,2] 2=2:=by
  rw [dcnt_s,h0,if_neg];rintro ⟨i,hi,h⟩;have:i=0:=by omega
  subst this;simp [nth] at h
 rw [dcnt_s,h1,if_neg];rintro ⟨i,hi,h⟩;have:i=0 ∨ i=1:=by omega
 rcases this with rfl | rfl <;> simp [nth] at h
end X
end Go.Proofs.YtpblihmhpalkfaaGreat
