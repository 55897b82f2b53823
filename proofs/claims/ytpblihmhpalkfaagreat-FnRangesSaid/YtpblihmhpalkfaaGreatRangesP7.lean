/-
  Texts that the law stands on, part 7.
-/
import Derived.Test.YtpblihmhpalkfaaGreatRangesP3
import Derived.Test.YtpblihmhpalkfaaGreatRangesP4
import Derived.Test.YtpblihmhpalkfaaGreatRangesP5
import Derived.Test.YtpblihmhpalkfaaGreatRangesP6
set_option maxRecDepth 100000
set_option linter.unusedVariables false
set_option linter.unusedSimpArgs false
namespace Go.Proofs.YtpblihmhpalkfaaGreat
namespace X
open Go.RowKit
theorem bst_max {xs:List Int} {m:Nat} (h:∀ j,j<m→thrB (nth xs (j*4)) (nth xs (j*4+1)) (nth xs (j*4+2)) (nth xs (j*4+3))=true):∀ k,k<m→∀ j,j≤k→nth xs (j*4)*bstV 1 xs k 3≤bstV 1 xs k 0*nth xs (j*4+3)
 | 0,hk,j,hj=>by
  obtain rfl:j=0:=by omega
  rw [bstV_0,bstV_0];simp
 | k+1,hk,j,hj=>by
  have hb:thrB (bstV 1 xs k 0) (bstV 1 xs k 1) (bstV 1 xs k 2) (bstV 1 xs k 3)=true:=by
   have:=bstK_up 1 xs k;exact h _ (by omega)
  have hn:=h (k+1) hk;have db:=(thrB_out hb).1.1;have dn:=(thrB_out hn).1.1;have ec:better 1 xs k=cmpN (nth xs ((k+1)*4)*bstV 1 xs k 3) (bstV 1 xs k 0*nth xs ((k+1)*4+3)):=cmpT_3 hn hb;have ih:=bst_max h k (by omega);by_cases e:better 1 xs k=1
  ·rw [bstV_t e,bstV_t e,Nat.add_zero]
   have hlt:bstV 1 xs k 0*nth xs ((k+1)*4+3)<nth xs ((k+1)*4)*bstV 1 xs k 3:=by
    rw [ec] at e;unfold cmpN at e;split at e
    ·omega
    ·split at e
     ·assumption
     ·omega
   by_cases ej:j=k+1
   ·subst ej; exact Int.le_refl _
   ·exact frac_tr (by have:=(thrB_out (h j (by omega))).1.1; omega) (by omega) (by omega) (ih j (by omega)) (Int.le_of_lt hlt)
  ·rw [bstV_f e,bstV_f e]
   by_cases ej:j=k+1
   ·subst ej
    rw [ec] at e;have:¬ bstV 1 xs k 0*nth xs ((k+1)*4+3)<nth xs ((k+1)*4)*bstV 1 xs k 3:=fun hl=>e (cmpN_g hl)
    omega
   ·exact ih j (by omega)
theorem mkG_pos {h v m d:Int} (hd:0<d):0<mkG h v m d:=by
 have h1:=mkG_ne h v m (d:=d) (by omega);unfold mkG at h1 ⊢;rw [if_neg (by omega)] at h1 ⊢;omega
theorem cmp_ng {p0 p1 p2 p3 q0 q1 q2 q3:Int} (hp:thrB p0 p1 p2 p3=true) (hq:thrB q0 q1 q2 q3=true) (h:p0*q3≤q0*p3):¬ cmpT p0 p1 p2 p3 q0 q1 q2 q3 > 0:=by
 rw [cmpT_3 hp hq];unfold cmpN;split
 ·omega
 ·rw [if_neg (by omega)]; omega
theorem cmp_nl {p0 p1 p2 p3 q0 q1 q2 q3:Int} (hp:thrB p0 p1 p2 p3=true) (hq:thrB q0 q1 q2 q3=true) (h:q0*p3≤p0*q3):¬ cmpT p0 p1 p2 p3 q0 q1 q2 q3<0:=by
 rw [cmpT_3 hp hq];unfold cmpN;rw [if_neg (by omega)];split <;> omega
theorem mid_le {a b c d H1 V1 M1 D1 H2 V2 M2 D2 g H V M D:Int} (hg:0<g) (h1:0<D1) (h2:0<D2) (e0:g*H=H1*D2+H2*D1) (e1:g*V=V1*D2+V2*D1) (e2:g*M=M1*D2+M2*D1) (e3:g*D=2*D1*D2)
  (m1:a*H1+b*V1+c*M1≤d*D1) (m2:a*H2+b*V2+c*M2≤d*D2):a*H+b*V+c*M≤d*D:=by
 refine Int.le_of_mul_le_mul_left ?_ hg;have n1:=Int.mul_le_mul_of_nonneg_left m1 (Int.le_of_lt h2);have n2:=Int.mul_le_mul_of_nonneg_left m2 (Int.le_of_lt h1);have k1:g*(a*H+b*V+c*M)=D2*(a*H1+b*V1+c*M1)+D1*(a*H2+b*V2+c*M2):=by
  have:g*(a*H+b*V+c*M)=a*(g*H)+b*(g*V)+c*(g*M):=by grind
  rw [this,e0,e1,e2]; grind
 have k2:g*(d*D)=D2*(d*D1)+D1*(d*D2):=by
  have:g*(d*D)=d*(g*D):=by grind
  rw [this,e3]; grind
 rw [k1,k2];omega
theorem mix_stands {zs ls:List Int} {n q:Nat} {H1 V1 M1 D1 H2 V2 M2 D2:Int} (h1:stB zs n ls q H1 V1 M1 D1=true) (h2:stB zs n ls q H2 V2 M2 D2=true) (t1:thrB H1 V1 M1 D1=true) (t2:thrB H2 V2 M2 D2=true) {h v m d:Int} (eh:h=H1*D2+H2*D1) (ev:v=V1*D2+V2*D1) (em:m=M1*D2+M2*D1) (ed:d=2*D1*D2) (hk:mkB h v m d=true) :
  thrB (mkI h v m d h) (mkI h v m d v) (mkI h v m d m) (mkI h v m d d)=true∧stB zs n ls q (mkI h v m d h) (mkI h v m d v) (mkI h v m d m) (mkI h v m d d)=true ∧
  (∀ P0 P3:Int,0<P3→P0*D1≤H1*P3→P0*D2≤H2*P3→P0*mkI h v m d d≤mkI h v m d h*P3)∧(∀ P0 P3:Int,0<P3→H1*P3≤P0*D1→H2*P3≤P0*D2→mkI h v m d h*P3≤P0*mkI h v m d d):=by
 have ht:=mkI_thr hk;have d1:0<D1:=by have:=(thrB_out t1).1.1; omega
 have d2:0<D2:=by have:=(thrB_out t2).1.1; omega
 have hd:0<d:=by rw [ed]; exact Int.mul_pos (by omega) d2
 have hg:=mkG_pos (h:=h) (v:=v) (m:=m) hd;obtain ⟨g0,g1,g2,g3⟩:=mkG_mul h v m d;rw [← mkI_t hk h] at g0;rw [← mkI_t hk v] at g1;rw [← mkI_t hk m] at g2;rw [← mkI_t hk d] at g3;generalize mkG h v m d=g at *
 generalize mkI h v m d h=H at *
 generalize mkI h v m d v=V at *
 generalize mkI h v m d m=M at *
 generalize mkI h v m d d=D at *
 have e0:g*H=H1*D2+H2*D1:=g0.trans eh;have e1:g*V=V1*D2+V2*D1:=g1.trans ev;have e2:g*M=M1*D2+M2*D1:=g2.trans em;have e3:g*D=2*D1*D2:=g3.trans ed;refine ⟨ht,?_,fun P0 P3 hP a1 a2 => ?_,fun P0 P3 hP a1 a2 => ?_⟩
 ·unfold stB fulAll at h1 h2 ⊢
  rw [Bool.and_eq_true] at h1 h2 ⊢;refine ⟨h1.1,allB_t (fun i hi => ?_)⟩;have f1:=allB_out h1.2 i hi;have f2:=allB_out h2.2 i hi;unfold fulAt fulB metB at f1 f2 ⊢;simp only [Bool.and_eq_true,decide_eq_true_eq] at f1 f2 ⊢;exact ⟨ht,f1.2.1,mid_le hg d1 d2 e0 e1 e2 e3 f1.2.2 f2.2.2⟩
 ·have:=mid_le (a := -P3) (b:=0) (c:=0) (d := -P0) hg d1 d2 e0 e1 e2 e3 (by simp only [Int.neg_mul,Int.zero_mul,Int.add_zero]; rw [Int.mul_comm P3]; omega) (by simp only [Int.neg_mul,Int.zero_mul,Int.add_zero]; rw [Int.mul_comm P3]; omega)
  simp only [Int.neg_mul,Int.zero_mul,Int.add_zero] at this;rw [Int.mul_comm P3] at this;omega
 ·have:=mid_le (a:=P3) (b:=0) (c:=0) (d:=P0) hg d1 d2 e0 e1 e2 e3 (by simp only [Int.zero_mul,Int.add_zero]; rw [Int.mul_comm P3]; omega) (by simp only [Int.zero_mul,Int.add_zero]; rw [Int.mul_comm P3]; omega)
  simp only [Int.zero_mul,Int.add_zero] at this;rw [Int.mul_comm P3] at this;omega
structure RngF (zs:List Int) (n:Nat) (ls:List Int) (q:Nat) (p0 p1 p2 p3:Int) (b1:Bool) (q0 q1 q2 q3:Int) (b2:Bool) (x y:Int) (bb:Bool):Prop where
 one:decide (0<(thrN zs n ls q:Int))=b1
 two:(b1 && !strB zs n)=b2
 t1:b1=true→thrB p0 p1 p2 p3=true
 t2:b2=true→thrB q0 q1 q2 q3=true
 lo:∀ j,j<thrN zs n ls q→¬ cmpT p0 p1 p2 p3 (nth (thrL zs n ls q) (j*4)) (nth (thrL zs n ls q) (j*4+1)) (nth (thrL zs n ls q) (j*4+2)) (nth (thrL zs n ls q) (j*4+3)) > 0
 hi:b2=true→∀ j,j<thrN zs n ls q→¬ cmpT q0 q1 q2 q3 (nth (thrL zs n ls q) (j*4)) (nth (thrL zs n ls q) (j*4+1)) (nth (thrL zs n ls q) (j*4+2)) (nth (thrL zs n ls q) (j*4+3))<0
 mix:∀ j,j<thrN zs n ls q→∀ m0 m1 m2 m3,mixV (nth (thrL zs n ls q) (j*4)) (nth (thrL zs n ls q) (j*4+1)) (nth (thrL zs n ls q) (j*4+2)) (nth (thrL zs n ls q) (j*4+3)) (nth (thrL zs n ls q) 0) (nth (thrL zs n ls q) 1) (nth (thrL zs n ls q) 2) (nth (thrL zs n ls q) 3) = .tuple #[.agg #[.int .i64 m0,.int .i64 m1,.int .i64 m2,.int .i64 m3],.bool true] →
  stB zs n ls q m0 m1 m2 m3=true∧¬ cmpT p0 p1 p2 p3 m0 m1 m2 m3 > 0∧(b2=true→¬ cmpT q0 q1 q2 q3 m0 m1 m2 m3<0)
 spr:bb=true→b2=true∧0≤x∧0<y∧(x=0 ↔ cmpT p0 p1 p2 p3 q0 q1 q2 q3=0)
theorem tupR_inj {a b c d a' b' c' d':Int} {e e':Bool} (h:Value.tuple #[.agg #[.int .i64 a,.int .i64 b,.int .i64 c,.int .i64 d],.bool e] = .tuple #[.agg #[.int .i64 a',.int .i64 b',.int .i64 c',.int .i64 d'],.bool e']):a=a'∧b=b'∧c=c'∧d=d'∧e=e':=by
 simp at h;obtain ⟨⟨h1,h2,h3,h4⟩,h5⟩:=h;exact ⟨h1,h2,h3,h4,h5⟩
theorem spr_out {p0 p1 p2 p3 q0 q1 q2 q3 x y:Int} (hp:thrB p0 p1 p2 p3=true) (hq:thrB q0 q1 q2 q3=true) (hle:p0*q3≤q0*p3) (hk:sprOk p3 q3 true true=true) (hx:(q0*p3 - p0*q3).tdiv (sprG p0 p3 q0 q3)=x) (hy:(q3*p3).tdiv (sprG p0 p3 q0 q3)=y) :
  0≤x∧0<y∧(x=0 ↔ cmpT p0 p1 p2 p3 q0 q1 q2 q3=0):=by
 simp only [sprOk,Bool.and_eq_true,decide_eq_true_eq,true_and] at hk;have hB:=spr_b hp hq (by omega) (by omega);have hg:=hB.g;have e1:sprG p0 p3 q0 q3 ∣ (q0*p3 - p0*q3):=by unfold sprG; exact Int.dvd_natAbs.1 (Int.natCast_dvd_natCast.2 (Nat.gcd_dvd_left _ _))
 have e2:sprG p0 p3 q0 q3 ∣ (q3*p3):=by unfold sprG; exact Int.dvd_natAbs.1 (Int.natCast_dvd_natCast.2 (Nat.gcd_dvd_right _ _))
 have m1:=Int.mul_tdiv_cancel' e1;have m2:=Int.mul_tdiv_cancel' e2;rw [hx] at m1;rw [hy] at m2;have dp:=(thrB_out hp).1.1;have dq:=(thrB_out hq).1.1;have hpos:0<q3*p3:=Int.mul_pos (by omega) (by omega);generalize sprG p0 p3 q0 q3=g at *
 have hgp:0<g:=by omega
 have x0:0≤x:=by
  rcases Int.lt_or_le x 0 with h | h
  ·have:=Int.mul_neg_of_pos_of_neg hgp h
   omega
  ·exact h
 have y0:0<y:=by
  rcases Int.lt_or_le 0 y with h | h
  ·exact h
  ·have:=Int.mul_nonpos_of_nonneg_of_nonpos (Int.le_of_lt hgp) h
   omega
 refine ⟨x0,y0,?_⟩;rw [cmpT_3 hp hq];constructor
 ·intro e
  subst e;rw [Int.mul_zero] at m1;exact cmpN_e (by omega) (by omega)
 ·intro e
  have:¬ p0*q3<q0*p3:=fun hl=>by rw [cmpN_l hl] at e; omega
  have h0:g*x=0:=by omega
  rcases Int.mul_eq_zero.1 h0 with h | h
  ·omega
  ·exact h
theorem rng_facts (zs:List Int) (n:Nat) (ls:List Int) (q:Nat):∃ p0 p1 p2 p3 b1 q0 q1 q2 q3 b2 x y bb,
  endV (lstB zs n ls q) (-1) (thrL zs n ls q) (thrN zs n ls q) = .tuple #[.agg #[.int .i64 p0,.int .i64 p1,.int .i64 p2,.int .i64 p3],.bool b1] ∧
  endV (grtB zs n ls q) 1 (thrL zs n ls q) (thrN zs n ls q) = .tuple #[.agg #[.int .i64 q0,.int .i64 q1,.int .i64 q2,.int .i64 q3],.bool b2] ∧
  sprV p0 p3 q0 q3 b1 b2 = .tuple #[.int .i64 x,.int .i64 y,.bool bb]∧RngF zs n ls q p0 p1 p2 p3 b1 q0 q1 q2 q3 b2 x y bb:=by
 have f0:∀ {p:Prop},false=true→p:=fun h=>by cases h
 by_cases hT:0<thrN zs n ls q
 ·have hl:lstB zs n ls q=true:=decide_eq_true hT
  obtain ⟨m,hlen,hall⟩:=cornL_thr (rowsZ zs n ls q) (rowsN zs n ls q);have hmT:m=thrN zs n ls q:=by unfold thrN cornN; omega
  have hthr:∀ j,j<thrN zs n ls q→thrB (nth (thrL zs n ls q) (j*4)) (nth (thrL zs n ls q) (j*4+1)) (nth (thrL zs n ls q) (j*4+2)) (nth (thrL zs n ls q) (j*4+3))=true:=fun j hj=>hall j (by omega)
  have hst:∀ j,j<thrN zs n ls q→stB zs n ls q (nth (thrL zs n ls q) (j*4)) (nth (thrL zs n ls q) (j*4+1)) (nth (thrL zs n ls q) (j*4+2)) (nth (thrL zs n ls q) (j*4+3))=true:=fun j hj=>thr_stands hj
  have hk:=bstK_up (-1) (thrL zs n ls q) (thrN zs n ls q - 1);have hk2:=bstK_up 1 (thrL zs n ls q) (thrN zs n ls q - 1);have t1:thrB (bstV (-1) (thrL zs n ls q) (thrN zs n ls q - 1) 0) (bstV (-1) (thrL zs n ls q) (thrN zs n ls q - 1) 1) (bstV (-1) (thrL zs n ls q) (thrN zs n ls q - 1) 2) (bstV (-1) (thrL zs n ls q) (thrN zs n ls q - 1) 3)=true:=hthr _ (by omega);have t2:thrB (bstV 1 (thrL zs n ls q) (thrN zs n ls q - 1) 0) (bstV 1 (thrL zs n ls q) (thrN zs n ls q - 1) 1) (bstV 1 (thrL zs n ls q) (thrN zs n ls q - 1) 2) (bstV 1 (thrL zs n ls q) (thrN zs n ls q - 1) 3)=true:=hthr _ (by omega);have hmin:=bst_min hthr (thrN zs n ls q - 1) (by omega);have hmax:=bst_max hthr (thrN zs n ls q - 1) (by omega);have hpq:bstV (-1) (thrL zs n ls q) (thrN zs n ls q - 1) 0*bstV 1 (thrL zs n ls q) (thrN zs n ls q - 1) 3≤bstV 1 (thrL zs n ls q) (thrN zs n ls q - 1) 0*bstV (-1) (thrL zs n ls q) (thrN zs n ls q - 1) 3:=hmin _ hk2;rw [endV_t hl];have hmix:∀ (Q0 Q1 Q2 Q3:Int) (b2:Bool),(b2=true→thrB Q0 Q1 Q2 Q3=true∧∀ j,j<thrN zs n ls q→nth (thrL zs n ls q) (j*4)*Q3≤Q0*nth (thrL zs n ls q) (j*4+3)) →
    ∀ j,j<thrN zs n ls q→∀ m0 m1 m2 m3,mixV (nth (thrL zs n ls q) (j*4)) (nth (thrL zs n ls q) (j*4+1)) (nth (thrL zs n ls q) (j*4+2)) (nth (thrL zs n ls q) (j*4+3)) (nth (thrL zs n ls q) 0) (nth (thrL zs n ls q) 1) (nth (thrL zs n ls q) 2) (nth (thrL zs n ls q) 3) = .tuple #[.agg #[.int .i64 m0,.int .i64 m1,.int .i64 m2,.int .i64 m3],.bool true] →
    stB zs n ls q m0 m1 m2 m3=true∧¬ cmpT (bstV (-1) (thrL zs n ls q) (thrN zs n ls q - 1) 0) (bstV (-1) (thrL zs n ls q) (thrN zs n ls q - 1) 1) (bstV (-1) (thrL zs n ls q) (thrN zs n ls q - 1) 2) (bstV (-1) (thrL zs n ls q) (thrN zs n ls q - 1) 3) m0 m1 m2 m3 > 0∧(b2=true→¬ cmpT Q0 Q1 Q2 Q3 m0 m1 m2 m3<0):=by
   intro Q0 Q1 Q2 Q3 b2 hQ j hj m0 m1 m2 m3 hm;obtain ⟨w0,w1,w2,w3,wb,hw,hwb⟩:=mixV_ex (nth (thrL zs n ls q) (j*4)) (nth (thrL zs n ls q) (j*4+1)) (nth (thrL zs n ls q) (j*4+2)) (nth (thrL zs n ls q) (j*4+3)) (nth (thrL zs n ls q) 0) (nth (thrL zs n ls q) 1) (nth (thrL zs n ls q) 2) (nth (thrL zs n ls q) 3);obtain ⟨u0,u1,u2,u3,u4⟩:=tupR_inj (hw.symm.trans hm);obtain ⟨_,hkB,v0,v1,v2,v3⟩:=hwb u4;rw [← u0,← u1,← u2,← u3,v0,v1,v2,v3];have s0:=hst 0 hT;have z0:=hthr 0 hT;simp only [Nat.zero_mul,Nat.zero_add] at s0 z0;obtain ⟨ht,hs,hlow,hhigh⟩:=mix_stands (hst j hj) s0 (hthr j hj) z0 rfl rfl rfl rfl hkB;have g1:=hmin j (by omega);have g2:=hmin 0 (by omega);simp only [Nat.zero_mul,Nat.zero_add] at g2;refine ⟨hs,cmp_ng t1 ht (hlow _ _ (by have:=(thrB_out t1).1.1; omega) g1 g2),fun hb => ?_⟩
   obtain ⟨tQ,hQj⟩:=hQ hb;have g3:=hQj 0 hT;simp only [Nat.zero_mul,Nat.zero_add] at g3;exact cmp_nl tQ ht (hhigh _ _ (by have:=(thrB_out tQ).1.1; omega) (hQj j hj) g3)
  have hone:decide (0<(thrN zs n ls q:Int))=true:=decide_eq_true (by omega);have hlo:∀ j,j<thrN zs n ls q→¬ cmpT (bstV (-1) (thrL zs n ls q) (thrN zs n ls q - 1) 0) (bstV (-1) (thrL zs n ls q) (thrN zs n ls q - 1) 1) (bstV (-1) (thrL zs n ls q) (thrN zs n ls q - 1) 2) (bstV (-1) (thrL zs n ls q) (thrN zs n ls q - 1) 3) (nth (thrL zs n ls q) (j*4)) (nth (thrL zs n ls q) (j*4+1)) (nth (thrL zs n ls q) (j*4+2)) (nth (thrL zs n ls q) (j*4+3)) > 0:=fun j hj=>cmp_ng t1 (hthr j hj) (hmin j (by omega))
  cases hsb:strB zs n
  ·have hg:grtB zs n ls q=true:=(grt_3 hsb).trans (decide_eq_true hT)
   rw [endV_t hg];have hhi:∀ j,j<thrN zs n ls q→nth (thrL zs n ls q) (j*4)*bstV 1 (thrL zs n ls q) (thrN zs n ls q - 1) 3≤bstV 1 (thrL zs n ls q) (thrN zs n ls q - 1) 0*nth (thrL zs n ls q) (j*4+3):=fun j hj=>hmax j (by omega)
   cases hok:sprOk (bstV (-1) (thrL zs n ls q) (thrN zs n ls q - 1) 3) (bstV 1 (thrL zs n ls q) (thrN zs n ls q - 1) 3) true true
   ·exact ⟨_,_,_,_,_,_,_,_,_,_,0,0,false,rfl,rfl,by simp [sprV,hok],⟨hone,by rw [hsb]; rfl,fun _=>t1,fun _=>t2,hlo,fun _ j hj=>cmp_nl t2 (hthr j hj) (hhi j hj),hmix _ _ _ _ _ (fun _=>⟨t2,hhi⟩),fun h=>f0 h⟩⟩
   ·exact ⟨_,_,_,_,_,_,_,_,_,_,_,_,true,rfl,rfl,by simp [sprV,hok],⟨hone,by rw [hsb]; rfl,fun _=>t1,fun _=>t2,hlo,fun _ j hj=>cmp_nl t2 (hthr j hj) (hhi j hj),hmix _ _ _ _ _ (fun _=>⟨t2,hhi⟩),fun _=>⟨rfl,spr_out t1 t2 hpq hok rfl rfl⟩⟩⟩
  ·have hg:grtB zs n ls q=false:=grt_2 hsb
   rw [endV_f hg];exact ⟨_,_,_,_,_,_,_,_,_,_,0,0,false,rfl,rfl,sprV_2 _ _ _ _ _,⟨hone,by rw [hsb]; rfl,fun _=>t1,fun h=>f0 h,hlo,fun h=>f0 h,hmix _ _ _ _ _ (fun h=>f0 h),fun h=>f0 h⟩⟩
 ·have hT0:thrN zs n ls q=0:=by omega
  have hl:lstB zs n ls q=false:=decide_eq_false hT;rw [endV_f hl,endV_f (grt_1 hT0)];exact ⟨_,_,_,_,_,_,_,_,_,_,0,0,false,rfl,rfl,sprV_1 _ _ _ _ _,⟨decide_eq_false (by omega),rfl,fun h=>f0 h,fun h=>f0 h,fun j hj=>absurd hj (by omega),fun h=>f0 h,fun j hj=>absurd hj (by omega),fun h=>f0 h⟩⟩
theorem flat_str:strB [0,0,0,3,4,0,4,3,8,0,8,3] 3=true :=
 strB_of_line (u:=0) (v:=4) (by decide +kernel) (by omega) (by omega) (by decide +kernel) (by decide +kernel)
end X
end Go.Proofs.YtpblihmhpalkfaaGreat
