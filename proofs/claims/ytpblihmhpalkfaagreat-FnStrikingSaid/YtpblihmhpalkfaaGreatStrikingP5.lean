/-
  Texts that the law stands on, part 5.
-/
import Derived.Test.YtpblihmhpalkfaaGreatStrikingP3
import Derived.Test.YtpblihmhpalkfaaGreatStrikingP4
set_option maxRecDepth 100000
set_option linter.unusedVariables false
set_option linter.unusedSimpArgs false
namespace Go.Proofs.YtpblihmhpalkfaaGreat
namespace X
open Go.RowKit Go.Maps
theorem nxtF_ex {p:Nat→Bool}:∀ t k,(∃ x,k≤x∧x<k+t∧p x=true)→p (nxtF p t k)=true∧nxtF p t k<k+t∧∀ j,k≤j→j<nxtF p t k→p j=false
 | 0,k,⟨x,h1,h2,_⟩=>absurd h2 (by omega)
 | t+1,k,⟨x,h1,h2,h3⟩=>by
  unfold nxtF;by_cases e:p k=true
  ·rw [if_pos e]
   exact ⟨e,by omega,fun j h4 h5=>absurd h5 (by omega)⟩
  ·rw [if_neg e]
   have hx:k+1≤x:=by
    rcases Nat.eq_or_lt_of_le h1 with q | q
    ·subst q; exact absurd h3 e
    ·exact q
   have ih:=nxtF_ex (p:=p) t (k+1) ⟨x,hx,by omega,h3⟩;refine ⟨ih.1,by have:=ih.2.1; omega,fun j h4 h5 => ?_⟩
   rcases Nat.eq_or_lt_of_le h4 with q | q
   ·subst q; simpa using e
   ·exact ih.2.2 j (by omega) h5
theorem nxt_ex {ok:Nat→Bool} {S:Nat} (h:¬ ∀ j,j<6→hit ok S j=false):hit ok S (nxt ok S)=true∧nxt ok S<6∧∀ j,j<nxt ok S→hit ok S j=false:=by
 have hx:∃ x,0≤x∧x<0+6∧hit ok S x=true:=by
  refine Classical.byContradiction fun hn=>h fun j hj => ?_
  cases e:hit ok S j
  ·rfl
  ·exact absurd ⟨j,Nat.zero_le _,by omega,e⟩ hn
 have h1:=nxtF_ex 6 0 hx;exact ⟨h1.1,by have:=h1.2.1; unfold nxt; omega,fun j hj=>h1.2.2 j (Nat.zero_le _) hj⟩
theorem fat_all {ok:Nat→Bool} {F:Nat} (h:0<way ok F) (hF:F<64):∀ i,i≤pc F→FAt ok F i (stF ok F i)
 | 0,_=>FAt.start h hF
 | i+1,hi=>by
  have ih:=fat_all h hF i (by omega);have h0:stF ok F i ≠ 0:=by
   intro e;have:=ih.num;rw [e] at this;have h0:pc 0=0:=by decide
   omega
  have hn:=nxt_ex (hit_ex ih.on h0);exact (ih.step hn.2.1 hn.1 hn.2.2).1
theorem fat_hit {ok:Nat→Bool} {F i:Nat} (h:0<way ok F) (hF:F<64) (hi:i<pc F):hit ok (stF ok F i) (nxt ok (stF ok F i))=true∧nxt ok (stF ok F i)<6:=by
 have ih:=fat_all h hF i (by omega);have h0:stF ok F i ≠ 0:=by
  intro e;have:=ih.num;rw [e] at this;have h0:pc 0=0:=by decide
  omega
 have hn:=nxt_ex (hit_ex ih.on h0);exact ⟨hn.1,hn.2.1⟩
theorem pikL_at {ok:Nat→Bool} {F:Nat}:∀ {k i:Nat},i<k→nth (pikL ok F k) i=(nxt ok (stF ok F i):Int)
 | 0,i,h=>absurd h (by omega)
 | k+1,i,h=>by
  have hl:=pikL_len ok F k;rw [nth_get _ i (by rw [pikL_len]; exact h)];simp only [pikL];by_cases e:i=k
  ·subst e
   rw [List.getElem_append_right (by omega)];simp [hl]
  ·have h2:=pikL_at (ok:=ok) (F:=F) (k:=k) (i:=i) (by omega)
   rw [nth_get _ i (by omega)] at h2;rw [List.getElem_append_left (by omega)];exact h2
theorem pc_full_fin:∀ m:Fin 7,pc (p2 m.val - 1)=m.val:=by decide +kernel
theorem pc_full {m:Nat} (h:m≤6):pc (p2 m - 1)=m:=pc_full_fin ⟨m,by omega⟩
theorem way_ok {ok:Nat→Bool} {S:Nat} (h:0<way ok S):ok S=true:=by
 cases e:ok S
 ·rw [way_no e] at h; omega
 ·rfl
theorem bit_lt {S j m:Nat} (hS:S<p2 m) (hb:S / p2 j % 2=1):j<m:=by
 rcases Nat.lt_or_ge j m with e | e
 ·exact e
 ·have h1:=p2_in hb
  obtain ⟨d,rfl⟩:=Nat.exists_eq_add_of_le e;have:=p2_add m d;omega
theorem find_len {ok:Nat→Bool} {m:Nat} (hm6:m≤6):(findL ok (p2 m - 1)).length=m:=by unfold findL; rw [pikL_len,pc_full hm6]
theorem stF_lt {ok:Nat→Bool} {m:Nat}:∀ i,stF ok (p2 m - 1) i<p2 m
 | 0=>by have:=p2_pos m; unfold stF; omega
 | i+1=>by have:=stF_lt (ok:=ok) (m:=m) i; unfold stF; omega
theorem find_at {ok:Nat→Bool} {m:Nat} (hm6:m≤6) {i:Nat} (hi:i<m):nth (findL ok (p2 m - 1)) i=(nxt ok (stF ok (p2 m - 1) i):Int):=by
 unfold findL;rw [pc_full hm6];exact pikL_at hi
section
variable {ok : Nat → Bool} {m : Nat} (hm6 : m ≤ 6) (h : 0 < way ok (p2 m - 1))
include hm6 h
theorem find_bit {i:Nat} (hi:i<m):stF ok (p2 m - 1) i / p2 (nxt ok (stF ok (p2 m - 1) i)) % 2=1∧nxt ok (stF ok (p2 m - 1) i)<m∧0<way ok (stF ok (p2 m - 1) (i+1)):=by
 have hp:=p2_6 hm6;have hpp:=p2_pos m;have h1:=fat_hit h (by omega) (i:=i) (by rw [pc_full hm6]; exact hi);have h2:=hit_out h1.1;exact ⟨h2.1,bit_lt (stF_lt i) h2.1,h2.2⟩
theorem find_seq:∀ i,i≤m→seqS (findL ok (p2 m - 1)) m i=stF ok (p2 m - 1) i
 | 0,_=>rfl
 | i+1,hi=>by
  have hb:=find_bit hm6 h (i:=i) (by omega);rw [seqS,find_seq i (by omega),find_at hm6 (by omega),Int.toNat_natCast];unfold delB;rw [if_pos (by simp [bitS,hb.1])];rfl
theorem find_okS:∀ i,i≤m→okS ok (findL ok (p2 m - 1)) m i=true
 | 0,_=>rfl
 | i+1,hi=>by
  have hb:=find_bit hm6 h (i:=i) (by omega);refine okS_on (find_okS i (by omega)) ?_ ?_
  ·unfold inS
   rw [find_seq hm6 h i (by omega),find_at hm6 (by omega),Int.toNat_natCast,Bool.and_eq_true,inB_iff];exact ⟨by omega,by simp [bitS,hb.1]⟩
  ·rw [find_seq hm6 h (i+1) hi]
   exact way_ok hb.2.2
theorem find_strike (hm1:1≤m):strikeB ok (findL ok (p2 m - 1)) m=true :=
 strike_t (by omega) (find_len hm6) (way_ok h) (find_okS hm6 h m (Nat.le_refl _))
theorem find_end:ok 0=true:=by
 have hp:=p2_6 hm6;have hpp:=p2_pos m;have h1:=fat_all h (by omega) m (by rw [pc_full hm6]; exact Nat.le_refl _);have h2:=h1.num;rw [pc_full hm6] at h2;have hp0:pc (stF ok (p2 m - 1) m)=0:=by omega
 have h0:stF ok (p2 m - 1) m=0:=pc_0 ⟨_,h1.lt⟩ hp0;have h3:=way_ok h1.on;rw [h0] at h3;exact h3
end
def fac:Nat→Nat
 | 0=>1
 | k+1=>fac k*(k+1)
theorem fac_pos:∀ k,1≤fac k
 | 0=>Nat.le_refl _
 | k+1=>Nat.le_trans (fac_pos k) (Nat.le_mul_of_pos_right _ (by omega))
theorem sumK_cnt {f:Nat→Nat} {s B:Nat}:∀ k,(∀ j,j<k→s / p2 j % 2=1→f (s - p2 j)≤B)→sumK f s k≤(setL s k).length*B
 | 0,_=>Nat.zero_le _
 | k+1,h=>by
  have ih:=sumK_cnt k (fun j hj=>h j (by omega));by_cases hb:s / p2 k % 2=1
  ·have:=h k (by omega) hb
   rw [sumK_yes hb,setL_yes hb,List.length_append,Nat.add_mul];simp only [List.length_singleton];omega
  ·rw [sumK_no hb,setL_no hb]; exact ih
theorem way_fac {ok : Nat → Bool} : ∀ l s, s < 64 → pc s = l → way ok s ≤ fac l
  | 0, s, hs, hl => by
    have e : s = 0 := pc_0 ⟨s, hs⟩ hl;subst e;cases hk : ok 0
    · rw [way_no hk]; exact Nat.zero_le _
    · rw [way_yes hk]
      have h1 : sumK (way ok) 0 6 = 0 := by simp [sumK]
      rw [h1, if_pos rfl]; exact fac_pos 0
  | l + 1, s, hs, hl => by
    cases hk : ok s
    · rw [way_no hk]; exact Nat.zero_le _
    · have h0 : s ≠ 0 := fun e => by rw [e] at hl; have : pc 0 = 0 := by decide
                                     omega
      rw [way_yes hk, if_neg h0];have h1 := sumK_cnt (f := way ok) (s := s) (B := fac l) 6 (fun j hj hb => by
        have hp := pc_less hs hj hb;have := (p2_in hb).2;exact way_fac l (s - p2 j) (by omega) (by omega))
      have h2 : (setL s 6).length = l + 1 := hl;rw [h2] at h1;have h3 : fac (l + 1) = (l + 1) * fac l := Nat.mul_comm _ _;omega
theorem str_fac {zs:List Int} {n:Nat}:strN zs n≤fac (cstN zs n):=by
 unfold strN;split
 ·rename_i h
  have hp:=p2_6 h.2;have hpp:=p2_pos (cstN zs n);exact way_fac _ _ (by omega) (pc_full h.2)
 ·exact Nat.zero_le _
theorem fac_le {m:Nat} (h:m≤7):fac m≤5040:=by
 have:∀ x:Fin 8,fac x.val≤5040:=by decide +kernel
 exact this ⟨m,by omega⟩
theorem pickL_mem {f:Nat→Bool} {cs:List Int}:∀ {k i:Nat},i<(pickL f cs k).length→∃ p,p<k∧f p=true∧nth (pickL f cs k) i=nth cs p
 | 0,i,h=>by simp [pickL] at h
 | k+1,i,h=>by
  cases hf:f k
  ·rw [pickL_no hf] at h ⊢
   obtain ⟨p,h1,h2,h3⟩:=pickL_mem h;exact ⟨p,by omega,h2,h3⟩
  ·by_cases hi:i<(pickL f cs k).length
   ·obtain ⟨p,h1,h2,h3⟩:=pickL_mem hi
    refine ⟨p,by omega,h2,?_⟩;rw [nth_get _ i h];simp only [pickL_yes hf];rw [List.getElem_append_left hi,← nth_get _ i hi];exact h3
   ·have e:i=(pickL f cs k).length:=by rw [pickL_yes hf] at h; simp at h; omega
    refine ⟨k,by omega,hf,?_⟩;rw [nth_get _ i h];simp only [pickL_yes hf];rw [List.getElem_append_right (by omega)];simp [e]
theorem pickL_has {f:Nat→Bool} {cs:List Int} {p:Nat} (hf:f p=true):∀ {k:Nat},p<k→∃ i,i<(pickL f cs k).length∧nth (pickL f cs k) i=nth cs p
 | 0,h=>absurd h (by omega)
 | k+1,h=>by
  by_cases e:p=k
  ·subst e
   refine ⟨(pickL f cs p).length,by rw [pickL_yes hf]; simp,?_⟩
   rw [pickL_yes hf,nth_get _ _ (by simp)];simp
  ·obtain ⟨i,h1,h2⟩:=pickL_has hf (k:=k) (by omega)
   cases hk:f k
   ·rw [pickL_no hk]; exact ⟨i,h1,h2⟩
   ·refine ⟨i,by rw [pickL_yes hk,List.length_append]; omega,?_⟩
    rw [pickL_yes hk,nth_get _ i (by simp; omega),List.getElem_append_left h1,← nth_get _ i h1]
    exact h2
section
variable {zs : List Int} {n : Nat} (hA : archB zs n = true)
include hA
theorem safe_all:safeL zs n (allN (n - 1))=pickL (safeB zs n (allN (n - 1))) (allN (n - 1)) (n - 1):=by
 have hc:=carried_all hA;have hl:=allN_len (n - 1);rw [safeL_t (by rw [hl]; exact hc),hl]
theorem safe_stands {i:Nat} (hi:i<(safeL zs n (allN (n - 1))).length):stgB zs n (woL (allN (n - 1)) (nth (safeL zs n (allN (n - 1))) i) (n - 1)) (woL (allN (n - 1)) (nth (safeL zs n (allN (n - 1))) i) (n - 1)).length=true:=by
 have hc:=carried_all hA;have hl:=allN_len (n - 1);rw [safe_all hA] at hi ⊢;obtain ⟨p,h1,h2,h3⟩:=pickL_mem hi;rw [h3];have hw:=carried_wo (zs:=zs) (n:=n) (cs:=allN (n - 1)) (i:=p) (by rw [hl]; exact hc) (by omega);rw [hl] at hw;rw [hw];unfold safeB at h2;rw [hl] at h2;rw [List.length_eraseIdx_of_lt (by omega),hl];exact h2
theorem trap_all:trapB zs n (allN (n - 1))=decide (((safeL zs n (allN (n - 1))).length:Int)=0):=by
 have hl:=allN_len (n - 1);have:=(archB_out hA).1;exact trap_4 (by rw [hl]; exact carried_all hA) (by rw [hl]; exact stands_all hA) (by omega)
theorem find_next (h:0<strN zs n):hasI (safeL zs n (allN (n - 1))) (nth (fndL zs n) 0) (safeL zs n (allN (n - 1))).length=true:=by
 have hcs:cstN zs n=n - 1:=cstN_t hA;have hn:=(archB_out hA).1;have hin:1≤cstN zs n∧cstN zs n≤6:=by
  unfold strN at h;split at h
  ·assumption
  ·omega
 have hw:0<way (setB zs n) (p2 (cstN zs n) - 1):=by
  unfold strN at h;rw [if_pos hin] at h;exact h
 have hst:stgC zs n=p2 (cstN zs n):=by unfold stgC; rw [if_pos hin]
 rw [(fnd_yes h).2,hst,find_at hin.2 (show 0<cstN zs n by omega)];have hb:=find_bit hin.2 hw (i:=0) (by omega);generalize hz:nxt (setB zs n) (stF (setB zs n) (p2 (cstN zs n) - 1) 0)=z at hb ⊢;have hs:stF (setB zs n) (p2 (cstN zs n) - 1) 1=p2 (cstN zs n) - 1 - p2 z:=by
  show stF (setB zs n) (p2 (cstN zs n) - 1) 0 - p2 (nxt (setB zs n) (stF (setB zs n) (p2 (cstN zs n) - 1) 0))=_
  rw [hz]; rfl
 have hok:=way_ok hb.2.2;rw [hs] at hok;have hb1:(p2 (cstN zs n) - 1) / p2 z % 2=1:=hb.1;rw [hcs] at hb hok hb1 hin;have hp6:=p2_6 hin.2;have hpp:=p2_pos (n - 1);have hset:=wo_set (s:=p2 (n - 1) - 1) (m:=n - 1) (z:=z) (by omega) (by omega) hb.2.1 (by simp [bitS,hb1]);have hdel:delB (p2 (n - 1) - 1) z=p2 (n - 1) - 1 - p2 z:=by unfold delB; rw [if_pos (by simp [bitS,hb1])]
 have hfull:=setL_full (n - 1) (n - 1) (Nat.le_refl _);have hl:=allN_len (n - 1);rw [hfull,hdel,hl] at hset;have hnz:nth (allN (n - 1)) z=(z:Int):=allN_at hb.2.1;have hwo:=carried_wo (zs:=zs) (n:=n) (cs:=allN (n - 1)) (i:=z) (by rw [hl]; exact carried_all hA) (by omega);rw [hl,hnz,hset.1] at hwo;have hsafe:safeB zs n (allN (n - 1)) z=true:=by
  unfold safeB;rw [← hwo,hl];unfold setB at hok;rw [hcs] at hok;have e:(setL (p2 (n - 1) - 1 - p2 z) (n - 1)).length=n - 1 - 1:=by have:=hset.2; omega
  rw [e] at hok;exact hok
 rw [safe_all hA];obtain ⟨i,h1,h2⟩:=pickL_has (cs:=allN (n - 1)) hsafe (k:=n - 1) hb.2.1;exact (hasI_iff _ _ _).2 ⟨i,h1,by rw [h2,hnz]⟩
theorem find_facts (h:0<strN zs n):(fndL zs n).length=n - 1∧strkB zs n (fndL zs n)=true∧stgB zs n [] 0=true:=by
 have hcs:cstN zs n=n - 1:=cstN_t hA;have hin:1≤cstN zs n∧cstN zs n≤6:=by
  unfold strN at h;split at h
  ·assumption
  ·omega
 have hw:0<way (setB zs n) (p2 (cstN zs n) - 1):=by
  unfold strN at h;rw [if_pos hin] at h;exact h
 have hst:stgC zs n=p2 (cstN zs n):=by unfold stgC; rw [if_pos hin]
 rw [(fnd_yes h).2,hst];refine ⟨by rw [find_len hin.2,hcs],find_strike hin.2 hw hin.1,?_⟩;rw [← setB_0];exact find_end hin.2 hw
end
end X
end Go.Proofs.YtpblihmhpalkfaaGreat
