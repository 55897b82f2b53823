/-
  Texts that the law stands on, part 18.
-/
import Derived.Test.YtjcgklifabcfkaaGreatV17
set_option maxRecDepth 100000
set_option linter.unusedVariables false
set_option linter.unusedSimpArgs false
set_option maxHeartbeats 12800000
namespace Go.Proofs.YtjcgklifabcfkaaGreat
namespace X
open Go.RowKit
theorem sGcd_any (a b:Int) (w:World) (ha:okG a) (hb:okG b) :
  Calls Tryzx.prog 152 #[.int .i64 a,.int .i64 b] w fun e w'=>e = .returned (.int .i64 (Nat.gcd a.natAbs b.natAbs:Nat))/\∃ n,w'=w.drewN n:=by
 go_enter Tryzx.func152,Tryz.ntmps152;go_wp2;go_loopw [0,1] (fun x y wr=>∃ (x1 y1:Int),x = .int .i64 x1/\y = .int .i64 y1/\Hid (Nat.gcd x1.natAbs y1.natAbs=Nat.gcd a.natAbs b.natAbs)/\okG x1/\okG y1/\Hid (∃ n,wr=w.drewN n)) (fun _ y _=>(intOf y).natAbs)
 case atStart=>exact ⟨a,b,rfl,rfl,q_ rfl,ha,hb,⟨0,rfl⟩⟩
 case round =>
  obtain ⟨x1,y1,rfl,rfl,HG,hx,hy,HW⟩:=hrel;by_cases h0:y1=0
  ·subst h0
   have HF:Hid ((x1.natAbs:Int)=(Nat.gcd a.natAbs b.natAbs:Nat)):=by
    have h:=HG.out;simp only [Int.natAbs_zero,Nat.gcd_zero_right] at h;show _=_
    rw [h]
   have hn:=okG_neg hx;clear HG;go_wp2;all_goals
    go_ret;exact ⟨ret_int (by have:=HF.out; omega),HW.out⟩
  ·have hd:(y1 != 0)=true:=by simp [h0]
   have hd0:(y1 == 0)=false:=by simp [h0]
   have HG2:Hid (Nat.gcd y1.natAbs (Int.tmod x1 y1).natAbs=Nat.gcd a.natAbs b.natAbs):=by
    show _=_
    rw [gcd_round_i]; exact HG.out
   have HM:Hid ((Int.tmod x1 y1).natAbs<y1.natAbs):=tmod_lt h0;have ho:=okG_tmod (a:=x1) h0 hy;clear HG;go_wp2;go_quiet (fail)
   go_wp2;go_roundw
   case rel=>exact ⟨_,_,rfl,rfl,HG2,hy,ho,by obtain ⟨n,rfl⟩:=HW.out; exact q_ ⟨_,World.drewN_drewN _ _ _⟩⟩
   case measure=>simp only [intOf]; exact HM.out
theorem magnitude_any (a:Int) (w:World) (ha:okG a):Calls Tryzx.prog 148 #[.int .i64 a] w fun e w'=>e = .returned (.int .u64 (a.natAbs:Nat))/\w=w':=by
 go_enter Tryzx.func148,Tryz.ntmps148;go_wp2;all_goals
  go_ret;first
  | exact ⟨ret_int (u64_neg ha (by assumption)),rfl⟩
  | exact ⟨ret_int (u64_pos ha (by assumption)),rfl⟩
theorem commonDivisor_any (A:Option Addr) (n c:Nat) (L:List Int) (w:World) (h:IntsAt w w.heap.size A n L) (hn:n<=1048576) (hL:∀ k,okG (nth L k)) :
  Calls Tryzx.prog 113 #[.slice A n c] w fun e w'=>e = .returned (.int .i64 (gcdTo L n:Nat))/\∃ n,w'=w.drewN n:=by
 have H:=q_ h;have HL:=q_ hL;have HGL:Hid (∀ k,okU (gcdTo L k)):=fun k=>okU_gcdTo hL k
 clear h hL;go_enter Tryzx.func113,Tryz.ntmps113;go_wp2;go_loopw [3,9] (fun x i wr=>∃ (k:Nat),k<=n/\i = .int .i64 k/\x = .int .u64 (gcdTo L k:Nat)/\Hid (∃ n,wr=w.drewN n)) (fun _ i _=>n - (intOf i).toNat)
 case atStart=>exact ⟨0,Nat.zero_le _,rfl,rfl,q_ ⟨0,rfl⟩⟩
 case round =>
  obtain ⟨k,hk,rfl,rfl,HW⟩:=hrel;by_cases hlt:k<n
  ·obtain ⟨b,off,rfl,hbB,hc⟩:=H.out.2 (by omega)
   have x0:wr.cell? ⟨b,off+k,none⟩=some (.int .i64 (nth L k)):=by
    obtain ⟨n',rfl⟩:=HW.out;exact hc k hlt
   have ho:=HL.out k;have HS:Hid (gcdTo L (k+1)=Nat.gcd (gcdTo L k) (nth L k).natAbs):=rfl;have hu:=HGL.out k;have hm:=okU_nat ho;clear hc;go_wp2_with fail
   refine (magnitude_any _ _ ho).mono ?_;rintro e w' ⟨rfl,rfl⟩;generalize gcdTo L k=d0 at *
   generalize (nth L k).natAbs=m0 at *
   go_wp2;go_loopw [3,6] (fun x y wr=>∃ (d m:Nat),x = .int .u64 d/\y = .int .u64 m/\Hid (Nat.gcd d m=Nat.gcd d0 m0)/\okU d/\okU m/\Hid (∃ n,wr=w.drewN n)) (fun _ y _=>(intOf y).toNat)
   case atStart=>exact ⟨d0,m0,rfl,rfl,q_ rfl,hu,hm,HW⟩
   case round =>
    clear HW hu hm;obtain ⟨d,m,rfl,rfl,HG,hd,hm,HW⟩:=hrel;by_cases h0:m=0
    ·subst h0
     have HF:Hid (gcdTo L (k+1)=d):=by
      have h:=HG.out;rw [Nat.gcd_zero_right] at h;show _=_
      rw [HS.out,h]
     clear HG hm;go_wp2;go_roundw
     case rel=>exact ⟨k+1,by omega,by go_num,by rw [HF.out],HW⟩
     case measure=>simp [intOf]; omega
    ·have hd1:((m:Int) != 0)=true:=by simp [h0]
     have hd2:((m:Int) == 0)=false:=by simp [h0]
     have hd3:¬ (m:Int)=0:=by omega
     have he:Int.tmod (d:Int) (m:Int)=((d % m:Nat):Int):=by rw [Int.tmod_eq_emod_of_nonneg (by omega)]; rfl
     have HG2:Hid (Nat.gcd m (d % m)=Nat.gcd d0 m0):=by
      show _=_
      rw [gcd_round]; exact HG.out
     have HM:Hid (d % m<m):=Nat.mod_lt _ (by omega);have ho2:=okU_mod (d:=d) h0 hm;clear HG;go_wp2;go_quiet (fail)
     go_wp2;go_roundw
     case rel=>exact ⟨m,d % m,rfl,rfl,HG2,hm,ho2,by obtain ⟨n,rfl⟩:=HW.out; exact q_ ⟨_,World.drewN_drewN _ _ _⟩⟩
     case measure=>simp [intOf]; exact HM.out
  ·obtain rfl:n=k:=by omega
   have hu:=u64_to_i64 (HGL.out n);go_wp2;go_ret;exact ⟨rfl,HW.out⟩
theorem okG_of {a:Int} (h : -10000000000000<=a/\a<=10000000000000):okG a:=by unfold okG; omega
theorem okG_gcd {a b:Int} (ha:okG a) (hb:okG b):okG (Nat.gcd a.natAbs b.natAbs:Nat):=by
 have h1:=okU_gcdTo (L := [a,b]) (fun k=>match k with | 0=>ha | 1=>hb | k+2=>by simp [nth,List.getD,okG]) 2;rw [gcdTo_2] at h1;unfold okU at h1;unfold okG;omega
theorem okG_nth4 {a b c d:Int} (ha:okG a) (hb:okG b) (hc:okG c) (hd:okG d):∀ k,okG (nth [a,b,c,d] k)
 | 0=>ha
 | 1=>hb
 | 2=>hc
 | 3=>hd
 | k+4=>by simp [nth,List.getD,okG]
theorem gcd_one (x:Nat):(((x:Nat):Int) == 1)=decide (x=1):=by
 rw [Bool.eq_iff_iff];simp;omega
theorem iThrustOk_any (H V M D:Int) (w:World) :
  Calls Tryzx.prog 89 #[.agg #[.int .i64 H,.int .i64 V,.int .i64 M,.int .i64 D]] w fun e w'=>e = .returned (.bool (thrB H V M D))/\Below w.heap.size w w':=by
 have HA:=q_ ((Below.refl w.heap.size w).alloc (Nat.le_refl _) (.cells #[.int .i64 H,.int .i64 V,.int .i64 M,.int .i64 D] 66));cases h1:inB D 1 1000000
 ·have HF:=q_ (thrB_1 H V M h1)
  go_enter Tryzx.func89,Tryz.ntmps89;go_wp2_with (go_at_call 43; refine (within_any _ _ _ _).mono ?_; rw [h1]; rintro e w' ⟨rfl,rfl⟩);go_ret;exact ⟨ret_bool HF.out.symm,HA.out⟩
 cases h2:inB H 0 1000000000000
 ·have HF:=q_ (thrB_2 V M D h2)
  go_enter Tryzx.func89,Tryz.ntmps89;go_wp2_with (go_at_call 43; refine (within_any _ _ _ _).mono ?_; (first | rw [h1] | rw [h2]); rintro e w' ⟨rfl,rfl⟩);go_ret;exact ⟨ret_bool HF.out.symm,HA.out⟩
 cases h3:inB V (-10000000000000) 10000000000000
 ·have HF:=q_ (thrB_3 H M D h3)
  go_enter Tryzx.func89,Tryz.ntmps89;go_wp2_with (go_at_call 43; refine (within_any _ _ _ _).mono ?_; (first | rw [h1] | rw [h2] | rw [h3]); rintro e w' ⟨rfl,rfl⟩);go_ret;exact ⟨ret_bool HF.out.symm,HA.out⟩
 cases h4:inB M (-10000000000000) 10000000000000
 ·have HF:=q_ (thrB_4 H V D h4)
  go_enter Tryzx.func89,Tryz.ntmps89;go_wp2_with (go_at_call 43; refine (within_any _ _ _ _).mono ?_; (first | rw [h1] | rw [h2] | rw [h3] | rw [h4]); rintro e w' ⟨rfl,rfl⟩);go_ret;exact ⟨ret_bool HF.out.symm,HA.out⟩
 have HT:Hid (decide (gcdTo [H,V,M,D] 4=1)=thrB H V M D):=by
  show _=_
  rw [thrB_t h1 h2 h3 h4,gcdTo_4]
 have HOK:Hid (∀ k,okG (nth [H,V,M,D] k)):=by
  have b1:=inB_iff.1 h1;have b2:=inB_iff.1 h2;have b3:=inB_iff.1 h3;have b4:=inB_iff.1 h4;exact okG_nth4 (okG_of (by omega)) (okG_of (by omega)) (okG_of (by omega)) (okG_of (by omega))
 go_enter Tryzx.func89,Tryz.ntmps89;go_wp2_with (go_at_call 43; refine (within_any _ _ _ _).mono ?_; (first | rw [h1] | rw [h2] | rw [h3] | rw [h4]); rintro e w' ⟨rfl,rfl⟩);have hx:IntsAt ((w.alloc (.cells #[.int .i64 H,.int .i64 V,.int .i64 M,.int .i64 D] 66)).alloc (.cells #[.int .i64 H,.int .i64 V,.int .i64 M,.int .i64 D] 3)) ((w.alloc (.cells #[.int .i64 H,.int .i64 V,.int .i64 M,.int .i64 D] 66)).alloc (.cells #[.int .i64 H,.int .i64 V,.int .i64 M,.int .i64 D] 3)).heap.size (some ⟨w.heap.size+1,0,none⟩) 4 [H,V,M,D]:=by
  have h:=intsAt_row (World.rowIs_alloc (w.alloc (.cells #[.int .i64 H,.int .i64 V,.int .i64 M,.int .i64 D] 66)) #[.int .i64 H,.int .i64 V,.int .i64 M,.int .i64 D] 3 (ints [H,V,M,D]) (fun j hj=>by simp at hj; match j,hj with | 0,_=>rfl | 1,_=>rfl | 2,_=>rfl | 3,_=>rfl)) (zs := [H,V,M,D]) (by simp) (fun k _=>rfl)
  simp only [World.size_alloc] at h ⊢;exact h
 refine (commonDivisor_any _ _ _ [H,V,M,D] _ (by exact hx) (by omega) HOK.out).mono ?_;rintro e w1 ⟨rfl,n1,rfl⟩;have HG:=q_ (gcd_one (gcdTo [H,V,M,D] 4));clear hx;generalize gcdTo [H,V,M,D] 4=g0 at *
 go_wp2;go_ret;exact ⟨ret_bool (by rw [<- HT.out]; first | exact HG.out | simp),below_drewN (HA.out.alloc (by simp) _) _⟩
theorem sThrustOk_any (H V M D:Int) (w:World) :
  Calls Tryzx.prog 121 #[.agg #[.int .i64 H,.int .i64 V,.int .i64 M,.int .i64 D]] w fun e w'=>e = .returned (.bool (thrB H V M D))/\Below w.heap.size w w':=by
 have HA:=q_ ((Below.refl w.heap.size w).alloc (Nat.le_refl _) (.cells #[.int .i64 H,.int .i64 V,.int .i64 M,.int .i64 D] 66));cases h1:inB D 1 1000000
 ·have HF:=q_ (thrB_1 H V M h1)
  go_enter Tryzx.func121,Tryz.ntmps121;go_wp2_with (go_at_call 52; refine (l01In_any _ _ _ _).mono ?_; rw [h1]; rintro e w' ⟨rfl,rfl⟩);go_ret;exact ⟨ret_bool HF.out.symm,HA.out⟩
 cases h2:inB H 0 1000000000000
 ·have HF:=q_ (thrB_2 V M D h2)
  go_enter Tryzx.func121,Tryz.ntmps121;go_wp2_with (go_at_call 52; refine (l01In_any _ _ _ _).mono ?_; (first | rw [h1] | rw [h2]); rintro e w' ⟨rfl,rfl⟩);go_ret;exact ⟨ret_bool HF.out.symm,HA.out⟩
 cases h3:inB V (-10000000000000) 10000000000000
 ·have HF:=q_ (thrB_3 H M D h3)
  go_enter Tryzx.func121,Tryz.ntmps121;go_wp2_with (go_at_call 52; refine (l01In_any _ _ _ _).mono ?_; (first | rw [h1] | rw [h2] | rw [h3]); rintro e w' ⟨rfl,rfl⟩);go_ret;exact ⟨ret_bool HF.out.symm,HA.out⟩
 cases h4:inB M (-10000000000000) 10000000000000
 ·have HF:=q_ (thrB_4 H V D h4)
  go_enter Tryzx.func121,Tryz.ntmps121;go_wp2_with (go_at_call 52; refine (l01In_any _ _ _ _).mono ?_; (first | rw [h1] | rw [h2] | rw [h3] | rw [h4]); rintro e w' ⟨rfl,rfl⟩);go_ret;exact ⟨ret_bool HF.out.symm,HA.out⟩
 have HT:Hid (decide (Nat.gcd (Nat.gcd H.natAbs V.natAbs) (Nat.gcd M.natAbs D.natAbs)=1)=thrB H V M D):=by
  show _=_
  rw [thrB_t h1 h2 h3 h4];rfl
 have b1:=inB_iff.1 h1;have b2:=inB_iff.1 h2;have b3:=inB_iff.1 h3;have b4:=inB_iff.1 h4;have o1:okG D:=okG_of (by omega);have o2:okG H:=okG_of (by omega);have o3:okG V:=okG_of (by omega);have o4:okG M:=okG_of (by omega);have o5:okG (Nat.gcd H.natAbs V.natAbs:Nat):=okG_gcd o2 o3;have o6:okG (Nat.gcd M.natAbs D.natAbs:Nat):=okG_gcd o4 o1;clear b1 b2 b3 b4;go_enter Tryzx.func121,Tryz.ntmps121;go_wp2_with (go_at_call 52; refine (l01In_any _ _ _ _).mono ?_; (first | rw [h1] | rw [h2] | rw [h3] | rw [h4]); rintro e w' ⟨rfl,rfl⟩);go_quiet ((go_at_call 152; exact Calls.quiet_of (sGcd_any _ _ _ (by assumption) (by assumption))));have HG:=q_ (gcd_one (Nat.gcd (Nat.gcd H.natAbs V.natAbs) (Nat.gcd M.natAbs D.natAbs)));go_wp2;go_ret;exact ⟨ret_bool (by rw [<- HT.out]; exact HG.out),below_drewN HA.out _⟩
end X
namespace X
open Go.RowKit
def thrV (h v m d:Int) (b:Bool):Value := .tuple #[.agg #[.int .i64 h,.int .i64 v,.int .i64 m,.int .i64 d],.bool b]
def mkV (h v m d:Int):Value:=thrV (mkI h v m d h) (mkI h v m d v) (mkI h v m d m) (mkI h v m d d) (mkB h v m d)
theorem mkV_f {h v m d:Int} (hb:mkB h v m d=false):mkV h v m d=thrV 0 0 0 0 false:=by simp only [mkV,mkI_f hb,hb]
theorem mkV_t {h v m d:Int} (hb:mkB h v m d=true):mkV h v m d=thrV (Int.tdiv h (mkG h v m d)) (Int.tdiv v (mkG h v m d)) (Int.tdiv m (mkG h v m d)) (Int.tdiv d (mkG h v m d)) true:=by simp only [mkV,mkI_t hb,hb]
theorem below_dr {B:Nat} {a w:World} (h:Below B a w):Below B a w.drew:=⟨h.os,h.tape,h.output,h.size,h.block⟩
theorem below_set4 {B:Nat} {a w:World} (h:Below B a w) {b:Nat} (hb:B<=b) (x y z u:Value):Below B a ((((w.setCell ⟨b,0,none⟩ x).setCell ⟨b,1,none⟩ y).setCell ⟨b,2,none⟩ z).setCell ⟨b,3,none⟩ u) :=
 ((((h.setCell hb _).setCell hb _).setCell hb _).setCell hb _)
theorem sMake_any (h v m d:Int) (w:World) :
  Calls Tryzx.prog 119 #[.int .i64 h,.int .i64 v,.int .i64 m,.int .i64 d] w fun e w'=>e = .returned (mkV h v m d)/\Below w.heap.size w w':=by
 have HA:=q_ ((Below.refl w.heap.size w).alloc (Nat.le_refl _) (.cells #[.int .i64 0,.int .i64 0,.int .i64 0,.int .i64 0] 66));by_cases h0:d=0
 ·have HF:=q_ (mkV_f (mkB_0 h v m h0))
  subst h0;go_enter Tryzx.func119,Tryz.ntmps119;go_wp2;refine bodyPost_ret (v:=thrV 0 0 0 0 false) (by simp [thrV,results,Tryz.results119,go_sem, *]) rfl ?_;exact ⟨by rw [HF.out],HA.out⟩
 have hd0:(d == 0)=false:=by simp [h0]
 cases h1:inB h (-4000000000000000000) 4000000000000000000
 ·have HF:=q_ (mkV_f (mkB_1 (h:=h) (v:=v) (m:=m) (d:=d) (by simp [mkBd,h1])))
  go_enter Tryzx.func119,Tryz.ntmps119;go_wp2_with (go_at_call 52; refine (l01In_any _ _ _ _).mono ?_; (first | rw [h1]); rintro e w' ⟨rfl,rfl⟩);refine bodyPost_ret (v:=thrV 0 0 0 0 false) (by simp [thrV,results,Tryz.results119,go_sem, *]) rfl ?_;exact ⟨by rw [HF.out],HA.out⟩
 cases h2:inB v (-4000000000000000000) 4000000000000000000
 ·have HF:=q_ (mkV_f (mkB_1 (h:=h) (v:=v) (m:=m) (d:=d) (by simp [mkBd,h1,h2])))
  go_enter Tryzx.func119,Tryz.ntmps119;go_wp2_with (go_at_call 52; refine (l01In_any _ _ _ _).mono ?_; (first | rw [h1] | rw [h2]); rintro e w' ⟨rfl,rfl⟩);refine bodyPost_ret (v:=thrV 0 0 0 0 false) (by simp [thrV,results,Tryz.results119,go_sem, *]) rfl ?_;exact ⟨by rw [HF.out],HA.out⟩
 cases h3:inB m (-4000000000000000000) 4000000000000000000
 ·have HF:=q_ (mkV_f (mkB_1 (h:=h) (v:=v) (m:=m) (d:=d) (by simp [mkBd,h1,h2,h3])))
  go_enter Tryzx.func119,Tryz.ntmps119;go_wp2_with (go_at_call 52; refine (l01In_any _ _ _ _).mono ?_; (first | rw [h1] | rw [h2] | rw [h3]); rintro e w' ⟨rfl,rfl⟩);refine bodyPost_ret (v:=thrV 0 0 0 0 false) (by simp [thrV,results,Tryz.results119,go_sem, *]) rfl ?_;exact ⟨by rw [HF.out],HA.out⟩
 cases h4:inB d (-4000000000000000000) 4000000000000000000
 ·have HF:=q_ (mkV_f (mkB_1 (h:=h) (v:=v) (m:=m) (d:=d) (by simp [mkBd,h1,h2,h3,h4])))
  go_enter Tryzx.func119,Tryz.ntmps119;go_wp2_with (go_at_call 52; refine (l01In_any _ _ _ _).mono ?_; (first | rw [h1] | rw [h2] | rw [h3] | rw [h4]); rintro e w' ⟨rfl,rfl⟩);refine bodyPost_ret (v:=thrV 0 0 0 0 false) (by simp [thrV,results,Tryz.results119,go_sem, *]) rfl ?_;exact ⟨by rw [HF.out],HA.out⟩
 have hbd:mkBd h v m d=true:=by simp [mkBd,h1,h2,h3,h4]
 obtain ⟨o1,o2,o3,o4⟩:=mkBd_out hbd;have o5:okG (Nat.gcd h.natAbs v.natAbs:Nat):=okG_gcd o1 o2;have o6:okG (Nat.gcd m.natAbs d.natAbs:Nat):=okG_gcd o3 o4;have o7:okG (gcd4 h v m d:Nat):=okG_gcd o5 o6;have HG4:=q_ (show ((Nat.gcd (Nat.gcd h.natAbs v.natAbs) (Nat.gcd m.natAbs d.natAbs):Nat):Int)=(gcd4 h v m d:Nat) from rfl);have o8:=okG_neg o7;have HNE:=q_ (mkG_ne h v m h0);have HT:Hid (mkT h v m d=thrB (Int.tdiv h (mkG h v m d)) (Int.tdiv v (mkG h v m d)) (Int.tdiv m (mkG h v m d)) (Int.tdiv d (mkG h v m d))):=rfl;have HGN:Hid (d<0->mkG h v m d = -(gcd4 h v m d:Int)):=q_ fun e=>by simp [mkG,e]
 have HGP:Hid (¬ d<0->mkG h v m d=(gcd4 h v m d:Int)):=q_ fun e=>by simp [mkG,e]
 have q1:=okG_wrap (tdiv_bd (g:=mkG h v m d) o1);have q2:=okG_wrap (tdiv_bd (g:=mkG h v m d) o2);have q3:=okG_wrap (tdiv_bd (g:=mkG h v m d) o3);have q4:=okG_wrap (tdiv_bd (g:=mkG h v m d) o4);have HMF:=q_ (fun e=>mkV_f (mkB_2 (h:=h) (v:=v) (m:=m) (d:=d) e));have HMT:=q_ (fun e=>mkV_t (mkB_t h0 hbd e));obtain ⟨G,hG⟩:∃ G,mkG h v m d=G:=⟨_,rfl⟩;rw [hG] at HNE HT HGN HGP q1 q2 q3 q4 HMT;have hg1:¬ G=0:=HNE.out;go_enter Tryzx.func119,Tryz.ntmps119;go_wp2_with (go_at_call 52; refine (l01In_any _ _ _ _).mono ?_; (first | rw [h1] | rw [h2] | rw [h3] | rw [h4]); rintro e w' ⟨rfl,rfl⟩);refine (sGcd_any _ _ _ o1 o2).mono ?_;rintro e w1 ⟨rfl,n1,rfl⟩;go_wp2_with fail
 refine (sGcd_any _ _ _ o3 o4).mono ?_;rintro e w1 ⟨rfl,n2,rfl⟩;go_wp2_with fail
 refine (sGcd_any _ _ _ o5 o6).mono ?_;rintro e w1 ⟨rfl,n3,rfl⟩;rw [Int.natAbs_natCast,Int.natAbs_natCast,HG4.out];have HV:Hid (RowF (w.alloc (.cells #[.int .i64 0,.int .i64 0,.int .i64 0,.int .i64 0] 66)) w.heap.size 66 4 (fun _ => .int .i64 0)) :=
  q_ (RowF.of_row (World.rowIs_alloc w #[.int .i64 0,.int .i64 0,.int .i64 0,.int .i64 0] 66 (fun _ => .int .i64 0) (fun i hi=>by simp at hi; match i,hi with | 0,_=>rfl | 1,_=>rfl | 2,_=>rfl | 3,_=>rfl)))
 have HV5:=q_ ((HV.out.drewN (n1+n2)).drewN n3);have HB5:=q_ (below_drewN (below_drewN HA.out (n1+n2)) n3);obtain ⟨w5,hw5⟩:∃ w5,((w.alloc (.cells #[.int .i64 0,.int .i64 0,.int .i64 0,.int .i64 0] 66)).drewN (n1+n2)).drewN n3=w5:=⟨_,rfl⟩;rw [hw5] at HV5 HB5 ⊢;clear hw5 HV HA HG4;by_cases hneg:d<0
 ·have o9:IntKind.i64.wrap (-(gcd4 h v m d:Int))=G:=by rw [o8,HGN.out hneg]
  clear o8;go_wp2;go_region
  have HV6:=q_ (HV5.out.after (below_dr ((Below.refl _ _).alloc (Nat.le_refl _) (.cells #[.int .i64 (h.tdiv G),.int .i64 (v.tdiv G),.int .i64 (m.tdiv G),.int .i64 (d.tdiv G)] 66))));have HB6:=q_ (below_dr (HB5.out.alloc HB5.out.size (.cells #[.int .i64 (h.tdiv G),.int .i64 (v.tdiv G),.int .i64 (m.tdiv G),.int .i64 (d.tdiv G)] 66)));have HX6:Hid (RowF (w5.alloc (.cells #[.int .i64 (h.tdiv G),.int .i64 (v.tdiv G),.int .i64 (m.tdiv G),.int .i64 (d.tdiv G)] 66)).drew w5.heap.size 66 4 (ints [h.tdiv G,v.tdiv G,m.tdiv G,d.tdiv G])) :=
   q_ (RowF.of_row (World.rowIs_alloc w5 #[.int .i64 (h.tdiv G),.int .i64 (v.tdiv G),.int .i64 (m.tdiv G),.int .i64 (d.tdiv G)] 66 (ints [h.tdiv G,v.tdiv G,m.tdiv G,d.tdiv G]) (fun i hi=>by simp at hi; match i,hi with | 0,_=>rfl | 1,_=>rfl | 2,_=>rfl | 3,_=>rfl)))
  obtain ⟨w6,hw6⟩:∃ w6,(w5.alloc (.cells #[.int .i64 (h.tdiv G),.int .i64 (v.tdiv G),.int .i64 (m.tdiv G),.int .i64 (d.tdiv G)] 66)).drew=w6:=⟨_,rfl⟩;rw [hw6] at HV6 HB6 HX6 ⊢;have x0:w6.cell? ⟨w5.heap.size,0,none⟩=some (.int .i64 (h.tdiv G)):=HX6.out.cell (i:=0) (by omega);have x1:w6.cell? ⟨w5.heap.size,1,none⟩=some (.int .i64 (v.tdiv G)):=HX6.out.cell (i:=1) (by omega);have x2:w6.cell? ⟨w5.heap.size,2,none⟩=some (.int .i64 (m.tdiv G)):=HX6.out.cell (i:=2) (by omega);have x3:w6.cell? ⟨w5.heap.size,3,none⟩=some (.int .i64 (d.tdiv G)):=HX6.out.cell (i:=3) (by omega);clear hw6 HV5 HB5;go_wp2_with fail
  refine (sThrustOk_any _ _ _ _ _).mono ?_;rw [<- HT.out];rintro e w7 ⟨rfl,hb7⟩;have HV7:=q_ (HV6.out.after hb7);have HX7:=q_ (HX6.out.after hb7);have HB7:=q_ (below_then HB6.out hb7);clear HV6 HB6 HX6 x0 x1 x2 x3 hb7;have x0:w7.cell? ⟨w5.heap.size,0,none⟩=some (.int .i64 (h.tdiv G)):=HX7.out.cell (i:=0) (by omega);have x1:w7.cell? ⟨w5.heap.size,1,none⟩=some (.int .i64 (v.tdiv G)):=HX7.out.cell (i:=1) (by omega);have x2:w7.cell? ⟨w5.heap.size,2,none⟩=some (.int .i64 (m.tdiv G)):=HX7.out.cell (i:=2) (by omega);have x3:w7.cell? ⟨w5.heap.size,3,none⟩=some (.int .i64 (d.tdiv G)):=HX7.out.cell (i:=3) (by omega);have y0:w7.cell? ⟨w.heap.size,0,none⟩=some (.int .i64 0):=HV7.out.cell (i:=0) (by omega);have y1:w7.cell? ⟨w.heap.size,1,none⟩=some (.int .i64 0):=HV7.out.cell (i:=1) (by omega);have y2:w7.cell? ⟨w.heap.size,2,none⟩=some (.int .i64 0):=HV7.out.cell (i:=2) (by omega);have y3:w7.cell? ⟨w.heap.size,3,none⟩=some (.int .i64 0):=HV7.out.cell (i:=3) (by omega);have f0:=HV7.out.frozen 0;have f1:=HV7.out.frozen 1;have f2:=HV7.out.frozen 2;have f3:=HV7.out.frozen 3;have hs:=RowF.lt HV7.out;cases ht:mkT h v m d
  ·have HF:=q_ (HMF.out ht)
   go_wp2;refine bodyPost_ret (v:=thrV 0 0 0 0 false) (by simp [thrV,results,Tryz.results119,go_sem, *]) rfl ?_;exact ⟨by rw [HF.out],below_set4 HB7.out (Nat.le_refl _) _ _ _ _⟩
  ·have HF:=q_ (HMT.out ht)
   go_wp2;refine bodyPost_ret (v:=thrV (h.tdiv G) (v.tdiv G) (m.tdiv G) (d.tdiv G) true) (by simp [thrV,results,Tryz.results119,go_sem, *]) rfl ?_;exact ⟨by rw [HF.out],below_set4 HB7.out (Nat.le_refl _) _ _ _ _⟩
 ·rw [<- HGP.out (by omega)]
  go_wp2;go_region
  have HV6:=q_ (HV5.out.after (below_dr ((Below.refl _ _).alloc (Nat.le_refl _) (.cells #[.int .i64 (h.tdiv G),.int .i64 (v.tdiv G),.int .i64 (m.tdiv G),.int .i64 (d.tdiv G)] 66))));have HB6:=q_ (below_dr (HB5.out.alloc HB5.out.size (.cells #[.int .i64 (h.tdiv G),.int .i64 (v.tdiv G),.int .i64 (m.tdiv G),.int .i64 (d.tdiv G)] 66)));have HX6:Hid (RowF (w5.alloc (.cells #[.int .i64 (h.tdiv G),.int .i64 (v.tdiv G),.int .i64 (m.tdiv G),.int .i64 (d.tdiv G)] 66)).drew w5.heap.size 66 4 (ints [h.tdiv G,v.tdiv G,m.tdiv G,d.tdiv G])) :=
   q_ (RowF.of_row (World.rowIs_alloc w5 #[.int .i64 (h.tdiv G),.int .i64 (v.tdiv G),.int .i64 (m.tdiv G),.int .i64 (d.tdiv G)] 66 (ints [h.tdiv G,v.tdiv G,m.tdiv G,d.tdiv G]) (fun i hi=>by simp at hi; match i,hi with | 0,_=>rfl | 1,_=>rfl | 2,_=>rfl | 3,_=>rfl)))
  obtain ⟨w6,hw6⟩:∃ w6,(w5.alloc (.cells #[.int .i64 (h.tdiv G),.int .i64 (v.tdiv G),.int .i64 (m.tdiv G),.int .i64 (d.tdiv G)] 66)).drew=w6:=⟨_,rfl⟩;rw [hw6] at HV6 HB6 HX6 ⊢;have x0:w6.cell? ⟨w5.heap.size,0,none⟩=some (.int .i64 (h.tdiv G)):=HX6.out.cell (i:=0) (by omega);have x1:w6.cell? ⟨w5.heap.size,1,none⟩=some (.int .i64 (v.tdiv G)):=HX6.out.cell (i:=1) (by omega);have x2:w6.cell? ⟨w5.heap.size,2,none⟩=some (.int .i64 (m.tdiv G)):=HX6.out.cell (i:=2) (by omega);have x3:w6.cell? ⟨w5.heap.size,3,none⟩=some (.int .i64 (d.tdiv G)):=HX6.out.cell (i:=3) (by omega);clear hw6 HV5 HB5;go_wp2_with fail
  refine (sThrustOk_any _ _ _ _ _).mono ?_;rw [<- HT.out];rintro e w7 ⟨rfl,hb7⟩;have HV7:=q_ (HV6.out.after hb7);have HX7:=q_ (HX6.out.after hb7);have HB7:=q_ (below_then HB6.out hb7);clear HV6 HB6 HX6 x0 x1 x2 x3 hb7;have x0:w7.cell? ⟨w5.heap.size,0,none⟩=some (.int .i64 (h.tdiv G)):=HX7.out.cell (i:=0) (by omega);have x1:w7.cell? ⟨w5.heap.size,1,none⟩=some (.int .i64 (v.tdiv G)):=HX7.out.cell (i:=1) (by omega);have x2:w7.cell? ⟨w5.heap.size,2,none⟩=some (.int .i64 (m.tdiv G)):=HX7.out.cell (i:=2) (by omega);have x3:w7.cell? ⟨w5.heap.size,3,none⟩=some (.int .i64 (d.tdiv G)):=HX7.out.cell (i:=3) (by omega);have y0:w7.cell? ⟨w.heap.size,0,none⟩=some (.int .i64 0):=HV7.out.cell (i:=0) (by omega);have y1:w7.cell? ⟨w.heap.size,1,none⟩=some (.int .i64 0):=HV7.out.cell (i:=1) (by omega);have y2:w7.cell? ⟨w.heap.size,2,none⟩=some (.int .i64 0):=HV7.out.cell (i:=2) (by omega);have y3:w7.cell? ⟨w.heap.size,3,none⟩=some (.int .i64 0):=HV7.out.cell (i:=3) (by omega);have f0:=HV7.out.frozen 0;have f1:=HV7.out.frozen 1;have f2:=HV7.out.frozen 2;have f3:=HV7.out.frozen 3;have hs:=RowF.lt HV7.out;cases ht:mkT h v m d
  ·have HF:=q_ (HMF.out ht)
   go_wp2;refine bodyPost_ret (v:=thrV 0 0 0 0 false) (by simp [thrV,results,Tryz.results119,go_sem, *]) rfl ?_;exact ⟨by rw [HF.out],below_set4 HB7.out (Nat.le_refl _) _ _ _ _⟩
  ·have HF:=q_ (HMT.out ht)
   go_wp2;refine bodyPost_ret (v:=thrV (h.tdiv G) (v.tdiv G) (m.tdiv G) (d.tdiv G) true) (by simp [thrV,results,Tryz.results119,go_sem, *]) rfl ?_;exact ⟨by rw [HF.out],below_set4 HB7.out (Nat.le_refl _) _ _ _ _⟩
end X
namespace X
open Go.RowKit
def Box4 (w:World) (b:Nat) (H V M D:Int):Prop:=(w.cell? ⟨b,0,none⟩=some (.int .i64 H)/\w.cell? ⟨b,1,none⟩=some (.int .i64 V)/\w.cell? ⟨b,2,none⟩=some (.int .i64 M)/\w.cell? ⟨b,3,none⟩=some (.int .i64 D))/\b<w.heap.size
theorem Box4.after {w w1:World} {b:Nat} {H V M D:Int} (h:Box4 w b H V M D) (hb:Below w.heap.size w w1):Box4 w1 b H V M D :=
 ⟨⟨(hb.cell (p:=⟨b,0,none⟩) h.2).trans h.1.1,(hb.cell (p:=⟨b,1,none⟩) h.2).trans h.1.2.1,(hb.cell (p:=⟨b,2,none⟩) h.2).trans h.1.2.2.1,(hb.cell (p:=⟨b,3,none⟩) h.2).trans h.1.2.2.2⟩,Nat.lt_of_lt_of_le h.2 hb.size⟩
theorem Box4.new (w:World) (H V M D:Int) (t:TypeId):Box4 (w.alloc (.cells #[.int .i64 H,.int .i64 V,.int .i64 M,.int .i64 D] t)) w.heap.size H V M D:=by
 have h:=World.rowIs_alloc w #[.int .i64 H,.int .i64 V,.int .i64 M,.int .i64 D] t (ints [H,V,M,D]) (fun j hj=>by simp at hj; match j,hj with | 0,_=>rfl | 1,_=>rfl | 2,_=>rfl | 3,_=>rfl)
 exact ⟨⟨h.cell (by simp),h.cell (by simp),h.cell (by simp),h.cell (by simp)⟩,by simp⟩
structure AT (w wr:World) (v:Value) (H V M D:Int):Prop where
 arch:Box wr w.heap.size v
 thr:Box4 wr (w.heap.size+1) H V M D
 below:Below w.heap.size w wr
theorem AT.after {w wr w1:World} {v:Value} {H V M D:Int} (h:AT w wr v H V M D) (hb:Below wr.heap.size wr w1):AT w w1 v H V M D:=⟨h.arch.after hb,h.thr.after hb,h.below.trans (hb.mono h.below.size)⟩
theorem AT.start (w:World) (v:Value) (H V M D:Int) (T U:TypeId):AT w ((w.alloc (.cells #[v] T)).alloc (.cells #[.int .i64 H,.int .i64 V,.int .i64 M,.int .i64 D] U)) v H V M D:=by
 refine ⟨(Box.new w v T).alloc _,?_,(bnw _ _).alloc (by simp) _⟩;have h:=Box4.new (w.alloc (.cells #[v] T)) H V M D U;rw [World.size_alloc] at h;exact h
end X
namespace X
open Go.RowKit
structure SideBd (a b c d H V M D:Int):Prop where
 aH : -100000000000000<=a*H/\a*H<=100000000000000
 bV : -1000000000000000<=b*V/\b*V<=1000000000000000
 cM : -10000000000000<=c*M/\c*M<=10000000000000
 dD : -1000000000000000<=d*D/\d*D<=1000000000000000
theorem sideBd {a b c d H V M D:Int} (ht:thrB H V M D=true) (hr:rowB a b c d=true):SideBd a b c d H V M D:=by
 obtain ⟨h1,h2,h3,h4,_⟩:=thrB_out ht;rw [rowB_iff] at hr;have e1:=mul_bd (a:=a) (b:=H) (m:=100) (n:=1000000000000) (by omega) (by omega);have e2:=mul_bd (a:=b) (b:=V) (m:=100) (n:=10000000000000) (by omega) (by omega);have e3:=mul_bd (a:=c) (b:=M) (m:=1) (n:=10000000000000) (by omega) (by omega);have e4:=mul_bd (a:=d) (b:=D) (m:=1000000000) (n:=1000000) (by omega) (by omega);exact ⟨by omega,by omega,by omega,by omega⟩
def metB (a b c d H V M D:Int):Bool:=decide (a*H+b*V+c*M<=d*D)
theorem rwCells {wr:World} {b off n j:Nat} {zs:List Int} (hc:∀ i,i<n*4->wr.cell? ⟨b,off+i,none⟩=some (.int .i64 (nth zs i))) (hj:j<n) :
  wr.cell? ⟨b,off+j*4,none⟩=some (.int .i64 (nth zs (j*4)))/\wr.cell? ⟨b,off+j*4+1,none⟩=some (.int .i64 (nth zs (j*4+1)))/\wr.cell? ⟨b,off+j*4+2,none⟩=some (.int .i64 (nth zs (j*4+2)))/\wr.cell? ⟨b,off+j*4+3,none⟩=some (.int .i64 (nth zs (j*4+3))) :=
 ⟨hc (j*4) (by omega),hc (j*4+1) (by omega),hc (j*4+2) (by omega),hc (j*4+3) (by omega)⟩
theorem iRowOk_any (a b c d:Int) (w:World) :
  Calls Tryzx.prog 124 #[.agg #[.int .i64 a,.int .i64 b,.int .i64 c,.int .i64 d]] w fun e w'=>e = .returned (.bool (rowB a b c d))/\Below w.heap.size w w':=by
 have HA:=q_ ((Below.refl w.heap.size w).alloc (Nat.le_refl _) (.cells #[.int .i64 a,.int .i64 b,.int .i64 c,.int .i64 d] 133));cases h1:inB a (-100) 100
 ·have HF:=q_ (rowB_1 b c d h1)
  go_enter Tryzx.func124,Tryz.ntmps124;go_wp2_with (go_at_call 43; refine (within_any _ _ _ _).mono ?_; (first | rw [h1]); rintro e w' ⟨rfl,rfl⟩);go_ret;exact ⟨ret_bool HF.out.symm,HA.out⟩
 cases h2:inB b (-100) 100
 ·have HF:=q_ (rowB_2 a c d h2)
  go_enter Tryzx.func124,Tryz.ntmps124;go_wp2_with (go_at_call 43; refine (within_any _ _ _ _).mono ?_; (first | rw [h1] | rw [h2]); rintro e w' ⟨rfl,rfl⟩);go_ret;exact ⟨ret_bool HF.out.symm,HA.out⟩
 cases h3:inB c (-1) 1
 ·have HF:=q_ (rowB_3 a b d h3)
  go_enter Tryzx.func124,Tryz.ntmps124;go_wp2_with (go_at_call 43; refine (within_any _ _ _ _).mono ?_; (first | rw [h1] | rw [h2] | rw [h3]); rintro e w' ⟨rfl,rfl⟩);go_ret;exact ⟨ret_bool HF.out.symm,HA.out⟩
 have HF:=q_ (rowB_t d h1 h2 h3);generalize hd:inB d (-1000000000) 1000000000=u at *
 go_enter Tryzx.func124,Tryz.ntmps124;go_wp2_with (go_at_call 43; refine (within_any _ _ _ _).mono ?_; (first | rw [h1] | rw [h2] | rw [h3] | rw [hd]); rintro e w' ⟨rfl,rfl⟩);go_ret;exact ⟨ret_bool HF.out.symm,HA.out⟩
theorem sRowOk_any (a b c d:Int) (w:World) :
  Calls Tryzx.prog 94 #[.agg #[.int .i64 a,.int .i64 b,.int .i64 c,.int .i64 d]] w fun e w'=>e = .returned (.bool (rowB a b c d))/\Below w.heap.size w w':=by
 have HA:=q_ ((Below.refl w.heap.size w).alloc (Nat.le_refl _) (.cells #[.int .i64 a,.int .i64 b,.int .i64 c,.int .i64 d] 133));cases h1:inB a (-100) 100
 ·have HF:=q_ (rowB_1 b c d h1)
  go_enter Tryzx.func94,Tryz.ntmps94;go_wp2_with (go_at_call 52; refine (l01In_any _ _ _ _).mono ?_; (first | rw [h1]); rintro e w' ⟨rfl,rfl⟩);go_ret;exact ⟨ret_bool HF.out.symm,HA.out⟩
 cases h2:inB b (-100) 100
 ·have HF:=q_ (rowB_2 a c d h2)
  go_enter Tryzx.func94,Tryz.ntmps94;go_wp2_with (go_at_call 52; refine (l01In_any _ _ _ _).mono ?_; (first | rw [h1] | rw [h2]); rintro e w' ⟨rfl,rfl⟩);go_ret;exact ⟨ret_bool HF.out.symm,HA.out⟩
 cases h3:inB c (-1) 1
 ·have HF:=q_ (rowB_3 a b d h3)
  go_enter Tryzx.func94,Tryz.ntmps94;go_wp2_with (go_at_call 52; refine (l01In_any _ _ _ _).mono ?_; (first | rw [h1] | rw [h2] | rw [h3]); rintro e w' ⟨rfl,rfl⟩);go_ret;exact ⟨ret_bool HF.out.symm,HA.out⟩
 have HF:=q_ (rowB_t d h1 h2 h3);generalize hd:inB d (-1000000000) 1000000000=u at *
 go_enter Tryzx.func94,Tryz.ntmps94;go_wp2_with (go_at_call 52; refine (l01In_any _ _ _ _).mono ?_; (first | rw [h1] | rw [h2] | rw [h3] | rw [hd]); rintro e w' ⟨rfl,rfl⟩);go_ret;exact ⟨ret_bool HF.out.symm,HA.out⟩
theorem rowsOk_any (A:Option Addr) (n c:Nat) (rs:List Int) (w:World) (h:RecsAt w w.heap.size 4 A n rs) (hn:n<=1048576) :
  Calls Tryzx.prog 104 #[.slice A n c] w fun e w'=>e = .returned (.bool (allB (rowAt rs) n))/\Below w.heap.size w w':=by
 have HL:=q_ h;clear h;go_enter Tryzx.func104,Tryz.ntmps104;go_wp2;go_loopw [7] (fun i wr=>∃ k:Nat,k<=n/\i = .int .i64 k/\Hid (allTo (rowAt rs) k)/\Hid (Below w.heap.size w wr)) (fun i _=>n - (intOf i).toNat)
 case atStart=>exact ⟨0,Nat.zero_le _,rfl,q_ (allTo_0 _),q_ (Below.refl _ _)⟩
 case round =>
  obtain ⟨k,hk,rfl,HP,HB⟩:=hrel;by_cases hlt:k<n
  ·obtain ⟨b,off,rfl,hbB,hc⟩:=HL.out.2 (by omega)
   obtain ⟨x0,x1,x2,x3⟩:=rwCells (fun i hi=>(HB.out.cell (by exact hbB)).trans (hc i hi)) hlt;have hz:=HB.out.size;have HS:=q_ (fun e=>allTo_step HP.out (k:=k) e);have HF0:=q_ (fun e=>allB_f (p:=rowAt rs) hlt e);have eR:rowAt rs k=rowB (nth rs (k*4)) (nth rs (k*4+1)) (nth rs (k*4+2)) (nth rs (k*4+3)):=rfl;have ER:=q_ eR;clear hc eR;generalize nth rs (k*4)=y0 at *
   generalize nth rs (k*4+1)=y1 at *
   generalize nth rs (k*4+2)=y2 at *
   generalize nth rs (k*4+3)=y3 at *
   have HBA:=q_ (HB.out.alloc hz (.cells #[.int .i64 y0,.int .i64 y1,.int .i64 y2,.int .i64 y3] 133));obtain ⟨⟨z0,z1,z2,z3⟩,_⟩:=Box4.new wr y0 y1 y2 y3 133;go_wp2_with fail
   refine (iRowOk_any _ _ _ _ _).mono ?_;rintro e w1 ⟨rfl,hb1⟩;have HB1:=q_ (HBA.out.trans (hb1.mono (by simp; omega)))
   clear hb1;cases g:rowB y0 y1 y2 y3
   ·have HF:=q_ (HF0.out (ER.out.trans g))
    go_wp2;go_ret;exact ⟨ret_bool HF.out.symm,HB1.out⟩
   ·have HS1:=q_ (HS.out (ER.out.trans g))
    go_wp2;go_roundw
    case rel=>exact ⟨k+1,by omega,by go_num,HS1,HB1⟩
    case measure=>simp [intOf]; omega
  ·obtain rfl:k=n:=by omega
   have HF:=q_ (allB_t HP.out);go_wp2;go_ret;exact ⟨ret_bool HF.out.symm,HB.out⟩
theorem l10Holds_any (a b c d H V M D:Int) (w:World) (hb:SideBd a b c d H V M D) :
  Calls Tryzx.prog 97 #[.agg #[.int .i64 H,.int .i64 V,.int .i64 M,.int .i64 D],.agg #[.int .i64 a,.int .i64 b,.int .i64 c,.int .i64 d]] w fun e w'=>e = .returned (.bool (metB a b c d H V M D))/\Below w.heap.size w w':=by
 obtain ⟨b1,b2,b3,b4⟩:=hb;have HA:=q_ (((Below.refl w.heap.size w).alloc (Nat.le_refl _) (.cells #[.int .i64 H,.int .i64 V,.int .i64 M,.int .i64 D] 66)).alloc (by simp) (.cells #[.int .i64 a,.int .i64 b,.int .i64 c,.int .i64 d] 133));go_enter Tryzx.func97,Tryz.ntmps97;go_wp2_with fail
 all_goals (try go_quiet (fail))
 go_wp2;go_ret;exact ⟨rfl,by first | exact HA.out | exact below_drewN HA.out _⟩
structure TRi (w wr:World) (a b c d H V M D:Int):Prop where
 thr:Box4 wr w.heap.size H V M D
 row:Box4 wr (w.heap.size+1) a b c d
 below:Below w.heap.size w wr
theorem TRi.after {w wr w1:World} {a b c d H V M D:Int} (h:TRi w wr a b c d H V M D) (hb:Below wr.heap.size wr w1):TRi w w1 a b c d H V M D:=⟨h.thr.after hb,h.row.after hb,h.below.trans (hb.mono h.below.size)⟩
theorem TRi.start (w:World) (a b c d H V M D:Int) (T U:TypeId):TRi w ((w.alloc (.cells #[.int .i64 H,.int .i64 V,.int .i64 M,.int .i64 D] T)).alloc (.cells #[.int .i64 a,.int .i64 b,.int .i64 c,.int .i64 d] U)) a b c d H V M D:=by
 refine ⟨(Box4.new w H V M D T).after (bnw _ _),?_,(bnw _ _).alloc (by simp) _⟩;have h:=Box4.new (w.alloc (.cells #[.int .i64 H,.int .i64 V,.int .i64 M,.int .i64 D] T)) a b c d U;rw [World.size_alloc] at h;exact h
structure TRs (w wr:World) (a b c d H V M D:Int):Prop where
 thr:Box4 wr w.heap.size H V M D
 row:Box4 wr (w.heap.size+1) a b c d
 below:Below w.heap.size w wr
theorem TRs.after {w wr w1:World} {a b c d H V M D:Int} (h:TRs w wr a b c d H V M D) (hb:Below wr.heap.size wr w1):TRs w w1 a b c d H V M D:=⟨h.thr.after hb,h.row.after hb,h.below.trans (hb.mono h.below.size)⟩
theorem TRs.start (w:World) (a b c d H V M D:Int) (T U:TypeId):TRs w ((w.alloc (.cells #[.int .i64 H,.int .i64 V,.int .i64 M,.int .i64 D] T)).alloc (.cells #[.int .i64 a,.int .i64 b,.int .i64 c,.int .i64 d] U)) a b c d H V M D:=by
 refine ⟨(Box4.new w H V M D T).after (bnw _ _),?_,(bnw _ _).alloc (by simp) _⟩;have h:=Box4.new (w.alloc (.cells #[.int .i64 H,.int .i64 V,.int .i64 M,.int .i64 D] T)) a b c d U;rw [World.size_alloc] at h;exact h
end X
namespace X
open Go.RowKit
theorem l11Det_any (a0 a1 a2 b0 b1 b2 c0 c1 c2:Int) (w:World) (hb:DetBd a0 a1 a2 b0 b1 b2 c0 c1 c2) :
  Calls Tryzx.prog 118 #[.agg #[.int .i64 a0,.int .i64 a1,.int .i64 a2],.agg #[.int .i64 b0,.int .i64 b1,.int .i64 b2],.agg #[.int .i64 c0,.int .i64 c1,.int .i64 c2]] w fun e w'=>e = .returned (.int .i64 (det9 a0 a1 a2 b0 b1 b2 c0 c1 c2))/\Below w.heap.size w w':=by
 obtain ⟨w1,w2,w3,w4,w5,w6,s1,s2,s3,m1,m2,m3,t1,t2⟩:=hb.wraps;have HA:=q_ ((((Below.refl w.heap.size w).alloc (Nat.le_refl _) (.cells #[.int .i64 a0,.int .i64 a1,.int .i64 a2] 169)).alloc (by simp) (.cells #[.int .i64 b0,.int .i64 b1,.int .i64 b2] 169)).alloc (by simp; omega) (.cells #[.int .i64 c0,.int .i64 c1,.int .i64 c2] 169))
 go_enter Tryzx.func118,Tryz.ntmps118;go_wp2;go_ret;exact ⟨rfl,HA.out⟩
theorem l11Line_any (a b c d:Int) (w:World) :
  Calls Tryzx.prog 151 #[.agg #[.int .i64 a,.int .i64 b,.int .i64 c,.int .i64 d]] w fun e w'=>e = .returned (.agg #[.int .i64 a,.int .i64 b,.int .i64 c])/\Below w.heap.size w w':=by
 have HA:=q_ (((Below.refl w.heap.size w).alloc (Nat.le_refl _) (.cells #[.int .i64 a,.int .i64 b,.int .i64 c,.int .i64 d] 133)).alloc (by simp) (.cells #[.int .i64 a,.int .i64 b,.int .i64 c] 169));go_enter Tryzx.func151,Tryz.ntmps151;go_wp2;refine bodyPost_ret (v := .agg #[.int .i64 a,.int .i64 b,.int .i64 c]) (by simp [results,Tryz.results151,go_sem, *]) rfl ?_;exact ⟨rfl,HA.out⟩
structure R3 (w wr:World) (pa pb pc pd qa qb qc qd ra rb rc rd:Int):Prop where
 p:Box4 wr w.heap.size pa pb pc pd
 q:Box4 wr (w.heap.size+1) qa qb qc qd
 r:Box4 wr (w.heap.size+1+1) ra rb rc rd
 below:Below w.heap.size w wr
theorem R3.after {w wr w1:World} {pa pb pc pd qa qb qc qd ra rb rc rd:Int} (h:R3 w wr pa pb pc pd qa qb qc qd ra rb rc rd) (hb:Below wr.heap.size wr w1):R3 w w1 pa pb pc pd qa qb qc qd ra rb rc rd:=⟨h.p.after hb,h.q.after hb,h.r.after hb,h.below.trans (hb.mono h.below.size)⟩
theorem R3.start (w:World) (pa pb pc pd qa qb qc qd ra rb rc rd:Int) (T:TypeId):R3 w (((w.alloc (.cells #[.int .i64 pa,.int .i64 pb,.int .i64 pc,.int .i64 pd] T)).alloc (.cells #[.int .i64 qa,.int .i64 qb,.int .i64 qc,.int .i64 qd] T)).alloc (.cells #[.int .i64 ra,.int .i64 rb,.int .i64 rc,.int .i64 rd] T)) pa pb pc pd qa qb qc qd ra rb rc rd:=by
 have h2:=Box4.new (w.alloc (.cells #[.int .i64 pa,.int .i64 pb,.int .i64 pc,.int .i64 pd] T)) qa qb qc qd T;have h3:=Box4.new ((w.alloc (.cells #[.int .i64 pa,.int .i64 pb,.int .i64 pc,.int .i64 pd] T)).alloc (.cells #[.int .i64 qa,.int .i64 qb,.int .i64 qc,.int .i64 qd] T)) ra rb rc rd T;simp only [World.size_alloc] at h2 h3;exact ⟨((Box4.new w pa pb pc pd T).after (bnw _ _)).after (bnw _ _),h2.after (bnw _ _),h3,((bnw _ _).alloc (by simp) _).alloc (by simp; omega) _⟩
def solOk (pa pb pc pd qa qb qc qd ra rb rc rd:Int):Bool:=rowB pa pb pc pd && (rowB qa qb qc qd && rowB ra rb rc rd)
theorem solD_f {pa pb pc pd qa qb qc qd ra rb rc rd:Int} (h:solOk pa pb pc pd qa qb qc qd ra rb rc rd=false):solD pa pb pc pd qa qb qc qd ra rb rc rd=0:=by
 unfold solOk at h; simp [solD,h]
theorem solD_t {pa pb pc pd qa qb qc qd ra rb rc rd:Int} (h:solOk pa pb pc pd qa qb qc qd ra rb rc rd=true):solD pa pb pc pd qa qb qc qd ra rb rc rd=det9 pa pb pc qa qb qc ra rb rc:=by
 unfold solOk at h; simp [solD,h]
theorem sDetOf_any (pa pb pc pd qa qb qc qd ra rb rc rd:Int) (w:World) :
  Calls Tryzx.prog 117 #[.agg #[.int .i64 pa,.int .i64 pb,.int .i64 pc,.int .i64 pd],.agg #[.int .i64 qa,.int .i64 qb,.int .i64 qc,.int .i64 qd],.agg #[.int .i64 ra,.int .i64 rb,.int .i64 rc,.int .i64 rd]] w fun e w'=>e = .returned (.int .i64 (solD pa pb pc pd qa qb qc qd ra rb rc rd))/\Below w.heap.size w w':=by
 have HR:=q_ (R3.start w pa pb pc pd qa qb qc qd ra rb rc rd 133);cases h1:rowB pa pb pc pd
 ·have HF:=q_ (solD_f (by simp [solOk,h1]:solOk pa pb pc pd qa qb qc qd ra rb rc rd=false))
  go_enter Tryzx.func117,Tryz.ntmps117;go_wp2_with fail
  refine (sRowOk_any _ _ _ _ _).mono ?_;rw [h1];rintro e w1 ⟨rfl,hb1⟩;have HR1:=q_ (HR.out.after hb1);clear hb1;go_wp2;go_ret;exact ⟨ret_int HF.out.symm,HR1.out.below⟩
 cases h2:rowB qa qb qc qd
 ·have HF:=q_ (solD_f (by simp [solOk,h1,h2]:solOk pa pb pc pd qa qb qc qd ra rb rc rd=false))
  go_enter Tryzx.func117,Tryz.ntmps117;go_wp2_with fail
  refine (sRowOk_any _ _ _ _ _).mono ?_;rw [h1];rintro e w1 ⟨rfl,hb1⟩;have HR1:=q_ (HR.out.after hb1);obtain ⟨c0,c1,c2,c3⟩:=HR1.out.q.1;clear hb1;go_wp2_with fail
  refine (sRowOk_any _ _ _ _ _).mono ?_;rw [h2];rintro e w2 ⟨rfl,hb2⟩;have HR2:=q_ (HR1.out.after hb2);clear hb2;go_wp2;go_ret;exact ⟨ret_int HF.out.symm,HR2.out.below⟩
 go_enter Tryzx.func117,Tryz.ntmps117;go_wp2_with fail
 refine (sRowOk_any _ _ _ _ _).mono ?_;rw [h1];rintro e w1 ⟨rfl,hb1⟩;have HR1:=q_ (HR.out.after hb1);obtain ⟨c0,c1,c2,c3⟩:=HR1.out.q.1;clear hb1;go_wp2_with fail
 refine (sRowOk_any _ _ _ _ _).mono ?_;rw [h2];rintro e w2 ⟨rfl,hb2⟩;have HR2:=q_ (HR1.out.after hb2);clear hb2 c0 c1 c2 c3;obtain ⟨c0,c1,c2,c3⟩:=HR2.out.r.1;go_wp2_with fail
 refine (sRowOk_any _ _ _ _ _).mono ?_;cases h3:rowB ra rb rc rd
 ·have HF:=q_ (solD_f (by simp [solOk,h1,h2,h3]:solOk pa pb pc pd qa qb qc qd ra rb rc rd=false))
  rintro e w3 ⟨rfl,hb3⟩;have HR3:=q_ (HR2.out.after hb3);clear hb3;go_wp2;go_ret;exact ⟨ret_int HF.out.symm,HR3.out.below⟩
 ·have HF:=q_ (solD_t (by simp [solOk,h1,h2,h3]:solOk pa pb pc pd qa qb qc qd ra rb rc rd=true))
  have HD:=q_ (rows_det h1 h2 h3).1;rintro e w3 ⟨rfl,hb3⟩;have HR3:=q_ (HR2.out.after hb3);clear hb3 c0 c1 c2 c3;obtain ⟨p0,p1,p2,p3⟩:=HR3.out.p.1;obtain ⟨q0,q1,q2,q3⟩:=HR3.out.q.1;obtain ⟨r0,r1,r2,r3⟩:=HR3.out.r.1;have hwl:=HR3.out.below.size;have hpl:=HR3.out.p.2;have hql:=HR3.out.q.2;have hrl:=HR3.out.r.2;go_wp2;refine wp_region_held_drew (S:=fun w'=>(w'.cell? ⟨w.heap.size,0,none⟩=some (.int .i64 pa)/\w'.cell? ⟨w.heap.size,1,none⟩=some (.int .i64 pb)/\w'.cell? ⟨w.heap.size,2,none⟩=some (.int .i64 pc)/\w'.cell? ⟨w.heap.size,3,none⟩=some (.int .i64 pd))/\(w'.cell? ⟨w.heap.size+1,0,none⟩=some (.int .i64 qa)/\w'.cell? ⟨w.heap.size+1,1,none⟩=some (.int .i64 qb)/\w'.cell? ⟨w.heap.size+1,2,none⟩=some (.int .i64 qc)/\w'.cell? ⟨w.heap.size+1,3,none⟩=some (.int .i64 qd))/\(w'.cell? ⟨w.heap.size+1+1,0,none⟩=some (.int .i64 ra)/\w'.cell? ⟨w.heap.size+1+1,1,none⟩=some (.int .i64 rb)/\w'.cell? ⟨w.heap.size+1+1,2,none⟩=some (.int .i64 rc)/\w'.cell? ⟨w.heap.size+1+1,3,none⟩=some (.int .i64 rd))) (by kernel_rfl) (by exact ⟨⟨p0,p1,p2,p3⟩,⟨q0,q1,q2,q3⟩,⟨r0,r1,r2,r3⟩⟩) (fun hHeld => ?_);refine tk 0 20 rfl rfl ?_;try simp only [Act.put,ly3]
  refine tk 2 22 rfl rfl ?_;try simp only [Act.put,ly3]
  refine tk 4 24 rfl rfl ?_;try simp only [Act.put,ly3]
  refine rd1 1 rfl fun K hK=>?_;go_simp
  (with_reducible refine (l11Line_any _ _ _ _ _).mono ?_); rintro e v1 ⟨rfl,hb1⟩; have H1b:=q_ (below_then (below_dr (Below.refl w3.heap.size w3)) hb1);refine hK.out _ _ (by exact ⟨⟨(H1b.out.cell (by exact hpl)).trans p0,(H1b.out.cell (by exact hpl)).trans p1,(H1b.out.cell (by exact hpl)).trans p2,(H1b.out.cell (by exact hpl)).trans p3⟩,⟨(H1b.out.cell (by exact hql)).trans q0,(H1b.out.cell (by exact hql)).trans q1,(H1b.out.cell (by exact hql)).trans q2,(H1b.out.cell (by exact hql)).trans q3⟩,⟨(H1b.out.cell (by exact hrl)).trans r0,(H1b.out.cell (by exact hrl)).trans r1,(H1b.out.cell (by exact hrl)).trans r2,(H1b.out.cell (by exact hrl)).trans r3⟩⟩) (fun hHeld => ?_);clear hK K;try simp only [Act.put,ly3]
  refine rd1 3 rfl fun K hK=>?_;go_simp
  (with_reducible refine (l11Line_any _ _ _ _ _).mono ?_); rintro e v3 ⟨rfl,hb3⟩; have H3b:=q_ (below_then H1b.out hb3);refine hK.out _ _ (by exact ⟨⟨(H3b.out.cell (by exact hpl)).trans p0,(H3b.out.cell (by exact hpl)).trans p1,(H3b.out.cell (by exact hpl)).trans p2,(H3b.out.cell (by exact hpl)).trans p3⟩,⟨(H3b.out.cell (by exact hql)).trans q0,(H3b.out.cell (by exact hql)).trans q1,(H3b.out.cell (by exact hql)).trans q2,(H3b.out.cell (by exact hql)).trans q3⟩,⟨(H3b.out.cell (by exact hrl)).trans r0,(H3b.out.cell (by exact hrl)).trans r1,(H3b.out.cell (by exact hrl)).trans r2,(H3b.out.cell (by exact hrl)).trans r3⟩⟩) (fun hHeld => ?_);clear hK K;try simp only [Act.put,ly3]
  refine rd1 5 rfl fun K hK=>?_;go_simp
  (with_reducible refine (l11Line_any _ _ _ _ _).mono ?_); rintro e v5 ⟨rfl,hb5⟩; have H5b:=q_ (below_then H3b.out hb5);refine hK.out _ _ (by exact ⟨⟨(H5b.out.cell (by exact hpl)).trans p0,(H5b.out.cell (by exact hpl)).trans p1,(H5b.out.cell (by exact hpl)).trans p2,(H5b.out.cell (by exact hpl)).trans p3⟩,⟨(H5b.out.cell (by exact hql)).trans q0,(H5b.out.cell (by exact hql)).trans q1,(H5b.out.cell (by exact hql)).trans q2,(H5b.out.cell (by exact hql)).trans q3⟩,⟨(H5b.out.cell (by exact hrl)).trans r0,(H5b.out.cell (by exact hrl)).trans r1,(H5b.out.cell (by exact hrl)).trans r2,(H5b.out.cell (by exact hrl)).trans r3⟩⟩) (fun hHeld => ?_);clear hK K;try simp only [Act.put,ly3]
  refine rd1 6 rfl fun K hK=>?_;go_simp
  (with_reducible refine (l11Det_any _ _ _ _ _ _ _ _ _ _ HD.out).mono ?_); rintro e v6 ⟨rfl,hb6⟩; have H6b:=q_ (below_then H5b.out hb6);refine hK.out _ _ (by exact ⟨⟨(H6b.out.cell (by exact hpl)).trans p0,(H6b.out.cell (by exact hpl)).trans p1,(H6b.out.cell (by exact hpl)).trans p2,(H6b.out.cell (by exact hpl)).trans p3⟩,⟨(H6b.out.cell (by exact hql)).trans q0,(H6b.out.cell (by exact hql)).trans q1,(H6b.out.cell (by exact hql)).trans q2,(H6b.out.cell (by exact hql)).trans q3⟩,⟨(H6b.out.cell (by exact hrl)).trans r0,(H6b.out.cell (by exact hrl)).trans r1,(H6b.out.cell (by exact hrl)).trans r2,(H6b.out.cell (by exact hrl)).trans r3⟩⟩) (fun hHeld => ?_);clear hK K;try simp only [Act.put,ly3]
  refine tk 7 6 rfl rfl ?_;try simp only [Act.put,ly3]
  refine wpAnyH_done (by kernel_rfl) ?_ _;have HB9:=q_ (below_then HR3.out.below H6b.out);go_wp2;go_ret;exact ⟨ret_int HF.out.symm,HB9.out⟩
def solB (pa pb pc pd qa qb qc qd ra rb rc rd:Int):Bool:=mkB (det9 pd pb pc qd qb qc rd rb rc) (det9 pa pd pc qa qd qc ra rd rc) (det9 pa pb pd qa qb qd ra rb rd) (solD pa pb pc pd qa qb qc qd ra rb rc rd)
def solI (pa pb pc pd qa qb qc qd ra rb rc rd x:Int):Int:=mkI (det9 pd pb pc qd qb qc rd rb rc) (det9 pa pd pc qa qd qc ra rd rc) (det9 pa pb pd qa qb qd ra rb rd) (solD pa pb pc pd qa qb qc qd ra rb rc rd) x
def solV (pa pb pc pd qa qb qc qd ra rb rc rd:Int):Value:=mkV (det9 pd pb pc qd qb qc rd rb rc) (det9 pa pd pc qa qd qc ra rd rc) (det9 pa pb pd qa qb qd ra rb rd) (solD pa pb pc pd qa qb qc qd ra rb rc rd)
theorem solV_0 {pa pb pc pd qa qb qc qd ra rb rc rd:Int} (h:solD pa pb pc pd qa qb qc qd ra rb rc rd=0):solV pa pb pc pd qa qb qc qd ra rb rc rd=thrV 0 0 0 0 false:=mkV_f (mkB_0 _ _ _ h)
theorem solD_ne {pa pb pc pd qa qb qc qd ra rb rc rd:Int} (h:¬ solD pa pb pc pd qa qb qc qd ra rb rc rd=0):rowB pa pb pc pd=true/\rowB qa qb qc qd=true/\rowB ra rb rc rd=true:=by
 cases e:solOk pa pb pc pd qa qb qc qd ra rb rc rd
 ·exact absurd (solD_f e) h
 ·simp only [solOk,Bool.and_eq_true] at e
  exact ⟨e.1,e.2.1,e.2.2⟩
theorem sSolve_any (pa pb pc pd qa qb qc qd ra rb rc rd:Int) (w:World) :
  Calls Tryzx.prog 95 #[.agg #[.int .i64 pa,.int .i64 pb,.int .i64 pc,.int .i64 pd],.agg #[.int .i64 qa,.int .i64 qb,.int .i64 qc,.int .i64 qd],.agg #[.int .i64 ra,.int .i64 rb,.int .i64 rc,.int .i64 rd]] w fun e w'=>e = .returned (solV pa pb pc pd qa qb qc qd ra rb rc rd)/\Below w.heap.size w w':=by
 have HR:=q_ (R3.start w pa pb pc pd qa qb qc qd ra rb rc rd 133);have HV:Hid (RowF ((((w.alloc (.cells #[.int .i64 pa,.int .i64 pb,.int .i64 pc,.int .i64 pd] 133)).alloc (.cells #[.int .i64 qa,.int .i64 qb,.int .i64 qc,.int .i64 qd] 133)).alloc (.cells #[.int .i64 ra,.int .i64 rb,.int .i64 rc,.int .i64 rd] 133)).alloc (.cells #[.int .i64 0,.int .i64 0,.int .i64 0,.int .i64 0] 66)) (w.heap.size+1+1+1) 66 4 (fun _ => .int .i64 0)):=by
  have h:=World.rowIs_alloc (((w.alloc (.cells #[.int .i64 pa,.int .i64 pb,.int .i64 pc,.int .i64 pd] 133)).alloc (.cells #[.int .i64 qa,.int .i64 qb,.int .i64 qc,.int .i64 qd] 133)).alloc (.cells #[.int .i64 ra,.int .i64 rb,.int .i64 rc,.int .i64 rd] 133)) #[.int .i64 0,.int .i64 0,.int .i64 0,.int .i64 0] 66 (fun _ => .int .i64 0) (fun i hi=>by simp at hi; match i,hi with | 0,_=>rfl | 1,_=>rfl | 2,_=>rfl | 3,_=>rfl)
  simp only [World.size_alloc] at h;exact q_ (RowF.of_row h)
 have HR0:=q_ (HR.out.after ((Below.refl _ _).alloc (Nat.le_refl _) (.cells #[.int .i64 0,.int .i64 0,.int .i64 0,.int .i64 0] 66)));clear HR;go_enter Tryzx.func95,Tryz.ntmps95;go_wp2_with fail
 refine (sDetOf_any _ _ _ _ _ _ _ _ _ _ _ _ _).mono ?_;rintro e w1 ⟨rfl,hb1⟩;have HR1:=q_ (HR0.out.after hb1);have HV1:=q_ (HV.out.after hb1);clear HR0 HV hb1;by_cases h0:solD pa pb pc pd qa qb qc qd ra rb rc rd=0
 ·have HF:=q_ (solV_0 h0)
  rw [h0];have y0:w1.cell? ⟨w.heap.size+1+1+1,0,none⟩=some (.int .i64 0):=HV1.out.cell (i:=0) (by omega);have y1:w1.cell? ⟨w.heap.size+1+1+1,1,none⟩=some (.int .i64 0):=HV1.out.cell (i:=1) (by omega);have y2:w1.cell? ⟨w.heap.size+1+1+1,2,none⟩=some (.int .i64 0):=HV1.out.cell (i:=2) (by omega);have y3:w1.cell? ⟨w.heap.size+1+1+1,3,none⟩=some (.int .i64 0):=HV1.out.cell (i:=3) (by omega);have f0:=HV1.out.frozen 0;have f1:=HV1.out.frozen 1;have f2:=HV1.out.frozen 2;have f3:=HV1.out.frozen 3;have hs:=RowF.lt HV1.out;go_wp2;refine bodyPost_ret (v:=thrV 0 0 0 0 false) (by simp [thrV,results,Tryz.results95,go_sem, *]) rfl ?_;exact ⟨by rw [HF.out],below_set4 HR1.out.below (by omega) _ _ _ _⟩
 ·obtain ⟨g1,g2,g3⟩:=solD_ne h0
  have HD:=q_ (rows_det g1 g2 g3).2;have HVV:Hid (solV pa pb pc pd qa qb qc qd ra rb rc rd=mkV (det9 pd pb pc qd qb qc rd rb rc) (det9 pa pd pc qa qd qc ra rd rc) (det9 pa pb pd qa qb qd ra rb rd) (solD pa pb pc pd qa qb qc qd ra rb rc rd)):=rfl;obtain ⟨D,hD⟩:∃ D,solD pa pb pc pd qa qb qc qd ra rb rc rd=D:=⟨_,rfl⟩;rw [hD] at h0 HVV ⊢;have hd0:(D == 0)=false:=by simp [h0]
  clear g1 g2 g3 hD;obtain ⟨p0,p1,p2,p3⟩:=HR1.out.p.1;obtain ⟨q0,q1,q2,q3⟩:=HR1.out.q.1;obtain ⟨r0,r1,r2,r3⟩:=HR1.out.r.1;go_wp2_with fail
  refine (l11Det_any _ _ _ _ _ _ _ _ _ _ HD.out.1).mono ?_;rintro e w2 ⟨rfl,hb2⟩;have HR2:=q_ (HR1.out.after hb2);have HV2:=q_ (HV1.out.after hb2);clear HR1 HV1 hb2 p0 p1 p2 p3 q0 q1 q2 q3 r0 r1 r2 r3;obtain ⟨p0,p1,p2,p3⟩:=HR2.out.p.1;obtain ⟨q0,q1,q2,q3⟩:=HR2.out.q.1;obtain ⟨r0,r1,r2,r3⟩:=HR2.out.r.1;go_wp2_with fail
  refine (l11Det_any _ _ _ _ _ _ _ _ _ _ HD.out.2.1).mono ?_;rintro e w3 ⟨rfl,hb3⟩;have HR3:=q_ (HR2.out.after hb3);have HV3:=q_ (HV2.out.after hb3);clear HR2 HV2 hb3 p0 p1 p2 p3 q0 q1 q2 q3 r0 r1 r2 r3;obtain ⟨p0,p1,p2,p3⟩:=HR3.out.p.1;obtain ⟨q0,q1,q2,q3⟩:=HR3.out.q.1;obtain ⟨r0,r1,r2,r3⟩:=HR3.out.r.1;go_wp2_with fail
  refine (l11Det_any _ _ _ _ _ _ _ _ _ _ HD.out.2.2).mono ?_;rintro e w4 ⟨rfl,hb4⟩;have HR4:=q_ (HR3.out.after hb4);have HV4:=q_ (HV3.out.after hb4);clear HR3 HV3 hb4 p0 p1 p2 p3 q0 q1 q2 q3 r0 r1 r2 r3;go_wp2_with fail
  refine (sMake_any _ _ _ _ _).mono ?_;rintro e w5 ⟨rfl,hb5⟩;have HB5:=q_ (HR4.out.below.trans (hb5.mono HR4.out.below.size));have HV5:=q_ (HV4.out.after hb5);clear HR4 HV4 hb5;have HW:Hid (mkV (det9 pd pb pc qd qb qc rd rb rc) (det9 pa pd pc qa qd qc ra rd rc) (det9 pa pb pd qa qb qd ra rb rd) D=thrV (mkI (det9 pd pb pc qd qb qc rd rb rc) (det9 pa pd pc qa qd qc ra rd rc) (det9 pa pb pd qa qb qd ra rb rd) D (det9 pd pb pc qd qb qc rd rb rc)) (mkI (det9 pd pb pc qd qb qc rd rb rc) (det9 pa pd pc qa qd qc ra rd rc) (det9 pa pb pd qa qb qd ra rb rd) D (det9 pa pd pc qa qd qc ra rd rc)) (mkI (det9 pd pb pc qd qb qc rd rb rc) (det9 pa pd pc qa qd qc ra rd rc) (det9 pa pb pd qa qb qd ra rb rd) D (det9 pa pb pd qa qb qd ra rb rd)) (mkI (det9 pd pb pc qd qb qc rd rb rc) (det9 pa pd pc qa qd qc ra rd rc) (det9 pa pb pd qa qb qd ra rb rd) D D) (mkB (det9 pd pb pc qd qb qc rd rb rc) (det9 pa pd pc qa qd qc ra rd rc) (det9 pa pb pd qa qb qd ra rb rd) D)):=rfl;rw [HW.out] at HVV ⊢;generalize mkI (det9 pd pb pc qd qb qc rd rb rc) (det9 pa pd pc qa qd qc ra rd rc) (det9 pa pb pd qa qb qd ra rb rd) D (det9 pd pb pc qd qb qc rd rb rc)=m0 at *
  generalize mkI (det9 pd pb pc qd qb qc rd rb rc) (det9 pa pd pc qa qd qc ra rd rc) (det9 pa pb pd qa qb qd ra rb rd) D (det9 pa pd pc qa qd qc ra rd rc)=m1 at *
  generalize mkI (det9 pd pb pc qd qb qc rd rb rc) (det9 pa pd pc qa qd qc ra rd rc) (det9 pa pb pd qa qb qd ra rb rd) D (det9 pa pb pd qa qb qd ra rb rd)=m2 at *
  generalize mkI (det9 pd pb pc qd qb qc rd rb rc) (det9 pa pd pc qa qd qc ra rd rc) (det9 pa pb pd qa qb qd ra rb rd) D D=m3 at *
  generalize mkB (det9 pd pb pc qd qb qc rd rb rc) (det9 pa pd pc qa qd qc ra rd rc) (det9 pa pb pd qa qb qd ra rb rd) D=mb at *
  clear HW HD;have y0:w5.cell? ⟨w.heap.size+1+1+1,0,none⟩=some (.int .i64 0):=HV5.out.cell (i:=0) (by omega);have y1:w5.cell? ⟨w.heap.size+1+1+1,1,none⟩=some (.int .i64 0):=HV5.out.cell (i:=1) (by omega);have y2:w5.cell? ⟨w.heap.size+1+1+1,2,none⟩=some (.int .i64 0):=HV5.out.cell (i:=2) (by omega);have y3:w5.cell? ⟨w.heap.size+1+1+1,3,none⟩=some (.int .i64 0):=HV5.out.cell (i:=3) (by omega);have f0:=HV5.out.frozen 0;have f1:=HV5.out.frozen 1;have f2:=HV5.out.frozen 2;have f3:=HV5.out.frozen 3;have hs:=RowF.lt HV5.out;simp only [thrV];go_wp2;refine bodyPost_ret (v:=thrV m0 m1 m2 m3 mb) (by simp [thrV,results,Tryz.results95,go_sem, *]) rfl ?_;exact ⟨by rw [HVV.out],below_set4 HB5.out (by omega) _ _ _ _⟩
end X
namespace X
open Go.RowKit
def hasAt (xs:List Int) (H V M D:Int) (k:Nat):Bool:=decide (nth xs (k*4)=H) && (decide (nth xs (k*4+1)=V) && (decide (nth xs (k*4+2)=M) && decide (nth xs (k*4+3)=D)))
def hasTo (xs:List Int) (H V M D:Int):Nat->Bool
 | 0=>false
 | k+1=>hasTo xs H V M D k || hasAt xs H V M D k
theorem hasTo_mem {xs:List Int} {H V M D:Int} {k:Nat} (h:hasAt xs H V M D k=true):∀ {n:Nat},k<n->hasTo xs H V M D n=true
 | n+1,hk=>by
  by_cases e:k=n
  ·subst e; simp [hasTo,h]
  ·simp [hasTo,hasTo_mem h (n:=n) (by omega)]
theorem hasTo_step {xs:List Int} {H V M D:Int} {k:Nat} (h0:hasTo xs H V M D k=false) (h:hasAt xs H V M D k=false):hasTo xs H V M D (k+1)=false:=by simp [hasTo,h0,h]
section
variable (rs : List Int) (n : Nat)
def crB (i k m:Nat):Bool:=solB (nth rs (i*4)) (nth rs (i*4+1)) (nth rs (i*4+2)) (nth rs (i*4+3)) (nth rs (k*4)) (nth rs (k*4+1)) (nth rs (k*4+2)) (nth rs (k*4+3)) (nth rs (m*4)) (nth rs (m*4+1)) (nth rs (m*4+2)) (nth rs (m*4+3))
def crI (i k m:Nat) (x:Int):Int:=solI (nth rs (i*4)) (nth rs (i*4+1)) (nth rs (i*4+2)) (nth rs (i*4+3)) (nth rs (k*4)) (nth rs (k*4+1)) (nth rs (k*4+2)) (nth rs (k*4+3)) (nth rs (m*4)) (nth rs (m*4+1)) (nth rs (m*4+2)) (nth rs (m*4+3)) x
def crH (i k m:Nat):Int:=crI rs i k m (det9 (nth rs (i*4+3)) (nth rs (i*4+1)) (nth rs (i*4+2)) (nth rs (k*4+3)) (nth rs (k*4+1)) (nth rs (k*4+2)) (nth rs (m*4+3)) (nth rs (m*4+1)) (nth rs (m*4+2)))
def crV (i k m:Nat):Int:=crI rs i k m (det9 (nth rs (i*4)) (nth rs (i*4+3)) (nth rs (i*4+2)) (nth rs (k*4)) (nth rs (k*4+3)) (nth rs (k*4+2)) (nth rs (m*4)) (nth rs (m*4+3)) (nth rs (m*4+2)))
def crM (i k m:Nat):Int:=crI rs i k m (det9 (nth rs (i*4)) (nth rs (i*4+1)) (nth rs (i*4+3)) (nth rs (k*4)) (nth rs (k*4+1)) (nth rs (k*4+3)) (nth rs (m*4)) (nth rs (m*4+1)) (nth rs (m*4+3)))
def crD (i k m:Nat):Int:=crI rs i k m (solD (nth rs (i*4)) (nth rs (i*4+1)) (nth rs (i*4+2)) (nth rs (i*4+3)) (nth rs (k*4)) (nth rs (k*4+1)) (nth rs (k*4+2)) (nth rs (k*4+3)) (nth rs (m*4)) (nth rs (m*4+1)) (nth rs (m*4+2)) (nth rs (m*4+3)))
theorem crV_eq (i k m:Nat):solV (nth rs (i*4)) (nth rs (i*4+1)) (nth rs (i*4+2)) (nth rs (i*4+3)) (nth rs (k*4)) (nth rs (k*4+1)) (nth rs (k*4+2)) (nth rs (k*4+3)) (nth rs (m*4)) (nth rs (m*4+1)) (nth rs (m*4+2)) (nth rs (m*4+3))=thrV (crH rs i k m) (crV rs i k m) (crM rs i k m) (crD rs i k m) (crB rs i k m):=rfl
theorem cr_thr {i k m:Nat} (h:crB rs i k m=true):thrB (crH rs i k m) (crV rs i k m) (crM rs i k m) (crD rs i k m)=true:=mkI_thr h
def metAt (H V M D:Int) (x:Nat):Bool:=metB (nth rs (x*4)) (nth rs (x*4+1)) (nth rs (x*4+2)) (nth rs (x*4+3)) H V M D
def crAll (i k m:Nat):Bool:=allB (metAt rs (crH rs i k m) (crV rs i k m) (crM rs i k m) (crD rs i k m)) n
def crHas (acc:List Int) (i k m:Nat):Bool:=hasTo acc (crH rs i k m) (crV rs i k m) (crM rs i k m) (crD rs i k m) (acc.length / 4)
def crStep (i k m:Nat) (acc:List Int):List Int:=if (crB rs i k m && (!crHas rs acc i k m && crAll rs n i k m))=true then acc ++ [crH rs i k m,crV rs i k m,crM rs i k m,crD rs i k m] else acc
def foldN (f:Nat->List Int->List Int):Nat->List Int->List Int
 | 0,a=>a
 | j+1,a=>f j (foldN f j a)
def corM (i k:Nat) (acc:List Int) (t:Nat):List Int:=foldN (fun j a=>crStep rs n i k (k+1+j) a) t acc
def corK (i:Nat) (acc:List Int) (t:Nat):List Int:=foldN (fun j a=>corM rs n i (i+1+j) a (n - (i+1+j+1))) t acc
def corI (t:Nat):List Int:=foldN (fun i a=>corK rs n i a (n - (i+1))) t []
def cornB:Bool:=allB (rowAt rs) n && inB (n:Int) 3 20
def cornL:List Int:=if cornB rs n=true then corI rs n n else []
end
variable {rs : List Int} {n : Nat}
theorem crStep_t {i k m:Nat} {acc:List Int} (h1:crB rs i k m=true) (h2:crHas rs acc i k m=false) (h3:crAll rs n i k m=true):crStep rs n i k m acc=acc ++ [crH rs i k m,crV rs i k m,crM rs i k m,crD rs i k m]:=by simp [crStep,h1,h2,h3]
theorem crStep_1 {i k m:Nat} (acc:List Int) (h:crB rs i k m=false):crStep rs n i k m acc=acc:=by simp [crStep,h]
theorem crStep_2 {i k m:Nat} {acc:List Int} (h:crHas rs acc i k m=true):crStep rs n i k m acc=acc:=by simp [crStep,h]
theorem crStep_3 {i k m:Nat} (acc:List Int) (h:crAll rs n i k m=false):crStep rs n i k m acc=acc:=by simp [crStep,h]
structure CrFacts (rs:List Int) (n i k m:Nat) (acc:List Int) (H V M D:Int) (B:Bool):Prop where
 thr:B=true->thrB H V M D=true
 no:B=false->crStep rs n i k m acc=acc
 has:hasTo acc H V M D (acc.length / 4)=true->crStep rs n i k m acc=acc
 all0:allB (metAt rs H V M D) n=false->crStep rs n i k m acc=acc
 yes:B=true->hasTo acc H V M D (acc.length / 4)=false->allB (metAt rs H V M D) n=true->crStep rs n i k m acc=acc ++ [H,V,M,D]
theorem crFacts (rs:List Int) (n i k m:Nat) (acc:List Int):CrFacts rs n i k m acc (crH rs i k m) (crV rs i k m) (crM rs i k m) (crD rs i k m) (crB rs i k m) :=
 ⟨cr_thr rs,crStep_1 acc,crStep_2,crStep_3 acc,crStep_t⟩
theorem cr_names (rs:List Int) (n i k m:Nat) (acc:List Int):∃ (H V M D:Int) (B:Bool),CrFacts rs n i k m acc H V M D B/\solV (nth rs (i*4)) (nth rs (i*4+1)) (nth rs (i*4+2)) (nth rs (i*4+3)) (nth rs (k*4)) (nth rs (k*4+1)) (nth rs (k*4+2)) (nth rs (k*4+3)) (nth rs (m*4)) (nth rs (m*4+1)) (nth rs (m*4+2)) (nth rs (m*4+3))=thrV H V M D B :=
 ⟨_,_,_,_,_,crFacts rs n i k m acc,crV_eq rs i k m⟩
theorem corM_s (i k:Nat) (acc:List Int) (t:Nat):corM rs n i k acc (t+1)=crStep rs n i k (k+1+t) (corM rs n i k acc t):=rfl
theorem corK_s (i:Nat) (acc:List Int) (t:Nat):corK rs n i acc (t+1)=corM rs n i (i+1+t) (corK rs n i acc t) (n - (i+1+t+1)):=rfl
theorem corI_s (t:Nat):corI rs n (t+1)=corK rs n t (corI rs n t) (n - (t+1)):=rfl
theorem cornL_f (h:cornB rs n=false):cornL rs n = []:=by simp [cornL,h]
theorem cornL_t (h:cornB rs n=true):cornL rs n=corI rs n n:=by simp [cornL,h]
theorem cornB_1 {k:Nat} (hk:k<n) (h:rowAt rs k=false):cornB rs n=false:=by simp [cornB,allB_f hk h]
theorem cornB_2 (h:inB (n:Int) 3 20=false):cornB rs n=false:=by simp [cornB,h]
theorem cornB_t (h:allTo (rowAt rs) n) (h2:inB (n:Int) 3 20=true):cornB rs n=true:=by simp [cornB,allB_t h,h2]
structure CorAcc (acc:List Int) (q b:Nat):Prop where
 len:acc.length=q*4
 few:q<=b
theorem crStep_acc {i k m:Nat} {acc:List Int} {q b:Nat} (h:CorAcc acc q b):∃ q',CorAcc (crStep rs n i k m acc) q' (b+1):=by
 unfold crStep;split
 ·exact ⟨q+1,by simp [h.len]; omega,by have:=h.few; omega⟩
 ·exact ⟨q,h.len,by have:=h.few; omega⟩
theorem corM_acc {i k:Nat} {acc:List Int} {q b:Nat} (h:CorAcc acc q b):∀ t,∃ q',CorAcc (corM rs n i k acc t) q' (b+t)
 | 0=>⟨q,h⟩
 | t+1=>by obtain ⟨q',h'⟩:=corM_acc h t; rw [corM_s]; exact crStep_acc h'
theorem corK_acc {i:Nat} {acc:List Int} {q b:Nat} (hn:n<=20) (h:CorAcc acc q b):∀ t,∃ q',CorAcc (corK rs n i acc t) q' (b+20*t)
 | 0=>⟨q,h⟩
 | t+1=>by
  obtain ⟨q',h'⟩:=corK_acc hn h t;obtain ⟨q2,h2⟩:=corM_acc (rs:=rs) (n:=n) (i:=i) (k:=i+1+t) h' (n - (i+1+t+1));rw [corK_s];exact ⟨q2,h2.len,by have:=h2.few; omega⟩
theorem corI_acc (hn:n<=20):∀ t,∃ q',CorAcc (corI rs n t) q' (400*t)
 | 0=>⟨0,rfl,Nat.le_refl _⟩
 | t+1=>by
  obtain ⟨q',h'⟩:=corI_acc hn t;obtain ⟨q2,h2⟩:=corK_acc (rs:=rs) (n:=n) (i:=t) hn h' (n - (t+1));rw [corI_s];exact ⟨q2,h2.len,by have:=h2.few; omega⟩
def cornN (rs:List Int) (n:Nat):Nat:=(cornL rs n).length / 4
theorem corn_acc (rs:List Int) (n:Nat):CorAcc (cornL rs n) (cornN rs n) 8000:=by
 cases e:cornB rs n
 ·rw [cornN,cornL_f e]; exact ⟨rfl,by simp⟩
 ·have hn:n<=20:=by simp only [cornB,Bool.and_eq_true,inB_iff] at e; omega
  obtain ⟨q,h⟩:=corI_acc (rs:=rs) hn n;rw [cornN,cornL_t e];have h1:=h.len;exact ⟨by omega,by have:=h.few; omega⟩
end X
end Go.Proofs.YtjcgklifabcfkaaGreat
