/-
  Texts that the law stands on, part 13.
-/
import Derived.Test.YtodneggnnipcnaaGreatH1
import Derived.Test.YtodneggnnipcnaaGreatH11
import Derived.WalkMore
import Derived.Deep.DeepCutAuto
set_option maxRecDepth 100000
set_option linter.unusedVariables false
set_option linter.unusedSimpArgs false
namespace Go.Proofs.YtodneggnnipcnaaGreat
section
open Go.RowKit
theorem mkBd_at {h v m d:Int} {k:Nat} (hk:k<4) (e:inB (nth [h,v,m,d] k) (-4000000000000000000) 4000000000000000000=false):mkBd h v m d=false:=by
 match k,hk with
 | 0,_=>simp only [nth] at e; simp at e; simp [mkBd,e]
 | 1,_=>simp only [nth] at e; simp at e; simp [mkBd,e]
 | 2,_=>simp only [nth] at e; simp at e; simp [mkBd,e]
 | 3,_=>simp only [nth] at e; simp at e; simp [mkBd,e]
theorem mkBd_all {h v m d:Int} (e:∀ k,k<4→inB (nth [h,v,m,d] k) (-4000000000000000000) 4000000000000000000=true):mkBd h v m d=true:=by
 have e0:=e 0 (by omega);have e1:=e 1 (by omega);have e2:=e 2 (by omega);have e3:=e 3 (by omega);simp only [nth] at e0 e1 e2 e3;simp at e0 e1 e2 e3;simp [mkBd,e0,e1,e2,e3]
set_option maxRecDepth 100000 in
set_option maxHeartbeats 3200000 in
theorem iMake_any (h v m d:Int) (w:World) :
  Calls Tryz.prog 172 #[.int .i64 h,.int .i64 v,.int .i64 m,.int .i64 d] w fun e w'=>e = .returned (mkV h v m d)∧Below w.heap.size w w':=by
 have HA:=Lib.hid ((Below.refl w.heap.size w).alloc (Nat.le_refl _) (.cells #[.int .i64 0,.int .i64 0,.int .i64 0,.int .i64 0] 40));have HA2:=Lib.hid (HA.out.alloc (by simp) (.cells #[.int .i64 h,.int .i64 v,.int .i64 m,.int .i64 d] 3));have HI:Hid (RowF ((w.alloc (.cells #[.int .i64 0,.int .i64 0,.int .i64 0,.int .i64 0] 40)).alloc (.cells #[.int .i64 h,.int .i64 v,.int .i64 m,.int .i64 d] 3)) (w.heap.size+1) 3 4 (ints [h,v,m,d])):=Lib.hid (by
  have e:=RowF.of_row (World.rowIs_alloc (w.alloc (.cells #[.int .i64 0,.int .i64 0,.int .i64 0,.int .i64 0] 40)) #[.int .i64 h,.int .i64 v,.int .i64 m,.int .i64 d] 3 (ints [h,v,m,d]) (fun i hi=>by simp at hi; match i,hi with | 0,_=>rfl | 1,_=>rfl | 2,_=>rfl | 3,_=>rfl))
  simp only [World.size_alloc] at e;exact e)
 go_enter Tryz.func172,Tryz.ntmps172;go_wp2;go_loopw [11,20] (fun v11 v20 wr=>∃ k:Nat,v20 = .int .i64 k∧k≤4∧wr=((w.alloc (.cells #[.int .i64 0,.int .i64 0,.int .i64 0,.int .i64 0] 40)).alloc (.cells #[.int .i64 h,.int .i64 v,.int .i64 m,.int .i64 d] 3))∧Hid (∀ i,i<k→inB (nth [h,v,m,d] i) (-4000000000000000000) 4000000000000000000=true)) (fun _ v20 _=>4 - (intOf v20).toNat)
 case atStart=>exact ⟨0,rfl,Nat.zero_le _,rfl,Lib.hid (fun i hi=>absurd hi (by omega))⟩
 case round =>
  obtain ⟨k,rfl,hk,rfl,HP⟩:=hrel;by_cases hlt:k<4
  ·have hx:((w.alloc (.cells #[.int .i64 0,.int .i64 0,.int .i64 0,.int .i64 0] 40)).alloc (.cells #[.int .i64 h,.int .i64 v,.int .i64 m,.int .i64 d] 3)).cell? ⟨w.heap.size+1,k,none⟩=some (.int .i64 (nth [h,v,m,d] k)):=HI.out.cell hlt
   have HK:=Lib.hid (fun e=>mkBd_at (h:=h) (v:=v) (m:=m) (d:=d) hlt e);have ki:(k:Int)<4:=by omega
   cases hb:inB (nth [h,v,m,d] k) (-4000000000000000000) 4000000000000000000
   ·have HF:=Lib.hid (mkV_f (mkB_1 (HK.out hb)))
    clear HK;generalize nth [h,v,m,d] k=x at *
    go_wp2_with (go_at_call 80; refine (within_any _ _ _ _).mono ?_; rw [hb]; rintro e w' ⟨rfl,rfl⟩);refine bodyPost_ret (v:=thrV 0 0 0 0 false) (by simp [thrV,results,Tryz.results172,go_sem, *]) rfl ?_;exact ⟨by rw [HF.out],HA2.out⟩
   ·have HP1:Hid (∀ i,i<k+1→inB (nth [h,v,m,d] i) (-4000000000000000000) 4000000000000000000=true):=Lib.hid (fun i hi=>by
     by_cases e:i=k
     ·subst e; exact hb
     ·exact HP.out i (by omega))
    clear HK;generalize nth [h,v,m,d] k=x at hx hb;go_wp2_with (go_at_call 80; refine (within_any _ _ _ _).mono ?_; rw [hb]; rintro e w' ⟨rfl,rfl⟩);go_roundw
    case rel=>exact ⟨k+1,by go_num,by omega,trivial,HP1⟩
    case measure=>simp [intOf]; omega
  ·obtain rfl:k=4:=by omega
   have hbd:=mkBd_all HP.out;by_cases h0:d=0
   ·have HF:=Lib.hid (mkV_f (mkB_0 h v m h0))
    subst h0;go_wp2;refine bodyPost_ret (v:=thrV 0 0 0 0 false) (by simp [thrV,results,Tryz.results172,go_sem, *]) rfl ?_;exact ⟨by rw [HF.out],HA2.out⟩
   have hd0:(d == 0)=false:=by simp [h0]
   obtain ⟨o1,o2,o3,o4⟩:=mkBd_out hbd;have o7:okG (gcd4 h v m d:Nat):=okG_gcd (okG_gcd o1 o2) (okG_gcd o3 o4);have HG4:=Lib.hid (show ((Nat.gcd (Nat.gcd h.natAbs v.natAbs) (Nat.gcd m.natAbs d.natAbs):Nat):Int)=(gcd4 h v m d:Nat) from rfl);have o8:=okG_neg o7;have HNE:=Lib.hid (mkG_ne h v m h0);have HT:Hid (mkT h v m d=thrB (Int.tdiv h (mkG h v m d)) (Int.tdiv v (mkG h v m d)) (Int.tdiv m (mkG h v m d)) (Int.tdiv d (mkG h v m d))):=rfl;have HGN:Hid (d<0→mkG h v m d = -(gcd4 h v m d:Int)):=Lib.hid fun e=>by simp [mkG,e]
   have HGP:Hid (¬ d<0→mkG h v m d=(gcd4 h v m d:Int)):=Lib.hid fun e=>by simp [mkG,e]
   have q1:=okG_wrap (tdiv_bd (g:=mkG h v m d) o1);have q2:=okG_wrap (tdiv_bd (g:=mkG h v m d) o2);have q3:=okG_wrap (tdiv_bd (g:=mkG h v m d) o3);have q4:=okG_wrap (tdiv_bd (g:=mkG h v m d) o4);have HMF:=Lib.hid (fun e=>mkV_f (mkB_2 (h:=h) (v:=v) (m:=m) (d:=d) e));have HMT:=Lib.hid (fun e=>mkV_t (mkB_t h0 hbd e));obtain ⟨G,hG⟩:∃ G,mkG h v m d=G:=⟨_,rfl⟩;rw [hG] at HNE HT HGN HGP q1 q2 q3 q4 HMT;have hg1:¬ G=0:=HNE.out;have HOK:Hid (∀ k,okG (nth [h,v,m,d] k)):=okG_nth4 o1 o2 o3 o4;have HGT:Hid (gcdTo [h,v,m,d] 4=gcd4 h v m d):=Lib.hid (gcdTo_4 _ _ _ _);clear HP;go_wp2_with fail
   have hx:IntsAt (((w.alloc (.cells #[.int .i64 0,.int .i64 0,.int .i64 0,.int .i64 0] 40)).alloc (.cells #[.int .i64 h,.int .i64 v,.int .i64 m,.int .i64 d] 3)).alloc (.cells #[.int .i64 h,.int .i64 v,.int .i64 m,.int .i64 d] 3)) (((w.alloc (.cells #[.int .i64 0,.int .i64 0,.int .i64 0,.int .i64 0] 40)).alloc (.cells #[.int .i64 h,.int .i64 v,.int .i64 m,.int .i64 d] 3)).alloc (.cells #[.int .i64 h,.int .i64 v,.int .i64 m,.int .i64 d] 3)).heap.size (some ⟨w.heap.size+1+1,0,none⟩) 4 [h,v,m,d]:=by
    have h:=intsAt_row (World.rowIs_alloc ((w.alloc (.cells #[.int .i64 0,.int .i64 0,.int .i64 0,.int .i64 0] 40)).alloc (.cells #[.int .i64 h,.int .i64 v,.int .i64 m,.int .i64 d] 3)) #[.int .i64 h,.int .i64 v,.int .i64 m,.int .i64 d] 3 (ints [h,v,m,d]) (fun j hj=>by simp at hj; match j,hj with | 0,_=>rfl | 1,_=>rfl | 2,_=>rfl | 3,_=>rfl)) (zs := [h,v,m,d]) (by simp) (fun k _=>rfl)
    simp only [World.size_alloc] at h ⊢;exact h
   refine (commonDivisor_any _ _ _ [h,v,m,d] _ (by exact hx) (by omega) HOK.out).mono ?_;rintro e w1 ⟨rfl,n1,rfl⟩;rw [HGT.out];clear hx HOK HGT HG4;have HV:Hid (RowF (w.alloc (.cells #[.int .i64 0,.int .i64 0,.int .i64 0,.int .i64 0] 40)) w.heap.size 40 4 (fun _ => .int .i64 0)) :=
    Lib.hid (RowF.of_row (World.rowIs_alloc w #[.int .i64 0,.int .i64 0,.int .i64 0,.int .i64 0] 40 (fun _ => .int .i64 0) (fun i hi=>by simp at hi; match i,hi with | 0,_=>rfl | 1,_=>rfl | 2,_=>rfl | 3,_=>rfl)))
   have HV5:=Lib.hid (((HV.out.alloc (.cells #[.int .i64 h,.int .i64 v,.int .i64 m,.int .i64 d] 3)).alloc (.cells #[.int .i64 h,.int .i64 v,.int .i64 m,.int .i64 d] 3)).drewN n1);have HB5:=Lib.hid (below_drewN ((HA.out.alloc (by simp) (.cells #[.int .i64 h,.int .i64 v,.int .i64 m,.int .i64 d] 3)).alloc (by simp; omega) (.cells #[.int .i64 h,.int .i64 v,.int .i64 m,.int .i64 d] 3)) n1)
   obtain ⟨w5,hw5⟩:∃ w5,(((w.alloc (.cells #[.int .i64 0,.int .i64 0,.int .i64 0,.int .i64 0] 40)).alloc (.cells #[.int .i64 h,.int .i64 v,.int .i64 m,.int .i64 d] 3)).alloc (.cells #[.int .i64 h,.int .i64 v,.int .i64 m,.int .i64 d] 3)).drewN n1=w5:=⟨_,rfl⟩;rw [hw5] at HV5 HB5 ⊢;clear hw5 HV HA;by_cases hneg:d<0
   ·have o9:IntKind.i64.wrap (-(gcd4 h v m d:Int))=G:=by rw [o8,HGN.out hneg]
    clear o8;go_wp2;go_region
    have HV6:=Lib.hid (HV5.out.after (below_dr ((Below.refl _ _).alloc (Nat.le_refl _) (.cells #[.int .i64 (h.tdiv G),.int .i64 (v.tdiv G),.int .i64 (m.tdiv G),.int .i64 (d.tdiv G)] 40))));have HB6:=Lib.hid (below_dr (HB5.out.alloc HB5.out.size (.cells #[.int .i64 (h.tdiv G),.int .i64 (v.tdiv G),.int .i64 (m.tdiv G),.int .i64 (d.tdiv G)] 40)));have HX6:Hid (RowF (w5.alloc (.cells #[.int .i64 (h.tdiv G),.int .i64 (v.tdiv G),.int .i64 (m.tdiv G),.int .i64 (d.tdiv G)] 40)).drew w5.heap.size 40 4 (ints [h.tdiv G,v.tdiv G,m.tdiv G,d.tdiv G])) :=
     Lib.hid (RowF.of_row (World.rowIs_alloc w5 #[.int .i64 (h.tdiv G),.int .i64 (v.tdiv G),.int .i64 (m.tdiv G),.int .i64 (d.tdiv G)] 40 (ints [h.tdiv G,v.tdiv G,m.tdiv G,d.tdiv G]) (fun i hi=>by simp at hi; match i,hi with | 0,_=>rfl | 1,_=>rfl | 2,_=>rfl | 3,_=>rfl)))
    obtain ⟨w6,hw6⟩:∃ w6,(w5.alloc (.cells #[.int .i64 (h.tdiv G),.int .i64 (v.tdiv G),.int .i64 (m.tdiv G),.int .i64 (d.tdiv G)] 40)).drew=w6:=⟨_,rfl⟩;rw [hw6] at HV6 HB6 HX6 ⊢;have x0:w6.cell? ⟨w5.heap.size,0,none⟩=some (.int .i64 (h.tdiv G)):=HX6.out.cell (i:=0) (by omega);have x1:w6.cell? ⟨w5.heap.size,1,none⟩=some (.int .i64 (v.tdiv G)):=HX6.out.cell (i:=1) (by omega);have x2:w6.cell? ⟨w5.heap.size,2,none⟩=some (.int .i64 (m.tdiv G)):=HX6.out.cell (i:=2) (by omega);have x3:w6.cell? ⟨w5.heap.size,3,none⟩=some (.int .i64 (d.tdiv G)):=HX6.out.cell (i:=3) (by omega);clear hw6 HV5 HB5;go_wp2_with fail
    refine (iThrustOk_any _ _ _ _ _).mono ?_;rw [← HT.out];rintro e w7 ⟨rfl,hb7⟩;have HV7:=Lib.hid (HV6.out.after hb7);have HX7:=Lib.hid (HX6.out.after hb7);have HB7:=Lib.hid (below_then HB6.out hb7);clear HV6 HB6 HX6 x0 x1 x2 x3 hb7;have x0:w7.cell? ⟨w5.heap.size,0,none⟩=some (.int .i64 (h.tdiv G)):=HX7.out.cell (i:=0) (by omega);have x1:w7.cell? ⟨w5.heap.size,1,none⟩=some (.int .i64 (v.tdiv G)):=HX7.out.cell (i:=1) (by omega);have x2:w7.cell? ⟨w5.heap.size,2,none⟩=some (.int .i64 (m.tdiv G)):=HX7.out.cell (i:=2) (by omega);have x3:w7.cell? ⟨w5.heap.size,3,none⟩=some (.int .i64 (d.tdiv G)):=HX7.out.cell (i:=3) (by omega);have y0:w7.cell? ⟨w.heap.size,0,none⟩=some (.int .i64 0):=HV7.out.cell (i:=0) (by omega);have y1:w7.cell? ⟨w.heap.size,1,none⟩=some (.int .i64 0):=HV7.out.cell (i:=1) (by omega);have y2:w7.cell? ⟨w.heap.size,2,none⟩=some (.int .i64 0):=HV7.out.cell (i:=2) (by omega);have y3:w7.cell? ⟨w.heap.size,3,none⟩=some (.int .i64 0):=HV7.out.cell (i:=3) (by omega);have f0:=HV7.out.frozen 0;have f1:=HV7.out.frozen 1;have f2:=HV7.out.frozen 2;have f3:=HV7.out.frozen 3;have hs:=RowF.lt HV7.out;cases ht:mkT h v m d
    ·have HF:=Lib.hid (HMF.out ht)
     go_wp2;refine bodyPost_ret (v:=thrV 0 0 0 0 false) (by simp [thrV,results,Tryz.results172,go_sem, *]) rfl ?_;exact ⟨by rw [HF.out],below_set4 HB7.out (Nat.le_refl _) _ _ _ _⟩
    ·have HF:=Lib.hid (HMT.out ht)
     go_wp2;refine bodyPost_ret (v:=thrV (h.tdiv G) (v.tdiv G) (m.tdiv G) (d.tdiv G) true) (by simp [thrV,results,Tryz.results172,go_sem, *]) rfl ?_;exact ⟨by rw [HF.out],below_set4 HB7.out (Nat.le_refl _) _ _ _ _⟩
   ·rw [← HGP.out (by omega)]
    go_wp2;go_region
    have HV6:=Lib.hid (HV5.out.after (below_dr ((Below.refl _ _).alloc (Nat.le_refl _) (.cells #[.int .i64 (h.tdiv G),.int .i64 (v.tdiv G),.int .i64 (m.tdiv G),.int .i64 (d.tdiv G)] 40))));have HB6:=Lib.hid (below_dr (HB5.out.alloc HB5.out.size (.cells #[.int .i64 (h.tdiv G),.int .i64 (v.tdiv G),.int .i64 (m.tdiv G),.int .i64 (d.tdiv G)] 40)));have HX6:Hid (RowF (w5.alloc (.cells #[.int .i64 (h.tdiv G),.int .i64 (v.tdiv G),.int .i64 (m.tdiv G),.int .i64 (d.tdiv G)] 40)).drew w5.heap.size 40 4 (ints [h.tdiv G,v.tdiv G,m.tdiv G,d.tdiv G])) :=
     Lib.hid (RowF.of_row (World.rowIs_alloc w5 #[.int .i64 (h.tdiv G),.int .i64 (v.tdiv G),.int .i64 (m.tdiv G),.int .i64 (d.tdiv G)] 40 (ints [h.tdiv G,v.tdiv G,m.tdiv G,d.tdiv G]) (fun i hi=>by simp at hi; match i,hi with | 0,_=>rfl | 1,_=>rfl | 2,_=>rfl | 3,_=>rfl)))
    obtain ⟨w6,hw6⟩:∃ w6,(w5.alloc (.cells #[.int .i64 (h.tdiv G),.int .i64 (v.tdiv G),.int .i64 (m.tdiv G),.int .i64 (d.tdiv G)] 40)).drew=w6:=⟨_,rfl⟩;rw [hw6] at HV6 HB6 HX6 ⊢;have x0:w6.cell? ⟨w5.heap.size,0,none⟩=some (.int .i64 (h.tdiv G)):=HX6.out.cell (i:=0) (by omega);have x1:w6.cell? ⟨w5.heap.size,1,none⟩=some (.int .i64 (v.tdiv G)):=HX6.out.cell (i:=1) (by omega);have x2:w6.cell? ⟨w5.heap.size,2,none⟩=some (.int .i64 (m.tdiv G)):=HX6.out.cell (i:=2) (by omega);have x3:w6.cell? ⟨w5.heap.size,3,none⟩=some (.int .i64 (d.tdiv G)):=HX6.out.cell (i:=3) (by omega);clear hw6 HV5 HB5;go_wp2_with fail
    refine (iThrustOk_any _ _ _ _ _).mono ?_;rw [← HT.out];rintro e w7 ⟨rfl,hb7⟩;have HV7:=Lib.hid (HV6.out.after hb7);have HX7:=Lib.hid (HX6.out.after hb7);have HB7:=Lib.hid (below_then HB6.out hb7);clear HV6 HB6 HX6 x0 x1 x2 x3 hb7;have x0:w7.cell? ⟨w5.heap.size,0,none⟩=some (.int .i64 (h.tdiv G)):=HX7.out.cell (i:=0) (by omega);have x1:w7.cell? ⟨w5.heap.size,1,none⟩=some (.int .i64 (v.tdiv G)):=HX7.out.cell (i:=1) (by omega);have x2:w7.cell? ⟨w5.heap.size,2,none⟩=some (.int .i64 (m.tdiv G)):=HX7.out.cell (i:=2) (by omega);have x3:w7.cell? ⟨w5.heap.size,3,none⟩=some (.int .i64 (d.tdiv G)):=HX7.out.cell (i:=3) (by omega);have y0:w7.cell? ⟨w.heap.size,0,none⟩=some (.int .i64 0):=HV7.out.cell (i:=0) (by omega);have y1:w7.cell? ⟨w.heap.size,1,none⟩=some (.int .i64 0):=HV7.out.cell (i:=1) (by omega);have y2:w7.cell? ⟨w.heap.size,2,none⟩=some (.int .i64 0):=HV7.out.cell (i:=2) (by omega);have y3:w7.cell? ⟨w.heap.size,3,none⟩=some (.int .i64 0):=HV7.out.cell (i:=3) (by omega);have f0:=HV7.out.frozen 0;have f1:=HV7.out.frozen 1;have f2:=HV7.out.frozen 2;have f3:=HV7.out.frozen 3;have hs:=RowF.lt HV7.out;cases ht:mkT h v m d
    ·have HF:=Lib.hid (HMF.out ht)
     go_wp2;refine bodyPost_ret (v:=thrV 0 0 0 0 false) (by simp [thrV,results,Tryz.results172,go_sem, *]) rfl ?_;exact ⟨by rw [HF.out],below_set4 HB7.out (Nat.le_refl _) _ _ _ _⟩
    ·have HF:=Lib.hid (HMT.out ht)
     go_wp2;refine bodyPost_ret (v:=thrV (h.tdiv G) (v.tdiv G) (m.tdiv G) (d.tdiv G) true) (by simp [thrV,results,Tryz.results172,go_sem, *]) rfl ?_;exact ⟨by rw [HF.out],below_set4 HB7.out (Nat.le_refl _) _ _ _ _⟩
end
section
open Go.RowKit
theorem det9_T (a0 a1 a2 b0 b1 b2 c0 c1 c2:Int):det9 a0 a1 a2 b0 b1 b2 c0 c1 c2=det9 a0 b0 c0 a1 b1 c1 a2 b2 c2:=by
 unfold det9;simp only [Int.mul_sub,← Int.mul_assoc];have e1:a2*b0*c1=b0*c1*a2:=by rw [Int.mul_assoc,Int.mul_comm]
 have e2:a2*b1*c0=c0*b1*a2:=by rw [Int.mul_assoc,Int.mul_comm a2,Int.mul_comm b1 c0]
 have e3:a1*b0*c2=b0*a1*c2:=by rw [Int.mul_comm a1 b0]
 have e4:a1*b2*c0=c0*a1*b2:=by rw [Int.mul_assoc,Int.mul_comm b2 c0,← Int.mul_assoc,Int.mul_comm a1 c0]
 have e5:a0*b2*c1=a0*c1*b2:=by rw [Int.mul_assoc,Int.mul_comm b2 c1,← Int.mul_assoc]
 have e6:b0*c1*a2=b0*c1*a2:=rfl;omega
theorem detBdT {x0 x1 x2 y0 y1 y2 z0 z1 z2 P Q R:Int} (hx:(-P≤x0∧x0≤P)∧(-P≤x1∧x1≤P)∧(-P≤x2∧x2≤P)) (hy:(-Q≤y0∧y0≤Q)∧(-Q≤y1∧y1≤Q)∧(-Q≤y2∧y2≤Q)) (hz:(-R≤z0∧z0≤R)∧(-R≤z1∧z1≤R)∧(-R≤z2∧z2≤R))
  (hk:Q*R≤1000000000000000000∧P*(2*(Q*R))≤1000000000000000000):DetBd x0 x1 x2 y0 y1 y2 z0 z1 z2:=by
 obtain ⟨a0',a1',a2'⟩:=hx;obtain ⟨b0',b1',b2'⟩:=hy;obtain ⟨c0',c1',c2'⟩:=hz;obtain ⟨k1,k4⟩:=hk;have p1:=mul_bd b1' c2';have p2:=mul_bd b2' c1';have p3:=mul_bd b0' c2';have p4:=mul_bd b2' c0';have p5:=mul_bd b0' c1';have p6:=mul_bd b1' c0';have q1:=mul_bd (b:=y1*z2 - y2*z1) (n:=2*(Q*R)) a0' (by omega);have q2:=mul_bd (b:=y0*z2 - y2*z0) (n:=2*(Q*R)) a1' (by omega);have q3:=mul_bd (b:=y0*z1 - y1*z0) (n:=2*(Q*R)) a2' (by omega);exact ⟨by omega,by omega,by omega,by omega,by omega,by omega,by omega,by omega,by omega⟩
theorem rows_detT {pa pb pc pd qa qb qc qd ra rb rc rd:Int} (hp:rowB pa pb pc pd=true) (hq:rowB qa qb qc qd=true) (hr:rowB ra rb rc rd=true) :
  DetBd pa qa ra pb qb rb pc qc rc∧DetBd pd qd rd pb qb rb pc qc rc∧DetBd pa qa ra pd qd rd pc qc rc∧DetBd pa qa ra pb qb rb pd qd rd:=by
 rw [rowB_iff] at hp hq hr;exact ⟨detBdT (P:=100) (Q:=100) (R:=1) (by omega) (by omega) (by omega) (by decide),detBdT (P:=1000000000) (Q:=100) (R:=1) (by omega) (by omega) (by omega) (by decide),detBdT (P:=100) (Q:=1000000000) (R:=1) (by omega) (by omega) (by omega) (by decide),detBdT (P:=100) (Q:=100) (R:=1000000000) (by omega) (by omega) (by omega) (by decide)⟩
set_option maxRecDepth 100000 in
set_option maxHeartbeats 1600000 in
theorem iDet_any (a0 a1 a2 b0 b1 b2 c0 c1 c2:Int) (w:World) (hb:DetBd a0 a1 a2 b0 b1 b2 c0 c1 c2) :
  Calls Tryz.prog 173 #[.agg #[.int .i64 a0,.int .i64 a1,.int .i64 a2],.agg #[.int .i64 b0,.int .i64 b1,.int .i64 b2],.agg #[.int .i64 c0,.int .i64 c1,.int .i64 c2]] w fun e w'=>e = .returned (.int .i64 (det9 a0 a1 a2 b0 b1 b2 c0 c1 c2))∧Below w.heap.size w w':=by
 obtain ⟨w1,w2,w3,w4,w5,w6,s1,s2,s3,m1,m2,m3,t1,t2⟩:=hb.wraps;have HA:=Lib.hid ((((Below.refl w.heap.size w).alloc (Nat.le_refl _) (.cells #[.int .i64 a0,.int .i64 a1,.int .i64 a2] 203)).alloc (by simp) (.cells #[.int .i64 b0,.int .i64 b1,.int .i64 b2] 203)).alloc (by simp; omega) (.cells #[.int .i64 c0,.int .i64 c1,.int .i64 c2] 203))
 go_enter Tryz.func173,Tryz.ntmps173;go_wp2;go_ret;exact ⟨rfl,HA.out⟩
end
section
open Go.RowKit
theorem step_storeRow {P:Program} {ops:Array Oper} {o:Oper} {a:Act} {w:World} {K:Act→World→Prop} {Q:Exit→Act→World→Prop} {F:Prop} (hgd:o.guard=none) (ty:TypeId) (x y:Operand) (ho:o.op = .store ty x y)
  (g:Nat) (cells:Array Value) (hx:a.eval x = .pointer (some ⟨g,0,none⟩)) (hy:a.eval y = .agg cells)
  (t:TypeId) (old:Array Value) (hg:w.heap[g]?=some (.cells old t (0,0))) (hi:(P.info? ty).map (·.size)=some cells.size)
  (hold:old.size=cells.size) (h1:cells.all (·.oneCell')=true)
  (h:∀ w',Only g w w'→w'.heap[g]?=some (.cells cells t (0,0))→K (a.put o.dst undef) w'):if Region.wanted o (yielded ops a.tmps)=true then o.wp P a w K Q else F:=by
 have hw:Region.wanted o (yielded ops a.tmps)=true:=by simp [Region.wanted,hgd]
 rw [if_pos hw];exact wp_store_row ty x y ho g cells hx hy t old hg hi hold h1 (h _ ⟨rfl,rfl,rfl,by simp,fun k hk=>setRow_other w g k cells hk⟩ (setRow_heap w g old cells t (0,0) hg))
theorem results_cell4 {P:Program} {fn:Func} {a b c d:Tmp} {ty:TypeId} (h:fn.results = #[.cell a ty,.cell b ty,.cell c ty,.cell d ty]) (tmps:Array Value) (w:World) (ga gb gc gd:Nat) (t:TypeId) (ca cb cc cd:Array Value) (fr:Nat × Nat) (e:TypeDesc)
  (pa:tmps.getD a undef = .pointer (some ⟨ga,0,none⟩)) (pb:tmps.getD b undef = .pointer (some ⟨gb,0,none⟩)) (pc:tmps.getD c undef = .pointer (some ⟨gc,0,none⟩)) (pd:tmps.getD d undef = .pointer (some ⟨gd,0,none⟩))
  (ha:w.heap[ga]?=some (.cells ca t fr)) (hb:w.heap[gb]?=some (.cells cb t fr)) (hc:w.heap[gc]?=some (.cells cc t fr)) (hd:w.heap[gd]?=some (.cells cd t fr))
  (hu:P.underlying ty=some e) (he:(match e with | .struct _ | .array _ _=>true | _=>false)=true) (ia:(P.info? ty).map (·.size)=some ca.size) (ib:(P.info? ty).map (·.size)=some cb.size) (ic:(P.info? ty).map (·.size)=some cc.size) (id:(P.info? ty).map (·.size)=some cd.size) :
  (results fn tmps).run P w = .ok (.tuple #[.agg ca,.agg cb,.agg cc,.agg cd]) w:=by
 have pa':tmps[a]?.getD undef = .pointer (some ⟨ga,0,none⟩):=by simpa using pa
 have pb':tmps[b]?.getD undef = .pointer (some ⟨gb,0,none⟩):=by simpa using pb
 have pc':tmps[c]?.getD undef = .pointer (some ⟨gc,0,none⟩):=by simpa using pc
 have pd':tmps[d]?.getD undef = .pointer (some ⟨gd,0,none⟩):=by simpa using pd
 simp [results,h,pa',pb',pc',pd',asAddr,run_loadVar_row w ga t ty ca fr e ha hu he ia,run_loadVar_row w gb t ty cb fr e hb hu he ib,run_loadVar_row w gc t ty cc fr e hc hu he ic,run_loadVar_row w gd t ty cd fr e hd hu he id]
theorem keepR {w1 w2:World} {b:Nat} {pa pb pc pd qa qb qc qd ra rb rc rd:Int} (h:(w1.cell? ⟨b,0,none⟩=some (.int .i64 pa)∧w1.cell? ⟨b,1,none⟩=some (.int .i64 pb)∧w1.cell? ⟨b,2,none⟩=some (.int .i64 pc)∧w1.cell? ⟨b,3,none⟩=some (.int .i64 pd))∧(w1.cell? ⟨b+1,0,none⟩=some (.int .i64 qa)∧w1.cell? ⟨b+1,1,none⟩=some (.int .i64 qb)∧w1.cell? ⟨b+1,2,none⟩=some (.int .i64 qc)∧w1.cell? ⟨b+1,3,none⟩=some (.int .i64 qd))∧(w1.cell? ⟨b+1+1,0,none⟩=some (.int .i64 ra)∧w1.cell? ⟨b+1+1,1,none⟩=some (.int .i64 rb)∧w1.cell? ⟨b+1+1,2,none⟩=some (.int .i64 rc)∧w1.cell? ⟨b+1+1,3,none⟩=some (.int .i64 rd))) (e:∀ x y,x<b+1+1+1→w2.cell? ⟨x,y,none⟩=w1.cell? ⟨x,y,none⟩):(w2.cell? ⟨b,0,none⟩=some (.int .i64 pa)∧w2.cell? ⟨b,1,none⟩=some (.int .i64 pb)∧w2.cell? ⟨b,2,none⟩=some (.int .i64 pc)∧w2.cell? ⟨b,3,none⟩=some (.int .i64 pd))∧(w2.cell? ⟨b+1,0,none⟩=some (.int .i64 qa)∧w2.cell? ⟨b+1,1,none⟩=some (.int .i64 qb)∧w2.cell? ⟨b+1,2,none⟩=some (.int .i64 qc)∧w2.cell? ⟨b+1,3,none⟩=some (.int .i64 qd))∧(w2.cell? ⟨b+1+1,0,none⟩=some (.int .i64 ra)∧w2.cell? ⟨b+1+1,1,none⟩=some (.int .i64 rb)∧w2.cell? ⟨b+1+1,2,none⟩=some (.int .i64 rc)∧w2.cell? ⟨b+1+1,3,none⟩=some (.int .i64 rd)):=by
 obtain ⟨⟨h1,h2,h3,h4⟩,⟨h5,h6,h7,h8⟩,⟨h9,h10,h11,h12⟩⟩:=h;exact ⟨⟨(e _ _ (by omega)).trans h1,(e _ _ (by omega)).trans h2,(e _ _ (by omega)).trans h3,(e _ _ (by omega)).trans h4⟩,⟨(e _ _ (by omega)).trans h5,(e _ _ (by omega)).trans h6,(e _ _ (by omega)).trans h7,(e _ _ (by omega)).trans h8⟩,⟨(e _ _ (by omega)).trans h9,(e _ _ (by omega)).trans h10,(e _ _ (by omega)).trans h11,(e _ _ (by omega)).trans h12⟩⟩
set_option maxRecDepth 100000 in
set_option maxHeartbeats 6400000 in
theorem iCols_any (pa pb pc pd qa qb qc qd ra rb rc rd:Int) (w:World) :
  Calls Tryz.prog 171 #[.agg #[.int .i64 pa,.int .i64 pb,.int .i64 pc,.int .i64 pd],.agg #[.int .i64 qa,.int .i64 qb,.int .i64 qc,.int .i64 qd],.agg #[.int .i64 ra,.int .i64 rb,.int .i64 rc,.int .i64 rd]] w fun e w' =>
   e = .returned (.tuple #[.agg #[.int .i64 pa,.int .i64 qa,.int .i64 ra],.agg #[.int .i64 pb,.int .i64 qb,.int .i64 rb],.agg #[.int .i64 pc,.int .i64 qc,.int .i64 rc],.agg #[.int .i64 pd,.int .i64 qd,.int .i64 rd]])∧Below w.heap.size w w':=by
 have hb:∀ u:World,Below u.heap.size u (u.alloc (.cells #[.int .i64 0,.int .i64 0,.int .i64 0] 203)):=fun u=>(Below.refl _ _).alloc (Nat.le_refl _) _
 have HR:=Lib.hid (((((R3.start w pa pb pc pd qa qb qc qd ra rb rc rd 168).after (hb _)).after (hb _)).after (hb _)).after (hb _));have Z0:=Lib.hid ((heap_alloc_old ((((((w.alloc (.cells #[.int .i64 pa,.int .i64 pb,.int .i64 pc,.int .i64 pd] 168)).alloc (.cells #[.int .i64 qa,.int .i64 qb,.int .i64 qc,.int .i64 qd] 168)).alloc (.cells #[.int .i64 ra,.int .i64 rb,.int .i64 rc,.int .i64 rd] 168)).alloc (.cells #[.int .i64 0,.int .i64 0,.int .i64 0] 203)).alloc (.cells #[.int .i64 0,.int .i64 0,.int .i64 0] 203)).alloc (.cells #[.int .i64 0,.int .i64 0,.int .i64 0] 203)) (.cells #[.int .i64 0,.int .i64 0,.int .i64 0] 203) (by first | (simp; done) | (simp; omega))).trans ((heap_alloc_old (((((w.alloc (.cells #[.int .i64 pa,.int .i64 pb,.int .i64 pc,.int .i64 pd] 168)).alloc (.cells #[.int .i64 qa,.int .i64 qb,.int .i64 qc,.int .i64 qd] 168)).alloc (.cells #[.int .i64 ra,.int .i64 rb,.int .i64 rc,.int .i64 rd] 168)).alloc (.cells #[.int .i64 0,.int .i64 0,.int .i64 0] 203)).alloc (.cells #[.int .i64 0,.int .i64 0,.int .i64 0] 203)) (.cells #[.int .i64 0,.int .i64 0,.int .i64 0] 203) (by first | (simp; done) | (simp; omega))).trans ((heap_alloc_old ((((w.alloc (.cells #[.int .i64 pa,.int .i64 pb,.int .i64 pc,.int .i64 pd] 168)).alloc (.cells #[.int .i64 qa,.int .i64 qb,.int .i64 qc,.int .i64 qd] 168)).alloc (.cells #[.int .i64 ra,.int .i64 rb,.int .i64 rc,.int .i64 rd] 168)).alloc (.cells #[.int .i64 0,.int .i64 0,.int .i64 0] 203)) (.cells #[.int .i64 0,.int .i64 0,.int .i64 0] 203) (by first | (simp; done) | (simp; omega))).trans (heap_alloc_new (((w.alloc (.cells #[.int .i64 pa,.int .i64 pb,.int .i64 pc,.int .i64 pd] 168)).alloc (.cells #[.int .i64 qa,.int .i64 qb,.int .i64 qc,.int .i64 qd] 168)).alloc (.cells #[.int .i64 ra,.int .i64 rb,.int .i64 rc,.int .i64 rd] 168)) (.cells #[.int .i64 0,.int .i64 0,.int .i64 0] 203)))))
 have Z1:=Lib.hid ((heap_alloc_old ((((((w.alloc (.cells #[.int .i64 pa,.int .i64 pb,.int .i64 pc,.int .i64 pd] 168)).alloc (.cells #[.int .i64 qa,.int .i64 qb,.int .i64 qc,.int .i64 qd] 168)).alloc (.cells #[.int .i64 ra,.int .i64 rb,.int .i64 rc,.int .i64 rd] 168)).alloc (.cells #[.int .i64 0,.int .i64 0,.int .i64 0] 203)).alloc (.cells #[.int .i64 0,.int .i64 0,.int .i64 0] 203)).alloc (.cells #[.int .i64 0,.int .i64 0,.int .i64 0] 203)) (.cells #[.int .i64 0,.int .i64 0,.int .i64 0] 203) (by first | (simp; done) | (simp; omega))).trans ((heap_alloc_old (((((w.alloc (.cells #[.int .i64 pa,.int .i64 pb,.int .i64 pc,.int .i64 pd] 168)).alloc (.cells #[.int .i64 qa,.int .i64 qb,.int .i64 qc,.int .i64 qd] 168)).alloc (.cells #[.int .i64 ra,.int .i64 rb,.int .i64 rc,.int .i64 rd] 168)).alloc (.cells #[.int .i64 0,.int .i64 0,.int .i64 0] 203)).alloc (.cells #[.int .i64 0,.int .i64 0,.int .i64 0] 203)) (.cells #[.int .i64 0,.int .i64 0,.int .i64 0] 203) (by first | (simp; done) | (simp; omega))).trans (heap_alloc_new ((((w.alloc (.cells #[.int .i64 pa,.int .i64 pb,.int .i64 pc,.int .i64 pd] 168)).alloc (.cells #[.int .i64 qa,.int .i64 qb,.int .i64 qc,.int .i64 qd] 168)).alloc (.cells #[.int .i64 ra,.int .i64 rb,.int .i64 rc,.int .i64 rd] 168)).alloc (.cells #[.int .i64 0,.int .i64 0,.int .i64 0] 203)) (.cells #[.int .i64 0,.int .i64 0,.int .i64 0] 203))))
 have Z2:=Lib.hid ((heap_alloc_old ((((((w.alloc (.cells #[.int .i64 pa,.int .i64 pb,.int .i64 pc,.int .i64 pd] 168)).alloc (.cells #[.int .i64 qa,.int .i64 qb,.int .i64 qc,.int .i64 qd] 168)).alloc (.cells #[.int .i64 ra,.int .i64 rb,.int .i64 rc,.int .i64 rd] 168)).alloc (.cells #[.int .i64 0,.int .i64 0,.int .i64 0] 203)).alloc (.cells #[.int .i64 0,.int .i64 0,.int .i64 0] 203)).alloc (.cells #[.int .i64 0,.int .i64 0,.int .i64 0] 203)) (.cells #[.int .i64 0,.int .i64 0,.int .i64 0] 203) (by first | (simp; done) | (simp; omega))).trans (heap_alloc_new (((((w.alloc (.cells #[.int .i64 pa,.int .i64 pb,.int .i64 pc,.int .i64 pd] 168)).alloc (.cells #[.int .i64 qa,.int .i64 qb,.int .i64 qc,.int .i64 qd] 168)).alloc (.cells #[.int .i64 ra,.int .i64 rb,.int .i64 rc,.int .i64 rd] 168)).alloc (.cells #[.int .i64 0,.int .i64 0,.int .i64 0] 203)).alloc (.cells #[.int .i64 0,.int .i64 0,.int .i64 0] 203)) (.cells #[.int .i64 0,.int .i64 0,.int .i64 0] 203)))
 have Z3:=Lib.hid (heap_alloc_new ((((((w.alloc (.cells #[.int .i64 pa,.int .i64 pb,.int .i64 pc,.int .i64 pd] 168)).alloc (.cells #[.int .i64 qa,.int .i64 qb,.int .i64 qc,.int .i64 qd] 168)).alloc (.cells #[.int .i64 ra,.int .i64 rb,.int .i64 rc,.int .i64 rd] 168)).alloc (.cells #[.int .i64 0,.int .i64 0,.int .i64 0] 203)).alloc (.cells #[.int .i64 0,.int .i64 0,.int .i64 0] 203)).alloc (.cells #[.int .i64 0,.int .i64 0,.int .i64 0] 203)) (.cells #[.int .i64 0,.int .i64 0,.int .i64 0] 203));simp only [World.size_alloc] at Z0 Z1 Z2 Z3;clear hb;go_enter Tryz.func171,Tryz.ntmps171;go_upto_region 1 with fail
 generalize (((((((w.alloc (.cells #[.int .i64 pa,.int .i64 pb,.int .i64 pc,.int .i64 pd] 168)).alloc (.cells #[.int .i64 qa,.int .i64 qb,.int .i64 qc,.int .i64 qd] 168)).alloc (.cells #[.int .i64 ra,.int .i64 rb,.int .i64 rc,.int .i64 rd] 168)).alloc (.cells #[.int .i64 0,.int .i64 0,.int .i64 0] 203)).alloc (.cells #[.int .i64 0,.int .i64 0,.int .i64 0] 203)).alloc (.cells #[.int .i64 0,.int .i64 0,.int .i64 0] 203)).alloc (.cells #[.int .i64 0,.int .i64 0,.int .i64 0] 203))=w7 at *
 obtain ⟨p0,p1,p2,p3⟩:=HR.out.p.1;obtain ⟨q0,q1,q2,q3⟩:=HR.out.q.1;obtain ⟨r0,r1,r2,r3⟩:=HR.out.r.1;go_cut [6,7,8,9] (fun s6 s7 s8 s9 wx=>s6 = .pointer (some ⟨w.heap.size+1+1+1,0,none⟩)∧s7 = .pointer (some ⟨w.heap.size+1+1+1+1,0,none⟩)∧s8 = .pointer (some ⟨w.heap.size+1+1+1+1+1,0,none⟩)∧s9 = .pointer (some ⟨w.heap.size+1+1+1+1+1+1,0,none⟩)∧Hid (wx.heap[w.heap.size+1+1+1]?=some (.cells #[.int .i64 pa,.int .i64 qa,.int .i64 ra] 203 (0,0)))∧Hid (wx.heap[w.heap.size+1+1+1+1]?=some (.cells #[.int .i64 pb,.int .i64 qb,.int .i64 rb] 203 (0,0)))∧Hid (wx.heap[w.heap.size+1+1+1+1+1]?=some (.cells #[.int .i64 pc,.int .i64 qc,.int .i64 rc] 203 (0,0)))∧Hid (wx.heap[w.heap.size+1+1+1+1+1+1]?=some (.cells #[.int .i64 pd,.int .i64 qd,.int .i64 rd] 203 (0,0)))∧Hid (Below w.heap.size w wx))
 case first =>
  have HB0:=Lib.hid HR.out.below;clear HR;refine wp_region_held_drew (S:=fun w'=>(w'.cell? ⟨w.heap.size,0,none⟩=some (.int .i64 pa)∧w'.cell? ⟨w.heap.size,1,none⟩=some (.int .i64 pb)∧w'.cell? ⟨w.heap.size,2,none⟩=some (.int .i64 pc)∧w'.cell? ⟨w.heap.size,3,none⟩=some (.int .i64 pd))∧(w'.cell? ⟨w.heap.size+1,0,none⟩=some (.int .i64 qa)∧w'.cell? ⟨w.heap.size+1,1,none⟩=some (.int .i64 qb)∧w'.cell? ⟨w.heap.size+1,2,none⟩=some (.int .i64 qc)∧w'.cell? ⟨w.heap.size+1,3,none⟩=some (.int .i64 qd))∧(w'.cell? ⟨w.heap.size+1+1,0,none⟩=some (.int .i64 ra)∧w'.cell? ⟨w.heap.size+1+1,1,none⟩=some (.int .i64 rb)∧w'.cell? ⟨w.heap.size+1+1,2,none⟩=some (.int .i64 rc)∧w'.cell? ⟨w.heap.size+1+1,3,none⟩=some (.int .i64 rd))) (by kernel_rfl) (by exact ⟨⟨p0,p1,p2,p3⟩,⟨q0,q1,q2,q3⟩,⟨r0,r1,r2,r3⟩⟩) (fun hHeld => ?_);refine take_heldS (i:=0) (d:=10) rfl rfl ?_;try simp only [Act.put,ly3]
  refine take_heldS (i:=1) (d:=11) rfl rfl ?_;try simp only [Act.put,ly3]
  refine take_heldS (i:=2) (d:=12) rfl rfl ?_;try simp only [Act.put,ly3]
  refine take_heldS (i:=3) (d:=13) rfl rfl ?_;try simp only [Act.put,ly3]
  refine take_heldS (i:=4) (d:=14) rfl rfl ?_;try simp only [Act.put,ly3]
  refine take_heldS (i:=5) (d:=15) rfl rfl ?_;try simp only [Act.put,ly3]
  refine take_heldS (i:=6) (d:=16) rfl rfl ?_;try simp only [Act.put,ly3]
  refine take_heldS (i:=7) (d:=17) rfl rfl ?_;try simp only [Act.put,ly3]
  refine take_heldS (i:=8) (d:=18) rfl rfl ?_;try simp only [Act.put,ly3]
  refine take_heldS (i:=9) (d:=19) rfl rfl ?_;try simp only [Act.put,ly3]
  refine take_heldS (i:=10) (d:=20) rfl rfl ?_;try simp only [Act.put,ly3]
  refine take_heldS (i:=11) (d:=21) rfl rfl ?_;try simp only [Act.put,ly3]
  refine take_heldS (i:=12) (d:=22) rfl rfl ?_;try simp only [Act.put,ly3]
  refine take_heldS (i:=13) (d:=23) rfl rfl ?_;try simp only [Act.put,ly3]
  refine take_heldS (i:=14) (d:=24) rfl rfl ?_;try simp only [Act.put,ly3]
  refine take_heldS (i:=15) (d:=25) rfl rfl ?_;try simp only [Act.put,ly3]
  refine take_heldS (i:=16) (d:=26) rfl rfl ?_;try simp only [Act.put,ly3]
  refine take_heldS (i:=17) (d:=27) rfl rfl ?_;try simp only [Act.put,ly3]
  refine take_heldS (i:=18) (d:=28) rfl rfl ?_;try simp only [Act.put,ly3]
  refine take_heldS (i:=19) (d:=29) rfl rfl ?_;try simp only [Act.put,ly3]
  refine take_heldS (i:=20) (d:=30) rfl rfl ?_;try simp only [Act.put,ly3]
  refine take_heldS (i:=21) (d:=31) rfl rfl ?_;try simp only [Act.put,ly3]
  refine take_heldS (i:=22) (d:=32) rfl rfl ?_;try simp only [Act.put,ly3]
  refine take_heldS (i:=23) (d:=33) rfl rfl ?_;try simp only [Act.put,ly3]
  refine take_heldS (i:=24) (d:=34) rfl rfl ?_;try simp only [Act.put,ly3]
  refine take_heldS (i:=25) (d:=35) rfl rfl ?_;try simp only [Act.put,ly3]
  refine take_heldS (i:=26) (d:=36) rfl rfl ?_;try simp only [Act.put,ly3]
  refine take_heldS (i:=27) (d:=37) rfl rfl ?_;try simp only [Act.put,ly3]
  refine wpAnyH_ready (rs := [28]) (by kernel_rfl) (by simp) ?_;refine AllReadyH.cons rfl (fun K hK => ?_) AllReadyH.nil;refine step_storeRow rfl 203 (.tmp 6) (.tmp 16) rfl (w.heap.size+1+1+1) #[.int .i64 pa,.int .i64 qa,.int .i64 ra] rfl rfl 203 #[.int .i64 0,.int .i64 0,.int .i64 0] (by exact Z0.out) (by kernel_rfl) rfl (by simp [Value.oneCell']) ?_;intro wa O0 Y;have Y0:=Lib.hid Y;have N1:=Lib.hid ((O0.block (w.heap.size+1+1+1+1) (by omega)).trans Z1.out);have N2:=Lib.hid ((O0.block (w.heap.size+1+1+1+1+1) (by omega)).trans Z2.out);have N3:=Lib.hid ((O0.block (w.heap.size+1+1+1+1+1+1) (by omega)).trans Z3.out);have NB:=Lib.hid ((below_dr HB0.out).trans (O0.below (B:=w.heap.size) (by omega)));clear Y Z1 Z2 Z3 Z0 HB0;have Z1:=N1;have Z2:=N2;have Z3:=N3;have HB1:=NB;clear NB N1 N2 N3;refine hK.out _ _ (by exact keepR (by assumption) (fun x y hx=>O0.cell (p:=⟨x,y,none⟩) (by simp; omega))) (fun hHeld => ?_)
  clear hK K;try simp only [Act.put,ly3]
  refine wpAnyH_ready (rs := [29]) (by kernel_rfl) (by simp) ?_;refine AllReadyH.cons rfl (fun K hK => ?_) AllReadyH.nil;refine step_storeRow rfl 203 (.tmp 7) (.tmp 23) rfl (w.heap.size+1+1+1+1) #[.int .i64 pb,.int .i64 qb,.int .i64 rb] rfl rfl 203 #[.int .i64 0,.int .i64 0,.int .i64 0] (by exact Z1.out) (by kernel_rfl) rfl (by simp [Value.oneCell']) ?_;intro wb O1 Y;have Y1:=Lib.hid Y;have N0:=Lib.hid ((O1.block (w.heap.size+1+1+1) (by omega)).trans Y0.out);have N2:=Lib.hid ((O1.block (w.heap.size+1+1+1+1+1) (by omega)).trans Z2.out);have N3:=Lib.hid ((O1.block (w.heap.size+1+1+1+1+1+1) (by omega)).trans Z3.out);have NB:=Lib.hid ((HB1.out).trans (O1.below (B:=w.heap.size) (by omega)));clear Y Y0 Z2 Z3 Z1 HB1;have Y0:=N0;have Z2:=N2;have Z3:=N3;have HB2:=NB;clear NB N0 N2 N3;refine hK.out _ _ (by exact keepR (by assumption) (fun x y hx=>O1.cell (p:=⟨x,y,none⟩) (by simp; omega))) (fun hHeld => ?_)
  clear hK K;try simp only [Act.put,ly3]
  refine wpAnyH_ready (rs := [30]) (by kernel_rfl) (by simp) ?_;refine AllReadyH.cons rfl (fun K hK => ?_) AllReadyH.nil;refine step_storeRow rfl 203 (.tmp 8) (.tmp 30) rfl (w.heap.size+1+1+1+1+1) #[.int .i64 pc,.int .i64 qc,.int .i64 rc] rfl rfl 203 #[.int .i64 0,.int .i64 0,.int .i64 0] (by exact Z2.out) (by kernel_rfl) rfl (by simp [Value.oneCell']) ?_;intro wc O2 Y;have Y2:=Lib.hid Y;have N0:=Lib.hid ((O2.block (w.heap.size+1+1+1) (by omega)).trans Y0.out);have N1:=Lib.hid ((O2.block (w.heap.size+1+1+1+1) (by omega)).trans Y1.out);have N3:=Lib.hid ((O2.block (w.heap.size+1+1+1+1+1+1) (by omega)).trans Z3.out);have NB:=Lib.hid ((HB2.out).trans (O2.below (B:=w.heap.size) (by omega)));clear Y Y0 Y1 Z3 Z2 HB2;have Y0:=N0;have Y1:=N1;have Z3:=N3;have HB3:=NB;clear NB N0 N1 N3;refine hK.out _ _ (by exact keepR (by assumption) (fun x y hx=>O2.cell (p:=⟨x,y,none⟩) (by simp; omega))) (fun hHeld => ?_)
  clear hK K;try simp only [Act.put,ly3]
  refine wpAnyH_ready (rs := [31]) (by kernel_rfl) (by simp) ?_;refine AllReadyH.cons rfl (fun K hK => ?_) AllReadyH.nil;refine step_storeRow rfl 203 (.tmp 9) (.tmp 37) rfl (w.heap.size+1+1+1+1+1+1) #[.int .i64 pd,.int .i64 qd,.int .i64 rd] rfl rfl 203 #[.int .i64 0,.int .i64 0,.int .i64 0] (by exact Z3.out) (by kernel_rfl) rfl (by simp [Value.oneCell']) ?_;intro wd O3 Y;have Y3:=Lib.hid Y;have N0:=Lib.hid ((O3.block (w.heap.size+1+1+1) (by omega)).trans Y0.out);have N1:=Lib.hid ((O3.block (w.heap.size+1+1+1+1) (by omega)).trans Y1.out);have N2:=Lib.hid ((O3.block (w.heap.size+1+1+1+1+1) (by omega)).trans Y2.out);have NB:=Lib.hid ((HB3.out).trans (O3.below (B:=w.heap.size) (by omega)));clear Y Y0 Y1 Y2 Z3 HB3;have Y0:=N0;have Y1:=N1;have Y2:=N2;have HB4:=NB;clear NB N0 N1 N2;refine hK.out _ _ (by exact keepR (by assumption) (fun x y hx=>O3.cell (p:=⟨x,y,none⟩) (by simp; omega))) (fun hHeld => ?_)
  clear hK K;try simp only [Act.put,ly3]
  refine wpAnyH_done (by kernel_rfl) ?_ _;go_wp2_with fail
  go_meet
  exact ⟨rfl,rfl,rfl,rfl,Y0,Y1,Y2,Y3,HB4⟩
 case rest =>
 obtain ⟨rfl,rfl,rfl,rfl,Y0,Y1,Y2,Y3,HB⟩:=hcut;clear HR Z0 Z1 Z2 Z3 p0 p1 p2 p3 q0 q1 q2 q3 r0 r1 r2 r3;go_wp2
 (try simp only [Exit.inBlock,Exit.then])
 refine bodyPost_ret (results_cell4 rfl _ _ _ _ _ _ 203 _ _ _ _ _ _ rfl rfl rfl rfl Y0.out Y1.out Y2.out Y3.out Tryz.underlying203 rfl (by kernel_rfl) (by kernel_rfl) (by kernel_rfl) (by kernel_rfl)) rfl ?_;exact ⟨rfl,HB.out⟩
end
end Go.Proofs.YtodneggnnipcnaaGreat
