/-
  Texts that the law stands on, part 1.
-/
import Derived.Test.YtodneggnnipcnaaGreatH10
import Derived.Test.YtodneggnnipcnaaGreatH15
import Derived.Test.YtodneggnnipcnaaGreatH17
import Derived.Test.YtodneggnnipcnaaGreatH18
import Derived.Test.YtodneggnnipcnaaGreatH20
import Derived.Test.YtodneggnnipcnaaGreatProg
import Derived.KernelRfl
import Derived.Deep.RegionHeld3
import Derived.Deep.QuietTactic
import Derived.BigQuiet
import Derived.BigRegion
import Derived.IntWalk
set_option maxRecDepth 100000
set_option linter.unusedVariables false
set_option linter.unusedSimpArgs false
section
namespace Go.Proofs.Tryzx
theorem func6:prog.funcs[6]?=some Tryz.f6:=by kernel_rfl
theorem func24:prog.funcs[24]?=some Tryz.f24:=by kernel_rfl
theorem func25:prog.funcs[25]?=some Tryz.f25:=by kernel_rfl
theorem func35:prog.funcs[35]?=some Tryz.f35:=by kernel_rfl
theorem func36:prog.funcs[36]?=some Tryz.f36:=by kernel_rfl
theorem func40:prog.funcs[40]?=some Tryz.f40:=by kernel_rfl
theorem func41:prog.funcs[41]?=some Tryz.f41:=by kernel_rfl
theorem func42:prog.funcs[42]?=some Tryz.f42:=by kernel_rfl
theorem func47:prog.funcs[47]?=some Tryz.f47:=by kernel_rfl
theorem func48:prog.funcs[48]?=some Tryz.f48:=by kernel_rfl
theorem func49:prog.funcs[49]?=some Tryz.f49:=by kernel_rfl
theorem func62:prog.funcs[62]?=some Tryz.f62:=by kernel_rfl
theorem func66:prog.funcs[66]?=some Tryz.f66:=by kernel_rfl
theorem func67:prog.funcs[67]?=some Tryz.f67:=by kernel_rfl
theorem func68:prog.funcs[68]?=some Tryz.f68:=by kernel_rfl
theorem func70:prog.funcs[70]?=some Tryz.f70:=by kernel_rfl
theorem func71:prog.funcs[71]?=some Tryz.f71:=by kernel_rfl
theorem func88:prog.funcs[88]?=some Tryz.f88:=by kernel_rfl
theorem func94:prog.funcs[94]?=some Tryz.f94:=by kernel_rfl
theorem func95:prog.funcs[95]?=some Tryz.f95:=by kernel_rfl
theorem underlying25:prog.underlying 25=some (Go.TypeDesc.slice 77):=(underlying_x 25).trans Tryz.underlying25
theorem underlying77 : prog.underlying 77 = some (Go.TypeDesc.struct #[{ name := "Stone", type := 3, offset := 0, embedded := false, tag := "", pkgPath := "", byteOffset := 0 }, { name := "Weight", type := 3, offset := 1, embedded := false, tag := "", pkgPath := "", byteOffset := 8 }, { name := "X", type := 3, offset := 2, embedded := false, tag := "", pkgPath := "", byteOffset := 16 }]) := (underlying_x 77).trans Tryz.underlying77
@[simp] theorem call6 (args w):Sem.run prog (callFunc 6 args) w = .ok (.enter 6 args) w:=call_x 6 args w func6
@[simp] theorem call24 (args w):Sem.run prog (callFunc 24 args) w = .ok (.enter 24 args) w:=call_x 24 args w func24
@[simp] theorem call25 (args w):Sem.run prog (callFunc 25 args) w = .ok (.enter 25 args) w:=call_x 25 args w func25
@[simp] theorem call35 (args w):Sem.run prog (callFunc 35 args) w = .ok (.enter 35 args) w:=call_x 35 args w func35
@[simp] theorem call36 (args w):Sem.run prog (callFunc 36 args) w = .ok (.enter 36 args) w:=call_x 36 args w func36
@[simp] theorem call40 (args w):Sem.run prog (callFunc 40 args) w = .ok (.enter 40 args) w:=call_x 40 args w func40
@[simp] theorem call41 (args w):Sem.run prog (callFunc 41 args) w = .ok (.enter 41 args) w:=call_x 41 args w func41
@[simp] theorem call42 (args w):Sem.run prog (callFunc 42 args) w = .ok (.enter 42 args) w:=call_x 42 args w func42
@[simp] theorem call47 (args w):Sem.run prog (callFunc 47 args) w = .ok (.enter 47 args) w:=call_x 47 args w func47
@[simp] theorem call48 (args w):Sem.run prog (callFunc 48 args) w = .ok (.enter 48 args) w:=call_x 48 args w func48
@[simp] theorem call49 (args w):Sem.run prog (callFunc 49 args) w = .ok (.enter 49 args) w:=call_x 49 args w func49
@[simp] theorem call62 (args w):Sem.run prog (callFunc 62 args) w = .ok (.enter 62 args) w:=call_x 62 args w func62
@[simp] theorem call66 (args w):Sem.run prog (callFunc 66 args) w = .ok (.enter 66 args) w:=call_x 66 args w func66
@[simp] theorem call67 (args w):Sem.run prog (callFunc 67 args) w = .ok (.enter 67 args) w:=call_x 67 args w func67
@[simp] theorem call68 (args w):Sem.run prog (callFunc 68 args) w = .ok (.enter 68 args) w:=call_x 68 args w func68
@[simp] theorem call70 (args w):Sem.run prog (callFunc 70 args) w = .ok (.enter 70 args) w:=call_x 70 args w func70
@[simp] theorem call71 (args w):Sem.run prog (callFunc 71 args) w = .ok (.enter 71 args) w:=call_x 71 args w func71
@[simp] theorem call88 (args w):Sem.run prog (callFunc 88 args) w = .ok (.enter 88 args) w:=call_x 88 args w func88
@[simp] theorem call94 (args w):Sem.run prog (callFunc 94 args) w = .ok (.enter 94 args) w:=call_x 94 args w func94
@[simp] theorem call95 (args w):Sem.run prog (callFunc 95 args) w = .ok (.enter 95 args) w:=call_x 95 args w func95
end Go.Proofs.Tryzx
end
namespace Go.Proofs.YtodneggnnipcnaaGreat
namespace X
open Go.RowKit
theorem magnitude_any (a:Int) (w:World) (ha:okG a):Calls Tryzx.prog 71 #[.int .i64 a] w fun e w'=>e = .returned (.int .u64 (a.natAbs:Nat))∧w=w':=by
 go_enter Tryzx.func71,Tryz.ntmps71;go_wp2;all_goals
  go_ret;first
  | exact ⟨ret_int (u64_neg ha (by assumption)),rfl⟩
  | exact ⟨ret_int (u64_pos ha (by assumption)),rfl⟩
set_option maxHeartbeats 400000 in
theorem commonDivisor_any (A:Option Addr) (n c:Nat) (L:List Int) (w:World) (h:IntsAt w w.heap.size A n L) (hn:n≤1048576) (hL:∀ k,okG (nth L k)) :
  Calls Tryzx.prog 42 #[.slice A n c] w fun e w'=>e = .returned (.int .i64 (gcdTo L n:Nat))∧∃ n,w'=w.drewN n:=by
 have H:=Lib.hid h;have HL:=Lib.hid hL;have HGL:Hid (∀ k,okU (gcdTo L k)):=fun k=>okU_gcdTo hL k
 clear h hL;go_enter Tryzx.func42,Tryz.ntmps42;go_wp2;go_loopw [3,9] (fun x i wr=>∃ (k:Nat),k≤n∧i = .int .i64 k∧x = .int .u64 (gcdTo L k:Nat)∧Hid (∃ n,wr=w.drewN n)) (fun _ i _=>n - (intOf i).toNat)
 case atStart=>exact ⟨0,Nat.zero_le _,rfl,rfl,Lib.hid ⟨0,rfl⟩⟩
 case round =>
  obtain ⟨k,hk,rfl,rfl,HW⟩:=hrel;by_cases hlt:k<n
  ·obtain ⟨b,off,rfl,hbB,hc⟩:=H.out.2 (by omega)
   have x0:wr.cell? ⟨b,off+k,none⟩=some (.int .i64 (nth L k)):=by
    obtain ⟨n',rfl⟩:=HW.out;exact hc k hlt
   have ho:=HL.out k;have HS:Hid (gcdTo L (k+1)=Nat.gcd (gcdTo L k) (nth L k).natAbs):=rfl;have hu:=HGL.out k;have hm:=okU_nat ho;clear hc;go_wp2_with fail
   refine (magnitude_any _ _ ho).mono ?_;rintro e w' ⟨rfl,rfl⟩;generalize gcdTo L k=d0 at *
   generalize (nth L k).natAbs=m0 at *
   go_wp2;go_loopw [3,6] (fun x y wr=>∃ (d m:Nat),x = .int .u64 d∧y = .int .u64 m∧Hid (Nat.gcd d m=Nat.gcd d0 m0)∧okU d∧okU m∧Hid (∃ n,wr=w.drewN n)) (fun _ y _=>(intOf y).toNat)
   case atStart=>exact ⟨d0,m0,rfl,rfl,Lib.hid rfl,hu,hm,HW⟩
   case round =>
    clear HW hu hm;obtain ⟨d,m,rfl,rfl,HG,hd,hm,HW⟩:=hrel;by_cases h0:m=0
    ·subst h0
     have HF:Hid (gcdTo L (k+1)=d):=by
      have h:=HG.out;rw [Nat.gcd_zero_right] at h;show _=_
      rw [HS.out,h]
     clear HG hm;go_wp2;go_roundw
     case rel=>exact ⟨k+1,by omega,by go_num,by rw [HF.out],HW⟩
     case measure=>simp [intOf]; omega
    ·have hd1:((m:Int) != 0)=true:=by simp [h0]
     have hd2:((m:Int) == 0)=false:=by simp [h0]
     have hd3:¬ (m:Int)=0:=by omega
     have he:Int.tmod (d:Int) (m:Int)=((d % m:Nat):Int):=by rw [Int.tmod_eq_emod_of_nonneg (by omega)]; rfl
     have HG2:Hid (Nat.gcd m (d % m)=Nat.gcd d0 m0):=by
      show _=_
      rw [gcd_round]; exact HG.out
     have HM:Hid (d % m<m):=Nat.mod_lt _ (by omega);have ho2:=okU_mod (d:=d) h0 hm;clear HG;go_wp2;go_quiet (fail)
     go_wp2;go_roundw
     case rel=>exact ⟨m,d % m,rfl,rfl,HG2,hm,ho2,by obtain ⟨n,rfl⟩:=HW.out; exact Lib.hid ⟨_,World.drewN_drewN _ _ _⟩⟩
     case measure=>simp [intOf]; exact HM.out
  ·obtain rfl:n=k:=by omega
   have hu:=u64_to_i64 (HGL.out n);go_wp2;go_ret;exact ⟨rfl,HW.out⟩
theorem okG_nth4 {a b c d:Int} (ha:okG a) (hb:okG b) (hc:okG c) (hd:okG d):∀ k,okG (nth [a,b,c,d] k)
 | 0=>ha
 | 1=>hb
 | 2=>hc
 | 3=>hd
 | k+4=>by simp [nth,List.getD,okG]
set_option maxRecDepth 100000 in
set_option maxHeartbeats 1600000 in
theorem iThrustOk_any (H V M D:Int) (w:World) :
  Calls Tryzx.prog 94 #[.agg #[.int .i64 H,.int .i64 V,.int .i64 M,.int .i64 D]] w fun e w'=>e = .returned (.bool (thrB H V M D))∧Below w.heap.size w w':=by
 have HA:=Lib.hid ((Below.refl w.heap.size w).alloc (Nat.le_refl _) (.cells #[.int .i64 H,.int .i64 V,.int .i64 M,.int .i64 D] 40));cases h1:inB D 1 1000000
 ·have HF:=Lib.hid (thrB_1 H V M h1)
  go_enter Tryzx.func94,Tryz.ntmps94;go_wp2_with (go_at_call 80; refine (within_any _ _ _ _).mono ?_; rw [h1]; rintro e w' ⟨rfl,rfl⟩);go_ret;exact ⟨ret_bool HF.out.symm,HA.out⟩
 cases h2:inB H 0 1000000000000
 ·have HF:=Lib.hid (thrB_2 V M D h2)
  go_enter Tryzx.func94,Tryz.ntmps94;go_wp2_with (go_at_call 80; refine (within_any _ _ _ _).mono ?_; (first | rw [h1] | rw [h2]); rintro e w' ⟨rfl,rfl⟩);go_ret;exact ⟨ret_bool HF.out.symm,HA.out⟩
 cases h3:inB V (-10000000000000) 10000000000000
 ·have HF:=Lib.hid (thrB_3 H M D h3)
  go_enter Tryzx.func94,Tryz.ntmps94;go_wp2_with (go_at_call 80; refine (within_any _ _ _ _).mono ?_; (first | rw [h1] | rw [h2] | rw [h3]); rintro e w' ⟨rfl,rfl⟩);go_ret;exact ⟨ret_bool HF.out.symm,HA.out⟩
 cases h4:inB M (-10000000000000) 10000000000000
 ·have HF:=Lib.hid (thrB_4 H V D h4)
  go_enter Tryzx.func94,Tryz.ntmps94;go_wp2_with (go_at_call 80; refine (within_any _ _ _ _).mono ?_; (first | rw [h1] | rw [h2] | rw [h3] | rw [h4]); rintro e w' ⟨rfl,rfl⟩);go_ret;exact ⟨ret_bool HF.out.symm,HA.out⟩
 have HT:Hid (decide (gcdTo [H,V,M,D] 4=1)=thrB H V M D):=by
  show _=_
  rw [thrB_t h1 h2 h3 h4,gcdTo_4]
 have HOK:Hid (∀ k,okG (nth [H,V,M,D] k)):=by
  have b1:=inB_iff.1 h1;have b2:=inB_iff.1 h2;have b3:=inB_iff.1 h3;have b4:=inB_iff.1 h4;exact okG_nth4 (okG_of (by omega)) (okG_of (by omega)) (okG_of (by omega)) (okG_of (by omega))
 go_enter Tryzx.func94,Tryz.ntmps94;go_wp2_with (go_at_call 80; refine (within_any _ _ _ _).mono ?_; (first | rw [h1] | rw [h2] | rw [h3] | rw [h4]); rintro e w' ⟨rfl,rfl⟩);have hx:IntsAt ((w.alloc (.cells #[.int .i64 H,.int .i64 V,.int .i64 M,.int .i64 D] 40)).alloc (.cells #[.int .i64 H,.int .i64 V,.int .i64 M,.int .i64 D] 3)) ((w.alloc (.cells #[.int .i64 H,.int .i64 V,.int .i64 M,.int .i64 D] 40)).alloc (.cells #[.int .i64 H,.int .i64 V,.int .i64 M,.int .i64 D] 3)).heap.size (some ⟨w.heap.size+1,0,none⟩) 4 [H,V,M,D]:=by
  have h:=intsAt_row (World.rowIs_alloc (w.alloc (.cells #[.int .i64 H,.int .i64 V,.int .i64 M,.int .i64 D] 40)) #[.int .i64 H,.int .i64 V,.int .i64 M,.int .i64 D] 3 (ints [H,V,M,D]) (fun j hj=>by simp at hj; match j,hj with | 0,_=>rfl | 1,_=>rfl | 2,_=>rfl | 3,_=>rfl)) (zs := [H,V,M,D]) (by simp) (fun k _=>rfl)
  simp only [World.size_alloc] at h ⊢;exact h
 refine (commonDivisor_any _ _ _ [H,V,M,D] _ (by exact hx) (by omega) HOK.out).mono ?_;rintro e w1 ⟨rfl,n1,rfl⟩;have HG:=Lib.hid (gcd_one (gcdTo [H,V,M,D] 4));clear hx;generalize gcdTo [H,V,M,D] 4=g0 at *
 go_wp2;go_ret;exact ⟨ret_bool (by rw [← HT.out]; first | exact HG.out | simp),below_drewN (HA.out.alloc (by simp) _) _⟩
end X
end Go.Proofs.YtodneggnnipcnaaGreat
section
namespace Go.Proofs.Tryzx
theorem ntmps6:Tryz.f6.ntmps=63:=Tryz.ntmps6
end Go.Proofs.Tryzx
end
namespace Go.Proofs.YtodneggnnipcnaaGreat
namespace X
open Go.RowKit
def cmpN (x y:Int):Int:=if x<y then -1 else if y<x then 1 else 0
def cmpT (H V M D h v m d:Int):Int:=if thrB H V M D=true∧thrB h v m d=true then cmpN (H*d) (h*D) else -2
theorem cmpN_l {x y:Int} (h:x<y):cmpN x y = -1:=by simp [cmpN,h]
theorem cmpN_g {x y:Int} (h:y<x):cmpN x y=1:=by simp [cmpN,h,show ¬ x<y by omega]
theorem cmpN_e {x y:Int} (h:¬ x<y) (h':¬ y<x):cmpN x y=0:=by simp [cmpN,h,h']
theorem cmpT_1 {H V M D:Int} (h v m d:Int) (e:thrB H V M D=false):cmpT H V M D h v m d = -2:=by simp [cmpT,e]
theorem cmpT_2 (H V M D:Int) {h v m d:Int} (e:thrB h v m d=false):cmpT H V M D h v m d = -2:=by simp [cmpT,e]
theorem cmpT_3 {H V M D h v m d:Int} (e:thrB H V M D=true) (e':thrB h v m d=true):cmpT H V M D h v m d=cmpN (H*d) (h*D):=by simp [cmpT,e,e']
theorem thr_mul {H V M D h v m d:Int} (e:thrB H V M D=true) (e':thrB h v m d=true):IntKind.i64.wrap (H*d)=H*d∧IntKind.i64.wrap (h*D)=h*D:=by
 have a:=thrB_out e;have b:=thrB_out e';have m1:=mul_bd (m:=1000000000000) (n:=1000000) (a:=H) (b:=d) (by omega) (by omega);have m2:=mul_bd (m:=1000000000000) (n:=1000000) (a:=h) (b:=D) (by omega) (by omega);exact ⟨IntWalk.i64_in _ (by omega),IntWalk.i64_in _ (by omega)⟩
theorem cmp_any (x y:Int) (w:World):Calls Tryzx.prog 95 #[.int .i64 x,.int .i64 y] w fun e w'=>e = .returned (.int .i64 (cmpN x y))∧w=w':=by
 by_cases h1:x<y
 ·have HN:=Lib.hid (cmpN_l h1)
  go_enter Tryzx.func95,Tryz.ntmps95;go_wp2;go_ret;exact ⟨by rw [HN.out]; rfl,rfl⟩
 ·by_cases h2:y<x
  ·have HN:=Lib.hid (cmpN_g h2)
   have h3:x > y:=h2;go_enter Tryzx.func95,Tryz.ntmps95;go_wp2;go_ret;exact ⟨by rw [HN.out]; rfl,rfl⟩
  ·have HN:=Lib.hid (cmpN_e h1 h2)
   have h3:¬ x > y:=h2;go_enter Tryzx.func95,Tryz.ntmps95;go_wp2;go_ret;exact ⟨by rw [HN.out]; rfl,rfl⟩
section
variable (H V M D h v m d : Int) (w : World)
set_option maxRecDepth 100000 in
set_option maxHeartbeats 1600000 in
theorem iCmpT_any:Calls Tryzx.prog 68 #[.agg #[.int .i64 H,.int .i64 V,.int .i64 M,.int .i64 D],.agg #[.int .i64 h,.int .i64 v,.int .i64 m,.int .i64 d]] w fun e w'=>e = .returned (.int .i64 (cmpT H V M D h v m d))∧Below w.heap.size w w':=by
 have b0:Below w.heap.size w ((w.alloc (.cells #[.int .i64 H,.int .i64 V,.int .i64 M,.int .i64 D] 40)).alloc (.cells #[.int .i64 h,.int .i64 v,.int .i64 m,.int .i64 d] 40)):=((Below.refl _ _).alloc (Nat.le_refl _) _).alloc (by simp) _;have x0:Box4 ((w.alloc (.cells #[.int .i64 H,.int .i64 V,.int .i64 M,.int .i64 D] 40)).alloc (.cells #[.int .i64 h,.int .i64 v,.int .i64 m,.int .i64 d] 40)) w.heap.size H V M D:=(Box4.new w H V M D _).after ((Below.refl _ _).alloc (Nat.le_refl _) _);have y0:Box4 ((w.alloc (.cells #[.int .i64 H,.int .i64 V,.int .i64 M,.int .i64 D] 40)).alloc (.cells #[.int .i64 h,.int .i64 v,.int .i64 m,.int .i64 d] 40)) (w.heap.size+1) h v m d:=by
  have q:=Box4.new (w.alloc (.cells #[.int .i64 H,.int .i64 V,.int .i64 M,.int .i64 D] 40)) h v m d 40;rw [World.size_alloc] at q;exact q
 have HX:=Lib.hid x0;have HY:=Lib.hid y0;obtain ⟨⟨p0,p1,p2,p3⟩,_⟩:=x0;obtain ⟨⟨q0,q1,q2,q3⟩,_⟩:=y0;cases ha:thrB H V M D
 ·have HN:=Lib.hid (cmpT_1 h v m d ha)
  go_enter Tryzx.func68,Tryz.ntmps68;go_wp2_with fail
  refine (iThrustOk_any H V M D _).mono ?_;rw [ha];rintro e w1 ⟨rfl,hb1⟩;have HB1:=Lib.hid (below_then b0 hb1);clear hb1 b0 p0 p1 p2 p3 q0 q1 q2 q3;go_wp2;go_ret;exact ⟨by rw [HN.out]; rfl,HB1.out⟩
 ·go_enter Tryzx.func68,Tryz.ntmps68
  go_wp2_with fail
  refine (iThrustOk_any H V M D _).mono ?_;rw [ha];rintro e w1 ⟨rfl,hb1⟩;have HB1:=Lib.hid (below_then b0 hb1);have HX1:=Lib.hid (HX.out.after hb1);have HY1:=Lib.hid (HY.out.after hb1);clear hb1 b0 p0 p1 p2 p3 q0 q1 q2 q3 HX HY;obtain ⟨⟨q0,q1,q2,q3⟩,_⟩:=HY1.out;go_wp2_with fail
  refine (iThrustOk_any h v m d _).mono ?_;cases hb:thrB h v m d
  ·have HN:=Lib.hid (cmpT_2 H V M D hb)
   rintro e w2 ⟨rfl,hb2⟩;have HB2:=Lib.hid (below_then HB1.out hb2);clear hb2 q0 q1 q2 q3;go_wp2;go_ret;exact ⟨by rw [HN.out]; rfl,HB2.out⟩
  ·have HN:=Lib.hid (cmpT_3 ha hb)
   have hw:=thr_mul ha hb;obtain ⟨e1,e2⟩:=hw;rintro e w2 ⟨rfl,hb2⟩;have HB2:=Lib.hid (below_then HB1.out hb2);have HX2:=Lib.hid (HX1.out.after hb2);have HY2:=Lib.hid (HY1.out.after hb2);clear hb2 q0 q1 q2 q3 ha hb;obtain ⟨⟨p0,p1,p2,p3⟩,_⟩:=HX2.out;obtain ⟨⟨q0,q1,q2,q3⟩,_⟩:=HY2.out;go_wp2_with (go_at_call 95; refine (cmp_any _ _ _).mono ?_; rintro e w' ⟨rfl,rfl⟩);go_ret;exact ⟨by rw [HN.out]; rfl,HB2.out⟩
set_option maxRecDepth 100000 in
set_option maxHeartbeats 1600000 in
theorem sCmpT_any:Calls Tryzx.prog 88 #[.agg #[.int .i64 H,.int .i64 V,.int .i64 M,.int .i64 D],.agg #[.int .i64 h,.int .i64 v,.int .i64 m,.int .i64 d]] w fun e w'=>e = .returned (.int .i64 (cmpT H V M D h v m d))∧Below w.heap.size w w':=by
 have b0:Below w.heap.size w ((w.alloc (.cells #[.int .i64 H,.int .i64 V,.int .i64 M,.int .i64 D] 40)).alloc (.cells #[.int .i64 h,.int .i64 v,.int .i64 m,.int .i64 d] 40)):=((Below.refl _ _).alloc (Nat.le_refl _) _).alloc (by simp) _;have x0:Box4 ((w.alloc (.cells #[.int .i64 H,.int .i64 V,.int .i64 M,.int .i64 D] 40)).alloc (.cells #[.int .i64 h,.int .i64 v,.int .i64 m,.int .i64 d] 40)) w.heap.size H V M D:=(Box4.new w H V M D _).after ((Below.refl _ _).alloc (Nat.le_refl _) _);have y0:Box4 ((w.alloc (.cells #[.int .i64 H,.int .i64 V,.int .i64 M,.int .i64 D] 40)).alloc (.cells #[.int .i64 h,.int .i64 v,.int .i64 m,.int .i64 d] 40)) (w.heap.size+1) h v m d:=by
  have q:=Box4.new (w.alloc (.cells #[.int .i64 H,.int .i64 V,.int .i64 M,.int .i64 D] 40)) h v m d 40;rw [World.size_alloc] at q;exact q
 have HX:=Lib.hid x0;have HY:=Lib.hid y0;obtain ⟨⟨p0,p1,p2,p3⟩,_⟩:=x0;obtain ⟨⟨q0,q1,q2,q3⟩,_⟩:=y0;cases ha:thrB H V M D
 ·have HN:=Lib.hid (cmpT_1 h v m d ha)
  go_enter Tryzx.func88,Tryz.ntmps88;go_wp2_with fail
  refine (sThrustOk_any H V M D _).mono ?_;rw [ha];rintro e w1 ⟨rfl,hb1⟩;have HB1:=Lib.hid (below_then b0 hb1);clear hb1 b0 p0 p1 p2 p3 q0 q1 q2 q3;go_wp2;go_ret;exact ⟨by rw [HN.out]; rfl,HB1.out⟩
 ·go_enter Tryzx.func88,Tryz.ntmps88
  go_wp2_with fail
  refine (sThrustOk_any H V M D _).mono ?_;rw [ha];rintro e w1 ⟨rfl,hb1⟩;have HB1:=Lib.hid (below_then b0 hb1);have HX1:=Lib.hid (HX.out.after hb1);have HY1:=Lib.hid (HY.out.after hb1);clear hb1 b0 p0 p1 p2 p3 q0 q1 q2 q3 HX HY;obtain ⟨⟨q0,q1,q2,q3⟩,_⟩:=HY1.out;go_wp2_with fail
  refine (sThrustOk_any h v m d _).mono ?_;cases hb:thrB h v m d
  ·have HN:=Lib.hid (cmpT_2 H V M D hb)
   rintro e w2 ⟨rfl,hb2⟩;have HB2:=Lib.hid (below_then HB1.out hb2);clear hb2 q0 q1 q2 q3;go_wp2;go_ret;exact ⟨by rw [HN.out]; rfl,HB2.out⟩
  ·have HN:=Lib.hid (cmpT_3 ha hb)
   have hw:=thr_mul ha hb;obtain ⟨e1,e2⟩:=hw;rintro e w2 ⟨rfl,hb2⟩;have HB2:=Lib.hid (below_then HB1.out hb2);have HX2:=Lib.hid (HX1.out.after hb2);have HY2:=Lib.hid (HY1.out.after hb2);clear hb2 q0 q1 q2 q3 ha hb;obtain ⟨⟨p0,p1,p2,p3⟩,_⟩:=HX2.out;obtain ⟨⟨q0,q1,q2,q3⟩,_⟩:=HY2.out;by_cases l1:H*d<h*D
   ·have HC:=Lib.hid (cmpN_l l1)
    go_wp2;go_ret;exact ⟨by rw [HN.out,HC.out]; rfl,HB2.out⟩
   ·by_cases l2:h*D<H*d
    ·have HC:=Lib.hid (cmpN_g l2)
     have l3:H*d > h*D:=l2;go_wp2;go_ret;exact ⟨by rw [HN.out,HC.out]; rfl,HB2.out⟩
    ·have HC:=Lib.hid (cmpN_e l1 l2)
     have l3:¬ H*d > h*D:=l2;go_wp2;go_ret;exact ⟨by rw [HN.out,HC.out]; rfl,HB2.out⟩
set_option maxRecDepth 100000 in
set_option maxHeartbeats 1600000 in
theorem cloGreatestThrust_any:Calls Tryzx.prog 70 #[.agg #[.int .i64 H,.int .i64 V,.int .i64 M,.int .i64 D],.agg #[.int .i64 h,.int .i64 v,.int .i64 m,.int .i64 d]] w fun e w'=>e = .returned (.bool (cmpT H V M D h v m d == 1))∧Below w.heap.size w w':=by
 have HB:=Lib.hid (((Below.refl w.heap.size w).alloc (Nat.le_refl _) (.cells #[.int .i64 H,.int .i64 V,.int .i64 M,.int .i64 D] 40)).alloc (by simp) (.cells #[.int .i64 h,.int .i64 v,.int .i64 m,.int .i64 d] 40));have x0:Box4 ((w.alloc (.cells #[.int .i64 H,.int .i64 V,.int .i64 M,.int .i64 D] 40)).alloc (.cells #[.int .i64 h,.int .i64 v,.int .i64 m,.int .i64 d] 40)) w.heap.size H V M D:=(Box4.new w H V M D _).after ((Below.refl _ _).alloc (Nat.le_refl _) _);have y0:Box4 ((w.alloc (.cells #[.int .i64 H,.int .i64 V,.int .i64 M,.int .i64 D] 40)).alloc (.cells #[.int .i64 h,.int .i64 v,.int .i64 m,.int .i64 d] 40)) (w.heap.size+1) h v m d:=by
  have q:=Box4.new (w.alloc (.cells #[.int .i64 H,.int .i64 V,.int .i64 M,.int .i64 D] 40)) h v m d 40;rw [World.size_alloc] at q;exact q
 obtain ⟨⟨p0,p1,p2,p3⟩,_⟩:=x0;obtain ⟨⟨q0,q1,q2,q3⟩,_⟩:=y0;go_enter Tryzx.func70,Tryz.ntmps70;go_wp2_with fail
 refine (iCmpT_any H V M D h v m d _).mono ?_;rintro e w1 ⟨rfl,hb1⟩;have HB1:=Lib.hid (below_then HB.out hb1);clear hb1 p0 p1 p2 p3 q0 q1 q2 q3;go_wp2;go_ret;exact ⟨rfl,HB1.out⟩
set_option maxRecDepth 100000 in
set_option maxHeartbeats 1600000 in
theorem cloLeastThrust_any:Calls Tryzx.prog 67 #[.agg #[.int .i64 H,.int .i64 V,.int .i64 M,.int .i64 D],.agg #[.int .i64 h,.int .i64 v,.int .i64 m,.int .i64 d]] w fun e w'=>e = .returned (.bool (cmpT H V M D h v m d == (-1)))∧Below w.heap.size w w':=by
 have HB:=Lib.hid (((Below.refl w.heap.size w).alloc (Nat.le_refl _) (.cells #[.int .i64 H,.int .i64 V,.int .i64 M,.int .i64 D] 40)).alloc (by simp) (.cells #[.int .i64 h,.int .i64 v,.int .i64 m,.int .i64 d] 40));have x0:Box4 ((w.alloc (.cells #[.int .i64 H,.int .i64 V,.int .i64 M,.int .i64 D] 40)).alloc (.cells #[.int .i64 h,.int .i64 v,.int .i64 m,.int .i64 d] 40)) w.heap.size H V M D:=(Box4.new w H V M D _).after ((Below.refl _ _).alloc (Nat.le_refl _) _);have y0:Box4 ((w.alloc (.cells #[.int .i64 H,.int .i64 V,.int .i64 M,.int .i64 D] 40)).alloc (.cells #[.int .i64 h,.int .i64 v,.int .i64 m,.int .i64 d] 40)) (w.heap.size+1) h v m d:=by
  have q:=Box4.new (w.alloc (.cells #[.int .i64 H,.int .i64 V,.int .i64 M,.int .i64 D] 40)) h v m d 40;rw [World.size_alloc] at q;exact q
 obtain ⟨⟨p0,p1,p2,p3⟩,_⟩:=x0;obtain ⟨⟨q0,q1,q2,q3⟩,_⟩:=y0;go_enter Tryzx.func67,Tryz.ntmps67;go_wp2_with fail
 refine (iCmpT_any H V M D h v m d _).mono ?_;rintro e w1 ⟨rfl,hb1⟩;have HB1:=Lib.hid (below_then HB.out hb1);clear hb1 p0 p1 p2 p3 q0 q1 q2 q3;go_wp2;go_ret;exact ⟨rfl,HB1.out⟩
end
theorem row4 {w:World} {g:Nat} {T:TypeId} {a b c d:Int} (h:RowF w g T 4 (ints [a,b,c,d])):(w.cell? ⟨g,0,none⟩=some (.int .i64 a)∧w.cell? ⟨g,1,none⟩=some (.int .i64 b)∧w.cell? ⟨g,2,none⟩=some (.int .i64 c)∧w.cell? ⟨g,3,none⟩=some (.int .i64 d))∧w.frozen? ⟨g,0,none⟩=false∧w.frozen? ⟨g,1,none⟩=false∧w.frozen? ⟨g,2,none⟩=false∧w.frozen? ⟨g,3,none⟩=false :=
 ⟨⟨h.cell (by omega),h.cell (by omega),h.cell (by omega),h.cell (by omega)⟩,h.frozen 0,h.frozen 1,h.frozen 2,h.frozen 3⟩
def bstK (r:Int) (xs:List Int):Nat→Nat
 | 0=>0
 | k+1=>if cmpT (nth xs ((k+1)*4)) (nth xs ((k+1)*4+1)) (nth xs ((k+1)*4+2)) (nth xs ((k+1)*4+3)) (nth xs (bstK r xs k*4)) (nth xs (bstK r xs k*4+1)) (nth xs (bstK r xs k*4+2)) (nth xs (bstK r xs k*4+3))=r then k+1 else bstK r xs k
def bstV (r:Int) (xs:List Int) (k j:Nat):Int:=nth xs (bstK r xs k*4+j)
def better (r:Int) (xs:List Int) (k:Nat):Int:=cmpT (nth xs ((k+1)*4)) (nth xs ((k+1)*4+1)) (nth xs ((k+1)*4+2)) (nth xs ((k+1)*4+3)) (bstV r xs k 0) (bstV r xs k 1) (bstV r xs k 2) (bstV r xs k 3)
theorem bstV_t {r:Int} {xs:List Int} {k:Nat} (h:better r xs k=r) (j:Nat):bstV r xs (k+1) j=nth xs ((k+1)*4+j):=by
 have e:bstK r xs (k+1)=k+1:=by unfold bstK; exact if_pos h
 unfold bstV; rw [e]
theorem bstV_f {r:Int} {xs:List Int} {k:Nat} (h:¬ better r xs k=r) (j:Nat):bstV r xs (k+1) j=bstV r xs k j:=by
 have e:bstK r xs (k+1)=bstK r xs k:=by rw [bstK]; exact if_neg h
 unfold bstV; rw [e]
theorem bstV_0 (r:Int) (xs:List Int) (j:Nat):bstV r xs 0 j=nth xs j:=by unfold bstV bstK; rw [Nat.zero_mul,Nat.zero_add]
def bst4 (r:Int) (xs:List Int) (k:Nat):List Int := [bstV r xs k 0,bstV r xs k 1,bstV r xs k 2,bstV r xs k 3]
set_option maxRecDepth 100000 in
set_option maxHeartbeats 3200000 in
theorem bestThr_any (FF:Nat) (r:Int) (hF:∀ (args:Array Value) (w:World),Sem.run Tryzx.prog (callFunc FF args) w = .ok (.enter FF args) w) (hcl:∀ (H V M D h v m d:Int) (w:World),Calls Tryzx.prog FF #[.agg #[.int .i64 H,.int .i64 V,.int .i64 M,.int .i64 D],.agg #[.int .i64 h,.int .i64 v,.int .i64 m,.int .i64 d]] w fun e w'=>e = .returned (.bool (cmpT H V M D h v m d == r))∧Below w.heap.size w w') (A:Option Addr) (n c:Nat) (xs:List Int) (w:World) (h:RecsAt w w.heap.size 4 A n xs) (hn:1≤n) (hn2:n≤1048576) (hc:n≤c) (hcm:c≤9223372036854775807) :
  Calls Tryzx.prog 66 #[.slice A n c,.func (.func FF) #[] #[]] w fun e w'=>e = .returned (.agg #[.int .i64 (bstV r xs (n - 1) 0),.int .i64 (bstV r xs (n - 1) 1),.int .i64 (bstV r xs (n - 1) 2),.int .i64 (bstV r xs (n - 1) 3)])∧Below w.heap.size w w':=by
 obtain ⟨j,rfl⟩:∃ j,n=j+1:=⟨n - 1,by omega⟩;obtain ⟨b,off,rfl,hbB,hcell⟩:=h.2 (by omega);have x0:w.cell? ⟨b,off,none⟩=some (.int .i64 (nth xs 0)):=hcell 0 (by omega);have x1:w.cell? ⟨b,off+1,none⟩=some (.int .i64 (nth xs 1)):=hcell 1 (by omega);have x2:w.cell? ⟨b,off+2,none⟩=some (.int .i64 (nth xs 2)):=hcell 2 (by omega);have x3:w.cell? ⟨b,off+3,none⟩=some (.int .i64 (nth xs 3)):=hcell 3 (by omega);have HC:=Lib.hid hcell;have HB0:=Lib.hid (((Below.refl w.heap.size w).alloc (Nat.le_refl _) (.cells #[.int .i64 0,.int .i64 0,.int .i64 0,.int .i64 0] 40)).alloc (by simp) (.cells #[.int .i64 (nth xs 0),.int .i64 (nth xs 1),.int .i64 (nth xs 2),.int .i64 (nth xs 3)] 40));have HR0:=Lib.hid ((RowF.of_row (World.rowIs_alloc w #[.int .i64 0,.int .i64 0,.int .i64 0,.int .i64 0] 40 (ints [0,0,0,0]) (fun i hi=>by simp at hi; match i,hi with | 0,_=>rfl | 1,_=>rfl | 2,_=>rfl | 3,_=>rfl))).alloc (.cells #[.int .i64 (nth xs 0),.int .i64 (nth xs 1),.int .i64 (nth xs 2),.int .i64 (nth xs 3)] 40))
 have HR1:Hid (RowF ((w.alloc (.cells #[.int .i64 0,.int .i64 0,.int .i64 0,.int .i64 0] 40)).alloc (.cells #[.int .i64 (nth xs 0),.int .i64 (nth xs 1),.int .i64 (nth xs 2),.int .i64 (nth xs 3)] 40)) (w.heap.size+1) 40 4 (ints (bst4 r xs 0))):=by
  have h:=RowF.of_row (World.rowIs_alloc (w.alloc (.cells #[.int .i64 0,.int .i64 0,.int .i64 0,.int .i64 0] 40)) #[.int .i64 (nth xs 0),.int .i64 (nth xs 1),.int .i64 (nth xs 2),.int .i64 (nth xs 3)] 40 (ints [(nth xs 0),(nth xs 1),(nth xs 2),(nth xs 3)]) (fun i hi=>by simp at hi; match i,hi with | 0,_=>rfl | 1,_=>rfl | 2,_=>rfl | 3,_=>rfl))
  rw [World.size_alloc] at h;unfold bst4;rw [bstV_0,bstV_0,bstV_0,bstV_0];exact h
 have hbl:b<w.heap.size+1:=by omega
 have e1:((j+1:Nat):Int) - 1=(j:Int):=by omega
 clear h hcell;by_cases hc1:c=1
 ·obtain rfl:j=0:=by omega
  subst hc1;go_enter Tryzx.func66,Tryz.ntmps66;go_wp2;go_loopw [14] (fun i wr=>∃ k:Nat,k≤0∧i = .int .i64 k∧Hid (RowF wr w.heap.size 40 4 (ints [0,0,0,0]))∧Hid (RowF wr (w.heap.size+1) 40 4 (ints (bst4 r xs k)))∧Hid (Below w.heap.size w wr)) (fun i _=>0 - (intOf i).toNat)
  case atStart=>exact ⟨0,Nat.zero_le _,rfl,HR0,HR1,HB0⟩
  case round =>
   clear HB0 HR0 HR1 x0 x1 x2 x3;obtain ⟨k,hk,rfl,HA,HQ,HBL⟩:=hrel;by_cases hlt:k<0
   ·omega
   ·obtain rfl:k=0:=by omega
    obtain ⟨⟨c0,c1,c2,c3⟩,_⟩:=row4 (a:=bstV r xs 0 0) (b:=bstV r xs 0 1) (c:=bstV r xs 0 2) (d:=bstV r xs 0 3) HQ.out;obtain ⟨⟨d0,d1,d2,d3⟩,f0,f1,f2,f3⟩:=row4 HA.out;go_wp2;refine bodyPost_ret (v := .agg #[.int .i64 (bstV r xs 0 0),.int .i64 (bstV r xs 0 1),.int .i64 (bstV r xs 0 2),.int .i64 (bstV r xs 0 3)]) (by simp [results,Tryz.results66,go_sem, *]) rfl ⟨by first | rfl | rw [Nat.add_sub_cancel],?_⟩;exact (((HBL.out.setCell (p:=⟨w.heap.size,0,none⟩) (Nat.le_refl _) _).setCell (p:=⟨w.heap.size,1,none⟩) (Nat.le_refl _) _).setCell (p:=⟨w.heap.size,2,none⟩) (Nat.le_refl _) _).setCell (p:=⟨w.heap.size,3,none⟩) (Nat.le_refl _) _
 ·have hc2:1<c:=by omega
  have hc3:(1:Int)<(c:Int):=by omega
  clear hc1;go_enter Tryzx.func66,Tryz.ntmps66;go_wp2;go_loopw [14] (fun i wr=>∃ k:Nat,k≤j∧i = .int .i64 k∧Hid (RowF wr w.heap.size 40 4 (ints [0,0,0,0]))∧Hid (RowF wr (w.heap.size+1) 40 4 (ints (bst4 r xs k)))∧Hid (Below w.heap.size w wr)) (fun i _=>j - (intOf i).toNat)
  case atStart=>exact ⟨0,Nat.zero_le _,rfl,HR0,HR1,HB0⟩
  case round =>
   clear HB0 HR0 HR1 x0 x1 x2 x3;obtain ⟨k,hk,rfl,HA,HQ,HBL⟩:=hrel;by_cases hlt:k<j
   ·have y0:wr.cell? ⟨b,off+4+k*4,none⟩=some (.int .i64 (nth xs ((k+1)*4))):=by
     have:=(HBL.out.cell (p:=⟨b,off+(k+1)*4,none⟩) hbB).trans (HC.out ((k+1)*4) (by omega));rwa [show off+(k+1)*4=off+4+k*4 by omega] at this
    have y1:wr.cell? ⟨b,off+4+k*4+1,none⟩=some (.int .i64 (nth xs ((k+1)*4+1))):=by
     have:=(HBL.out.cell (p:=⟨b,off+((k+1)*4+1),none⟩) hbB).trans (HC.out ((k+1)*4+1) (by omega));rwa [show off+((k+1)*4+1)=off+4+k*4+1 by omega] at this
    have y2:wr.cell? ⟨b,off+4+k*4+2,none⟩=some (.int .i64 (nth xs ((k+1)*4+2))):=by
     have:=(HBL.out.cell (p:=⟨b,off+((k+1)*4+2),none⟩) hbB).trans (HC.out ((k+1)*4+2) (by omega));rwa [show off+((k+1)*4+2)=off+4+k*4+2 by omega] at this
    have y3:wr.cell? ⟨b,off+4+k*4+3,none⟩=some (.int .i64 (nth xs ((k+1)*4+3))):=by
     have:=(HBL.out.cell (p:=⟨b,off+((k+1)*4+3),none⟩) hbB).trans (HC.out ((k+1)*4+3) (by omega));rwa [show off+((k+1)*4+3)=off+4+k*4+3 by omega] at this
    have hz:=HBL.out.size;have hgl:=HQ.out.lt;obtain ⟨⟨c0,c1,c2,c3⟩,_⟩:=row4 (a:=bstV r xs k 0) (b:=bstV r xs k 1) (c:=bstV r xs k 2) (d:=bstV r xs k 3) HQ.out;have TT:Hid (better r xs k=r→bst4 r xs (k+1) = [nth xs ((k+1)*4),nth xs ((k+1)*4+1),nth xs ((k+1)*4+2),nth xs ((k+1)*4+3)]):=Lib.hid (fun h=>by unfold bst4; rw [bstV_t h,bstV_t h,bstV_t h,bstV_t h]; rfl)
    have TF:Hid (¬ better r xs k=r→bst4 r xs (k+1)=bst4 r xs k):=Lib.hid (fun h=>by unfold bst4; rw [bstV_f h,bstV_f h,bstV_f h,bstV_f h]);have HQ4:Hid (bst4 r xs k = [bstV r xs k 0,bstV r xs k 1,bstV r xs k 2,bstV r xs k 3]):=rfl;unfold better at TT TF;have HBA:=Lib.hid (HBL.out.alloc hz (.cells #[.int .i64 (nth xs ((k+1)*4)),.int .i64 (nth xs ((k+1)*4+1)),.int .i64 (nth xs ((k+1)*4+2)),.int .i64 (nth xs ((k+1)*4+3))] 40));have HAA:=Lib.hid (HA.out.alloc (.cells #[.int .i64 (nth xs ((k+1)*4)),.int .i64 (nth xs ((k+1)*4+1)),.int .i64 (nth xs ((k+1)*4+2)),.int .i64 (nth xs ((k+1)*4+3))] 40));have HBX:=Lib.hid (HQ.out.alloc (.cells #[.int .i64 (nth xs ((k+1)*4)),.int .i64 (nth xs ((k+1)*4+1)),.int .i64 (nth xs ((k+1)*4+2)),.int .i64 (nth xs ((k+1)*4+3))] 40));have HNX:=Lib.hid (RowF.of_row (World.rowIs_alloc wr #[.int .i64 (nth xs ((k+1)*4)),.int .i64 (nth xs ((k+1)*4+1)),.int .i64 (nth xs ((k+1)*4+2)),.int .i64 (nth xs ((k+1)*4+3))] 40 (ints [(nth xs ((k+1)*4)),(nth xs ((k+1)*4+1)),(nth xs ((k+1)*4+2)),(nth xs ((k+1)*4+3))]) (fun i hi=>by simp at hi; match i,hi with | 0,_=>rfl | 1,_=>rfl | 2,_=>rfl | 3,_=>rfl)))
    clear HA HQ HBL;generalize nth xs ((k+1)*4)=p0 at *
    generalize nth xs ((k+1)*4+1)=p1 at *
    generalize nth xs ((k+1)*4+2)=p2 at *
    generalize nth xs ((k+1)*4+3)=p3 at *
    generalize bstV r xs k 0=q0 at *
    generalize bstV r xs k 1=q1 at *
    generalize bstV r xs k 2=q2 at *
    generalize bstV r xs k 3=q3 at *
    go_wp2_with fail
    refine (hcl p0 p1 p2 p3 q0 q1 q2 q3 _).mono ?_;rintro e w2 ⟨rfl,hb2⟩;have HB2:=Lib.hid (HBA.out.trans (hb2.mono (by simp; omega)))
    have HA2:=Lib.hid (HAA.out.after hb2);have HX2:=Lib.hid (HBX.out.after hb2);have rN:=HNX.out.after hb2;clear hb2 HBA HAA HBX HNX;by_cases hbt:cmpT p0 p1 p2 p3 q0 q1 q2 q3=r
    ·have HF:=Lib.hid (TT.out hbt)
     have hbe:(cmpT p0 p1 p2 p3 q0 q1 q2 q3 == r)=true:=by rw [hbt]; simp
     rw [hbe];rw [HQ4.out] at HX2;clear hbt hbe;obtain ⟨⟨n0,n1,n2,n3⟩,_⟩:=row4 rN;obtain ⟨⟨b0,b1,b2,b3⟩,g0,g1,g2,g3⟩:=row4 HX2.out;have HX3:=Lib.hid (((((HX2.out.set 0 (.int .i64 p0)).set 1 (.int .i64 p1)).set 2 (.int .i64 p2)).set 3 (.int .i64 p3)).congr (f':=ints [p0,p1,p2,p3]) (fun i hi=>by match i,hi with | 0,_=>rfl | 1,_=>rfl | 2,_=>rfl | 3,_=>rfl));have HA3:=Lib.hid ((((HA2.out.set_other (p:=⟨w.heap.size+1,0,none⟩) (by simp) (.int .i64 p0)).set_other (p:=⟨w.heap.size+1,1,none⟩) (by simp) (.int .i64 p1)).set_other (p:=⟨w.heap.size+1,2,none⟩) (by simp) (.int .i64 p2)).set_other (p:=⟨w.heap.size+1,3,none⟩) (by simp) (.int .i64 p3));have HB3:=Lib.hid ((((HB2.out.setCell (p:=⟨w.heap.size+1,0,none⟩) (by simp) (.int .i64 p0)).setCell (p:=⟨w.heap.size+1,1,none⟩) (by simp) (.int .i64 p1)).setCell (p:=⟨w.heap.size+1,2,none⟩) (by simp) (.int .i64 p2)).setCell (p:=⟨w.heap.size+1,3,none⟩) (by simp) (.int .i64 p3));clear rN;go_wp2;go_roundw
     case rel=>exact ⟨k+1,by omega,by go_num,HA3,by rw [HF.out]; exact HX3,HB3⟩
     case measure=>simp [intOf]; omega
    ·have HF:=Lib.hid (TF.out hbt)
     have hbe:(cmpT p0 p1 p2 p3 q0 q1 q2 q3 == r)=false:=by simp [hbt]
     rw [hbe];clear hbt hbe;go_wp2;go_roundw
     case rel=>exact ⟨k+1,by omega,by go_num,HA2,by rw [HF.out]; exact HX2,HB2⟩
     case measure=>simp [intOf]; omega
   ·obtain rfl:k=j:=by omega
    obtain ⟨⟨c0,c1,c2,c3⟩,_⟩:=row4 (a:=bstV r xs k 0) (b:=bstV r xs k 1) (c:=bstV r xs k 2) (d:=bstV r xs k 3) HQ.out;obtain ⟨⟨d0,d1,d2,d3⟩,f0,f1,f2,f3⟩:=row4 HA.out;go_wp2;refine bodyPost_ret (v := .agg #[.int .i64 (bstV r xs k 0),.int .i64 (bstV r xs k 1),.int .i64 (bstV r xs k 2),.int .i64 (bstV r xs k 3)]) (by simp [results,Tryz.results66,go_sem, *]) rfl ⟨by first | rfl | rw [Nat.add_sub_cancel],?_⟩;exact (((HBL.out.setCell (p:=⟨w.heap.size,0,none⟩) (Nat.le_refl _) _).setCell (p:=⟨w.heap.size,1,none⟩) (Nat.le_refl _) _).setCell (p:=⟨w.heap.size,2,none⟩) (Nat.le_refl _) _).setCell (p:=⟨w.heap.size,3,none⟩) (Nat.le_refl _) _
theorem bestGreatestThrust_any (A:Option Addr) (n c:Nat) (xs:List Int) (w:World) (h:RecsAt w w.heap.size 4 A n xs) (hn:1≤n) (hn2:n≤1048576) (hc:n≤c) (hcm:c≤9223372036854775807) :
  Calls Tryzx.prog 66 #[.slice A n c,.func (.func 70) #[] #[]] w fun e w'=>e = .returned (.agg #[.int .i64 (bstV 1 xs (n - 1) 0),.int .i64 (bstV 1 xs (n - 1) 1),.int .i64 (bstV 1 xs (n - 1) 2),.int .i64 (bstV 1 xs (n - 1) 3)])∧Below w.heap.size w w' :=
 bestThr_any 70 1 (fun args w=>by simp) cloGreatestThrust_any A n c xs w h hn hn2 hc hcm
theorem bestLeastThrust_any (A:Option Addr) (n c:Nat) (xs:List Int) (w:World) (h:RecsAt w w.heap.size 4 A n xs) (hn:1≤n) (hn2:n≤1048576) (hc:n≤c) (hcm:c≤9223372036854775807) :
  Calls Tryzx.prog 66 #[.slice A n c,.func (.func 67) #[] #[]] w fun e w'=>e = .returned (.agg #[.int .i64 (bstV (-1) xs (n - 1) 0),.int .i64 (bstV (-1) xs (n - 1) 1),.int .i64 (bstV (-1) xs (n - 1) 2),.int .i64 (bstV (-1) xs (n - 1) 3)])∧Below w.heap.size w w' :=
 bestThr_any 67 (-1) (fun args w=>by simp) cloLeastThrust_any A n c xs w h hn hn2 hc hcm
end X
end Go.Proofs.YtodneggnnipcnaaGreat
