/-
  Texts that the law stands on, part 1.
-/
import Derived.Test.YtodneggnnipcnaaGreatH10
import Derived.Test.YtodneggnnipcnaaGreatH11
import Derived.Test.YtodneggnnipcnaaGreatH15
import Derived.Test.YtodneggnnipcnaaGreatH17
import Derived.Test.YtodneggnnipcnaaGreatH18
import Derived.Test.YtodneggnnipcnaaGreatH20
import Derived.Test.YtodneggnnipcnaaGreatH21
import Derived.Test.YtodneggnnipcnaaGreatH22
import Derived.Test.YtodneggnnipcnaaGreatH23
import Derived.Test.YtodneggnnipcnaaGreatProg
import Derived.KernelRfl
import Derived.Deep.RegionHeld3
import Derived.Deep.QuietTactic
import Derived.BigQuiet
import Derived.BigRegion
import Derived.IntWalk
import Derived.Deep.DeepCutAuto
set_option maxRecDepth 100000
set_option linter.unusedVariables false
set_option linter.unusedSimpArgs false
section
namespace Go.Proofs.Tryzx
theorem func8:prog.funcs[8]?=some Tryz.f8:=by kernel_rfl
theorem func17:prog.funcs[17]?=some Tryz.f17:=by kernel_rfl
theorem func18:prog.funcs[18]?=some Tryz.f18:=by kernel_rfl
theorem func32:prog.funcs[32]?=some Tryz.f32:=by kernel_rfl
theorem func33:prog.funcs[33]?=some Tryz.f33:=by kernel_rfl
theorem func35:prog.funcs[35]?=some Tryz.f35:=by kernel_rfl
theorem func36:prog.funcs[36]?=some Tryz.f36:=by kernel_rfl
theorem func40:prog.funcs[40]?=some Tryz.f40:=by kernel_rfl
theorem func41:prog.funcs[41]?=some Tryz.f41:=by kernel_rfl
theorem func42:prog.funcs[42]?=some Tryz.f42:=by kernel_rfl
theorem func58:prog.funcs[58]?=some Tryz.f58:=by kernel_rfl
theorem func59:prog.funcs[59]?=some Tryz.f59:=by kernel_rfl
theorem func60:prog.funcs[60]?=some Tryz.f60:=by kernel_rfl
theorem func61:prog.funcs[61]?=some Tryz.f61:=by kernel_rfl
theorem func62:prog.funcs[62]?=some Tryz.f62:=by kernel_rfl
theorem func66:prog.funcs[66]?=some Tryz.f66:=by kernel_rfl
theorem func67:prog.funcs[67]?=some Tryz.f67:=by kernel_rfl
theorem func68:prog.funcs[68]?=some Tryz.f68:=by kernel_rfl
theorem func70:prog.funcs[70]?=some Tryz.f70:=by kernel_rfl
theorem func71:prog.funcs[71]?=some Tryz.f71:=by kernel_rfl
theorem func84:prog.funcs[84]?=some Tryz.f84:=by kernel_rfl
theorem func85:prog.funcs[85]?=some Tryz.f85:=by kernel_rfl
theorem func86:prog.funcs[86]?=some Tryz.f86:=by kernel_rfl
theorem func87:prog.funcs[87]?=some Tryz.f87:=by kernel_rfl
theorem func88:prog.funcs[88]?=some Tryz.f88:=by kernel_rfl
theorem func94:prog.funcs[94]?=some Tryz.f94:=by kernel_rfl
theorem func95:prog.funcs[95]?=some Tryz.f95:=by kernel_rfl
theorem func106:prog.funcs[106]?=some Tryz.f106:=by kernel_rfl
theorem func107:prog.funcs[107]?=some Tryz.f107:=by kernel_rfl
theorem func109:prog.funcs[109]?=some Tryz.f109:=by kernel_rfl
theorem func110:prog.funcs[110]?=some Tryz.f110:=by kernel_rfl
theorem func111:prog.funcs[111]?=some Tryz.f111:=by kernel_rfl
theorem func112:prog.funcs[112]?=some Tryz.f112:=by kernel_rfl
theorem func113:prog.funcs[113]?=some Tryz.f113:=by kernel_rfl
theorem func130:prog.funcs[130]?=some Tryz.f130:=by kernel_rfl
theorem func133:prog.funcs[133]?=some Tryz.f133:=by kernel_rfl
theorem func164:prog.funcs[164]?=some Tryz.f164:=by kernel_rfl
theorem underlying25:prog.underlying 25=some (Go.TypeDesc.slice 77):=(underlying_x 25).trans Tryz.underlying25
theorem underlying77 : prog.underlying 77 = some (Go.TypeDesc.struct #[{ name := "Stone", type := 3, offset := 0, embedded := false, tag := "", pkgPath := "", byteOffset := 0 }, { name := "Weight", type := 3, offset := 1, embedded := false, tag := "", pkgPath := "", byteOffset := 8 }, { name := "X", type := 3, offset := 2, embedded := false, tag := "", pkgPath := "", byteOffset := 16 }]) := (underlying_x 77).trans Tryz.underlying77
theorem underlying93:prog.underlying 93=some (Go.TypeDesc.slice 116):=(underlying_x 93).trans Tryz.underlying93
theorem underlying120:prog.underlying 120=some (Go.TypeDesc.map 3 4):=(underlying_x 120).trans Tryz.underlying120
@[simp] theorem call8 (args w):Sem.run prog (callFunc 8 args) w = .ok (.enter 8 args) w:=call_x 8 args w func8
@[simp] theorem call17 (args w):Sem.run prog (callFunc 17 args) w = .ok (.enter 17 args) w:=call_x 17 args w func17
@[simp] theorem call18 (args w):Sem.run prog (callFunc 18 args) w = .ok (.enter 18 args) w:=call_x 18 args w func18
@[simp] theorem call32 (args w):Sem.run prog (callFunc 32 args) w = .ok (.enter 32 args) w:=call_x 32 args w func32
@[simp] theorem call33 (args w):Sem.run prog (callFunc 33 args) w = .ok (.enter 33 args) w:=call_x 33 args w func33
@[simp] theorem call35 (args w):Sem.run prog (callFunc 35 args) w = .ok (.enter 35 args) w:=call_x 35 args w func35
@[simp] theorem call36 (args w):Sem.run prog (callFunc 36 args) w = .ok (.enter 36 args) w:=call_x 36 args w func36
@[simp] theorem call40 (args w):Sem.run prog (callFunc 40 args) w = .ok (.enter 40 args) w:=call_x 40 args w func40
@[simp] theorem call41 (args w):Sem.run prog (callFunc 41 args) w = .ok (.enter 41 args) w:=call_x 41 args w func41
@[simp] theorem call42 (args w):Sem.run prog (callFunc 42 args) w = .ok (.enter 42 args) w:=call_x 42 args w func42
@[simp] theorem call58 (args w):Sem.run prog (callFunc 58 args) w = .ok (.enter 58 args) w:=call_x 58 args w func58
@[simp] theorem call59 (args w):Sem.run prog (callFunc 59 args) w = .ok (.enter 59 args) w:=call_x 59 args w func59
@[simp] theorem call60 (args w):Sem.run prog (callFunc 60 args) w = .ok (.enter 60 args) w:=call_x 60 args w func60
@[simp] theorem call61 (args w):Sem.run prog (callFunc 61 args) w = .ok (.enter 61 args) w:=call_x 61 args w func61
@[simp] theorem call62 (args w):Sem.run prog (callFunc 62 args) w = .ok (.enter 62 args) w:=call_x 62 args w func62
@[simp] theorem call66 (args w):Sem.run prog (callFunc 66 args) w = .ok (.enter 66 args) w:=call_x 66 args w func66
@[simp] theorem call67 (args w):Sem.run prog (callFunc 67 args) w = .ok (.enter 67 args) w:=call_x 67 args w func67
@[simp] theorem call68 (args w):Sem.run prog (callFunc 68 args) w = .ok (.enter 68 args) w:=call_x 68 args w func68
@[simp] theorem call70 (args w):Sem.run prog (callFunc 70 args) w = .ok (.enter 70 args) w:=call_x 70 args w func70
@[simp] theorem call71 (args w):Sem.run prog (callFunc 71 args) w = .ok (.enter 71 args) w:=call_x 71 args w func71
@[simp] theorem call84 (args w):Sem.run prog (callFunc 84 args) w = .ok (.enter 84 args) w:=call_x 84 args w func84
@[simp] theorem call85 (args w):Sem.run prog (callFunc 85 args) w = .ok (.enter 85 args) w:=call_x 85 args w func85
@[simp] theorem call86 (args w):Sem.run prog (callFunc 86 args) w = .ok (.enter 86 args) w:=call_x 86 args w func86
@[simp] theorem call87 (args w):Sem.run prog (callFunc 87 args) w = .ok (.enter 87 args) w:=call_x 87 args w func87
@[simp] theorem call88 (args w):Sem.run prog (callFunc 88 args) w = .ok (.enter 88 args) w:=call_x 88 args w func88
@[simp] theorem call94 (args w):Sem.run prog (callFunc 94 args) w = .ok (.enter 94 args) w:=call_x 94 args w func94
@[simp] theorem call95 (args w):Sem.run prog (callFunc 95 args) w = .ok (.enter 95 args) w:=call_x 95 args w func95
@[simp] theorem call106 (args w):Sem.run prog (callFunc 106 args) w = .ok (.enter 106 args) w:=call_x 106 args w func106
@[simp] theorem call107 (args w):Sem.run prog (callFunc 107 args) w = .ok (.enter 107 args) w:=call_x 107 args w func107
@[simp] theorem call109 (args w):Sem.run prog (callFunc 109 args) w = .ok (.enter 109 args) w:=call_x 109 args w func109
@[simp] theorem call110 (args w):Sem.run prog (callFunc 110 args) w = .ok (.enter 110 args) w:=call_x 110 args w func110
@[simp] theorem call111 (args w):Sem.run prog (callFunc 111 args) w = .ok (.enter 111 args) w:=call_x 111 args w func111
@[simp] theorem call112 (args w):Sem.run prog (callFunc 112 args) w = .ok (.enter 112 args) w:=call_x 112 args w func112
@[simp] theorem call113 (args w):Sem.run prog (callFunc 113 args) w = .ok (.enter 113 args) w:=call_x 113 args w func113
@[simp] theorem call130 (args w):Sem.run prog (callFunc 130 args) w = .ok (.enter 130 args) w:=call_x 130 args w func130
@[simp] theorem call133 (args w):Sem.run prog (callFunc 133 args) w = .ok (.enter 133 args) w:=call_x 133 args w func133
@[simp] theorem call164 (args w):Sem.run prog (callFunc 164 args) w = .ok (.enter 164 args) w:=call_x 164 args w func164
end Go.Proofs.Tryzx
end
namespace Go.Proofs.YtodneggnnipcnaaGreat
namespace X
open Go.RowKit
theorem magnitude_any (a:Int) (w:World) (ha:okG a):Calls Tryzx.prog 71 #[.int .i64 a] w fun e w'=>e = .returned (.int .u64 (a.natAbs:Nat))∧w=w':=by
 go_enter Tryzx.func71,Tryz.ntmps71;go_wp2;all_goals
  go_ret;first
  | exact ⟨ret_int (u64_neg ha (by assumption)),rfl⟩
  | exact ⟨ret_int (u64_pos ha (by assumption)),rfl⟩
set_option maxHeartbeats 400000 in
theorem commonDivisor_any (A:Option Addr) (n c:Nat) (L:List Int) (w:World) (h:IntsAt w w.heap.size A n L) (hn:n≤1048576) (hL:∀ k,okG (nth L k)) :
  Calls Tryzx.prog 42 #[.slice A n c] w fun e w'=>e = .returned (.int .i64 (gcdTo L n:Nat))∧∃ n,w'=w.drewN n:=by
 have H:=Lib.hid h;have HL:=Lib.hid hL;have HGL:Hid (∀ k,okU (gcdTo L k)):=fun k=>okU_gcdTo hL k
 clear h hL;go_enter Tryzx.func42,Tryz.ntmps42;go_wp2;go_loopw [3,9] (fun x i wr=>∃ (k:Nat),k≤n∧i = .int .i64 k∧x = .int .u64 (gcdTo L k:Nat)∧Hid (∃ n,wr=w.drewN n)) (fun _ i _=>n - (intOf i).toNat)
 case atStart=>exact ⟨0,Nat.zero_le _,rfl,rfl,Lib.hid ⟨0,rfl⟩⟩
 case round =>
  obtain ⟨k,hk,rfl,rfl,HW⟩:=hrel;by_cases hlt:k<n
  ·obtain ⟨b,off,rfl,hbB,hc⟩:=H.out.2 (by omega)
   have x0:wr.cell? ⟨b,off+k,none⟩=some (.int .i64 (nth L k)):=by
    obtain ⟨n',rfl⟩:=HW.out;exact hc k hlt
   have ho:=HL.out k;have HS:Hid (gcdTo L (k+1)=Nat.gcd (gcdTo L k) (nth L k).natAbs):=rfl;have hu:=HGL.out k;have hm:=okU_nat ho;clear hc;go_wp2_with fail
   refine (magnitude_any _ _ ho).mono ?_;rintro e w' ⟨rfl,rfl⟩;generalize gcdTo L k=d0 at *
   generalize (nth L k).natAbs=m0 at *
   go_wp2;go_loopw [3,6] (fun x y wr=>∃ (d m:Nat),x = .int .u64 d∧y = .int .u64 m∧Hid (Nat.gcd d m=Nat.gcd d0 m0)∧okU d∧okU m∧Hid (∃ n,wr=w.drewN n)) (fun _ y _=>(intOf y).toNat)
   case atStart=>exact ⟨d0,m0,rfl,rfl,Lib.hid rfl,hu,hm,HW⟩
   case round =>
    clear HW hu hm;obtain ⟨d,m,rfl,rfl,HG,hd,hm,HW⟩:=hrel;by_cases h0:m=0
    ·subst h0
     have HF:Hid (gcdTo L (k+1)=d):=by
      have h:=HG.out;rw [Nat.gcd_zero_right] at h;show _=_
      rw [HS.out,h]
     clear HG hm;go_wp2;go_roundw
     case rel=>exact ⟨k+1,by omega,by go_num,by rw [HF.out],HW⟩
     case measure=>simp [intOf]; omega
    ·have hd1:((m:Int) != 0)=true:=by simp [h0]
     have hd2:((m:Int) == 0)=false:=by simp [h0]
     have hd3:¬ (m:Int)=0:=by omega
     have he:Int.tmod (d:Int) (m:Int)=((d % m:Nat):Int):=by rw [Int.tmod_eq_emod_of_nonneg (by omega)]; rfl
     have HG2:Hid (Nat.gcd m (d % m)=Nat.gcd d0 m0):=by
      show _=_
      rw [gcd_round]; exact HG.out
     have HM:Hid (d % m<m):=Nat.mod_lt _ (by omega);have ho2:=okU_mod (d:=d) h0 hm;clear HG;go_wp2;go_quiet (fail)
     go_wp2;go_roundw
     case rel=>exact ⟨m,d % m,rfl,rfl,HG2,hm,ho2,by obtain ⟨n,rfl⟩:=HW.out; exact Lib.hid ⟨_,World.drewN_drewN _ _ _⟩⟩
     case measure=>simp [intOf]; exact HM.out
  ·obtain rfl:n=k:=by omega
   have hu:=u64_to_i64 (HGL.out n);go_wp2;go_ret;exact ⟨rfl,HW.out⟩
theorem okG_nth4 {a b c d:Int} (ha:okG a) (hb:okG b) (hc:okG c) (hd:okG d):∀ k,okG (nth [a,b,c,d] k)
 | 0=>ha
 | 1=>hb
 | 2=>hc
 | 3=>hd
 | k+4=>by simp [nth,List.getD,okG]
set_option maxRecDepth 100000 in
set_option maxHeartbeats 1600000 in
theorem iThrustOk_any (H V M D:Int) (w:World) :
  Calls Tryzx.prog 94 #[.agg #[.int .i64 H,.int .i64 V,.int .i64 M,.int .i64 D]] w fun e w'=>e = .returned (.bool (thrB H V M D))∧Below w.heap.size w w':=by
 have HA:=Lib.hid ((Below.refl w.heap.size w).alloc (Nat.le_refl _) (.cells #[.int .i64 H,.int .i64 V,.int .i64 M,.int .i64 D] 40));cases h1:inB D 1 1000000
 ·have HF:=Lib.hid (thrB_1 H V M h1)
  go_enter Tryzx.func94,Tryz.ntmps94;go_wp2_with (go_at_call 80; refine (within_any _ _ _ _).mono ?_; rw [h1]; rintro e w' ⟨rfl,rfl⟩);go_ret;exact ⟨ret_bool HF.out.symm,HA.out⟩
 cases h2:inB H 0 1000000000000
 ·have HF:=Lib.hid (thrB_2 V M D h2)
  go_enter Tryzx.func94,Tryz.ntmps94;go_wp2_with (go_at_call 80; refine (within_any _ _ _ _).mono ?_; (first | rw [h1] | rw [h2]); rintro e w' ⟨rfl,rfl⟩);go_ret;exact ⟨ret_bool HF.out.symm,HA.out⟩
 cases h3:inB V (-10000000000000) 10000000000000
 ·have HF:=Lib.hid (thrB_3 H M D h3)
  go_enter Tryzx.func94,Tryz.ntmps94;go_wp2_with (go_at_call 80; refine (within_any _ _ _ _).mono ?_; (first | rw [h1] | rw [h2] | rw [h3]); rintro e w' ⟨rfl,rfl⟩);go_ret;exact ⟨ret_bool HF.out.symm,HA.out⟩
 cases h4:inB M (-10000000000000) 10000000000000
 ·have HF:=Lib.hid (thrB_4 H V D h4)
  go_enter Tryzx.func94,Tryz.ntmps94;go_wp2_with (go_at_call 80; refine (within_any _ _ _ _).mono ?_; (first | rw [h1] | rw [h2] | rw [h3] | rw [h4]); rintro e w' ⟨rfl,rfl⟩);go_ret;exact ⟨ret_bool HF.out.symm,HA.out⟩
 have HT:Hid (decide (gcdTo [H,V,M,D] 4=1)=thrB H V M D):=by
  show _=_
  rw [thrB_t h1 h2 h3 h4,gcdTo_4]
 have HOK:Hid (∀ k,okG (nth [H,V,M,D] k)):=by
  have b1:=inB_iff.1 h1;have b2:=inB_iff.1 h2;have b3:=inB_iff.1 h3;have b4:=inB_iff.1 h4;exact okG_nth4 (okG_of (by omega)) (okG_of (by omega)) (okG_of (by omega)) (okG_of (by omega))
 go_enter Tryzx.func94,Tryz.ntmps94;go_wp2_with (go_at_call 80; refine (within_any _ _ _ _).mono ?_; (first | rw [h1] | rw [h2] | rw [h3] | rw [h4]); rintro e w' ⟨rfl,rfl⟩);have hx:IntsAt ((w.alloc (.cells #[.int .i64 H,.int .i64 V,.int .i64 M,.int .i64 D] 40)).alloc (.cells #[.int .i64 H,.int .i64 V,.int .i64 M,.int .i64 D] 3)) ((w.alloc (.cells #[.int .i64 H,.int .i64 V,.int .i64 M,.int .i64 D] 40)).alloc (.cells #[.int .i64 H,.int .i64 V,.int .i64 M,.int .i64 D] 3)).heap.size (some ⟨w.heap.size+1,0,none⟩) 4 [H,V,M,D]:=by
  have h:=intsAt_row (World.rowIs_alloc (w.alloc (.cells #[.int .i64 H,.int .i64 V,.int .i64 M,.int .i64 D] 40)) #[.int .i64 H,.int .i64 V,.int .i64 M,.int .i64 D] 3 (ints [H,V,M,D]) (fun j hj=>by simp at hj; match j,hj with | 0,_=>rfl | 1,_=>rfl | 2,_=>rfl | 3,_=>rfl)) (zs := [H,V,M,D]) (by simp) (fun k _=>rfl)
  simp only [World.size_alloc] at h ⊢;exact h
 refine (commonDivisor_any _ _ _ [H,V,M,D] _ (by exact hx) (by omega) HOK.out).mono ?_;rintro e w1 ⟨rfl,n1,rfl⟩;have HG:=Lib.hid (gcd_one (gcdTo [H,V,M,D] 4));clear hx;generalize gcdTo [H,V,M,D] 4=g0 at *
 go_wp2;go_ret;exact ⟨ret_bool (by rw [← HT.out]; first | exact HG.out | simp),below_drewN (HA.out.alloc (by simp) _) _⟩
end X
namespace X
open Go.RowKit
theorem at_below (w:World) (v:Value) (H V M D:Int) (T U:TypeId):Below w.heap.size w ((w.alloc (.cells #[v] T)).alloc (.cells #[.int .i64 H,.int .i64 V,.int .i64 M,.int .i64 D] U)):=((Below.refl _ _).alloc (Nat.le_refl _) _).alloc (by simp) _
end X
namespace X
open Go.RowKit
def fulB (a b c d H V M D:Int):Bool:=thrB H V M D && (rowB a b c d && metB a b c d H V M D)
theorem fulB_1 (a b c d:Int) {H V M D:Int} (h:thrB H V M D=false):fulB a b c d H V M D=false:=by simp [fulB,h]
theorem fulB_2 {a b c d:Int} (H V M D:Int) (h:rowB a b c d=false):fulB a b c d H V M D=false:=by simp [fulB,h]
theorem fulB_t {a b c d H V M D:Int} (h:thrB H V M D=true) (h2:rowB a b c d=true):fulB a b c d H V M D=metB a b c d H V M D:=by simp [fulB,h,h2]
def fulAt (rs:List Int) (H V M D:Int) (i:Nat):Bool:=fulB (nth rs (i*4)) (nth rs (i*4+1)) (nth rs (i*4+2)) (nth rs (i*4+3)) H V M D
def fulAll (rs:List Int) (n:Nat) (H V M D:Int):Bool:=inB (n:Int) 1 40 && allB (fulAt rs H V M D) n
theorem fulAll_1 (rs:List Int) {n:Nat} (H V M D:Int) (h:inB (n:Int) 1 40=false):fulAll rs n H V M D=false:=by simp [fulAll,h]
theorem fulAll_2 {rs:List Int} {n k:Nat} {H V M D:Int} (hk:k<n) (h:fulAt rs H V M D k=false):fulAll rs n H V M D=false:=by simp [fulAll,allB_f hk h]
theorem fulAll_t {rs:List Int} {n:Nat} {H V M D:Int} (h1:inB (n:Int) 1 40=true) (h:allTo (fulAt rs H V M D) n):fulAll rs n H V M D=true:=by simp [fulAll,h1,allB_t h]
theorem fulAll_s {rs:List Int} {n:Nat} {H V M D:Int} (h:allTo (fulAt rs H V M D) n):fulAll rs n H V M D=inB (n:Int) 1 40:=by simp [fulAll,allB_t h]
set_option maxRecDepth 100000 in
set_option maxHeartbeats 1600000 in
theorem sides_any (a b c d H V M D:Int) (w:World) (hb:SideBd a b c d H V M D) :
  Calls Tryzx.prog 164 #[.agg #[.int .i64 a,.int .i64 b,.int .i64 c,.int .i64 d],.agg #[.int .i64 H,.int .i64 V,.int .i64 M,.int .i64 D]] w fun e w'=>e = .returned (.tuple #[.int .i64 (a*H+b*V+c*M),.int .i64 (d*D)])∧Below w.heap.size w w':=by
 obtain ⟨b1,b2,b3,b4⟩:=hb;have HA:=Lib.hid (((Below.refl w.heap.size w).alloc (Nat.le_refl _) (.cells #[.int .i64 a,.int .i64 b,.int .i64 c,.int .i64 d] 168)).alloc (by simp) (.cells #[.int .i64 H,.int .i64 V,.int .i64 M,.int .i64 D] 40));go_enter Tryzx.func164,Tryz.ntmps164;go_wp2_with fail
 go_quiet (fail)
 go_wp2;go_ret2;exact ⟨rfl,below_drewN HA.out _⟩
set_option maxRecDepth 100000 in
set_option maxHeartbeats 1600000 in
theorem iFulfills_any (a b c d H V M D:Int) (w:World) :
  Calls Tryzx.prog 133 #[.agg #[.int .i64 H,.int .i64 V,.int .i64 M,.int .i64 D],.agg #[.int .i64 a,.int .i64 b,.int .i64 c,.int .i64 d]] w fun e w'=>e = .returned (.bool (fulB a b c d H V M D))∧Below w.heap.size w w':=by
 have HT:=Lib.hid (TRi.start w a b c d H V M D 40 168);cases hT:thrB H V M D
 ·have HF:=Lib.hid (fulB_1 a b c d hT)
  go_enter Tryzx.func133,Tryz.ntmps133;go_wp2_with fail
  refine (iThrustOk_any _ _ _ _ _).mono ?_;rw [hT];rintro e w1 ⟨rfl,hb1⟩;have HT1:=Lib.hid (HT.out.after hb1);clear hb1;go_wp2;go_ret;exact ⟨ret_bool HF.out.symm,HT1.out.below⟩
 cases hR:rowB a b c d
 ·have HF:=Lib.hid (fulB_2 H V M D hR)
  go_enter Tryzx.func133,Tryz.ntmps133;go_wp2_with fail
  refine (iThrustOk_any _ _ _ _ _).mono ?_;rw [hT];rintro e w1 ⟨rfl,hb1⟩;have HT1:=Lib.hid (HT.out.after hb1);obtain ⟨c0,c1,c2,c3⟩:=HT1.out.row.1;clear hb1;go_wp2_with fail
  refine (iRowOk_any _ _ _ _ _).mono ?_;rw [hR];rintro e w2 ⟨rfl,hb2⟩;have HT2:=Lib.hid (HT1.out.after hb2);clear hb2;go_wp2;go_ret;exact ⟨ret_bool HF.out.symm,HT2.out.below⟩
 have HF:=Lib.hid (fulB_t hT hR);have HS:=Lib.hid (sideBd hT hR);go_enter Tryzx.func133,Tryz.ntmps133;go_wp2_with fail
 refine (iThrustOk_any _ _ _ _ _).mono ?_;rw [hT];rintro e w1 ⟨rfl,hb1⟩;have HT1:=Lib.hid (HT.out.after hb1);obtain ⟨c0,c1,c2,c3⟩:=HT1.out.row.1;clear hb1;go_wp2_with fail
 refine (iRowOk_any _ _ _ _ _).mono ?_;rw [hR];rintro e w2 ⟨rfl,hb2⟩;have HT2:=Lib.hid (HT1.out.after hb2);clear c0 c1 c2 c3 hb2;obtain ⟨c0,c1,c2,c3⟩:=HT2.out.row.1;obtain ⟨d0,d1,d2,d3⟩:=HT2.out.thr.1;go_wp2_with fail
 refine (sides_any _ _ _ _ _ _ _ _ _ HS.out).mono ?_;rintro e w3 ⟨rfl,hb3⟩;have HT3:=Lib.hid (HT2.out.after hb3);clear c0 c1 c2 c3 d0 d1 d2 d3 hb3;go_wp2;go_ret;exact ⟨ret_bool (by rw [HF.out]; try rfl),HT3.out.below⟩
set_option maxRecDepth 100000 in
set_option maxHeartbeats 1600000 in
theorem sFulfills_any (a b c d H V M D:Int) (w:World) :
  Calls Tryzx.prog 130 #[.agg #[.int .i64 H,.int .i64 V,.int .i64 M,.int .i64 D],.agg #[.int .i64 a,.int .i64 b,.int .i64 c,.int .i64 d]] w fun e w'=>e = .returned (.bool (fulB a b c d H V M D))∧Below w.heap.size w w':=by
 have HT:=Lib.hid (TRs.start w a b c d H V M D 40 168);cases hT:thrB H V M D
 ·have HF:=Lib.hid (fulB_1 a b c d hT)
  go_enter Tryzx.func130,Tryz.ntmps130;go_wp2_with fail
  refine (sThrustOk_any _ _ _ _ _).mono ?_;rw [hT];rintro e w1 ⟨rfl,hb1⟩;have HT1:=Lib.hid (HT.out.after hb1);clear hb1;go_wp2;go_ret;exact ⟨ret_bool HF.out.symm,HT1.out.below⟩
 cases hR:rowB a b c d
 ·have HF:=Lib.hid (fulB_2 H V M D hR)
  go_enter Tryzx.func130,Tryz.ntmps130;go_wp2_with fail
  refine (sThrustOk_any _ _ _ _ _).mono ?_;rw [hT];rintro e w1 ⟨rfl,hb1⟩;have HT1:=Lib.hid (HT.out.after hb1);obtain ⟨c0,c1,c2,c3⟩:=HT1.out.row.1;clear hb1;go_wp2_with fail
  refine (sRowOk_any _ _ _ _ _).mono ?_;rw [hR];rintro e w2 ⟨rfl,hb2⟩;have HT2:=Lib.hid (HT1.out.after hb2);clear hb2;go_wp2;go_ret;exact ⟨ret_bool HF.out.symm,HT2.out.below⟩
 have HF:=Lib.hid (fulB_t hT hR);have HS:=Lib.hid (sideBd hT hR);go_enter Tryzx.func130,Tryz.ntmps130;go_wp2_with fail
 refine (sThrustOk_any _ _ _ _ _).mono ?_;rw [hT];rintro e w1 ⟨rfl,hb1⟩;have HT1:=Lib.hid (HT.out.after hb1);obtain ⟨c0,c1,c2,c3⟩:=HT1.out.row.1;clear hb1;go_wp2_with fail
 refine (sRowOk_any _ _ _ _ _).mono ?_;rw [hR];rintro e w2 ⟨rfl,hb2⟩;have HT2:=Lib.hid (HT1.out.after hb2);clear c0 c1 c2 c3 hb2;obtain ⟨c0,c1,c2,c3⟩:=HT2.out.row.1;obtain ⟨d0,d1,d2,d3⟩:=HT2.out.thr.1;go_wp2_with fail
 refine (l10Holds_any _ _ _ _ _ _ _ _ _ HS.out).mono ?_;rintro e w3 ⟨rfl,hb3⟩;have HT3:=Lib.hid (HT2.out.after hb3);clear c0 c1 c2 c3 d0 d1 d2 d3 hb3;go_wp2;go_ret;exact ⟨ret_bool (by rw [HF.out]; try rfl),HT3.out.below⟩
set_option maxRecDepth 100000 in
set_option maxHeartbeats 1600000 in
theorem iFulfillsAll_any (A:Option Addr) (n c:Nat) (rs:List Int) (H V M D:Int) (w:World) (h:RecsAt w w.heap.size 4 A n rs) (hn:n≤1048576) :
  Calls Tryzx.prog 110 #[.agg #[.int .i64 H,.int .i64 V,.int .i64 M,.int .i64 D],.slice A n c] w fun e w'=>e = .returned (.bool (fulAll rs n H V M D))∧Below w.heap.size w w':=by
 have HL:=Lib.hid h;have BX:=Lib.hid (Box4.new w H V M D 40);have B0:=Lib.hid ((Below.refl w.heap.size w).alloc (Nat.le_refl _) (.cells #[.int .i64 H,.int .i64 V,.int .i64 M,.int .i64 D] 40));clear h;cases hI:inB (n:Int) 1 40
 ·have HF:=Lib.hid (fulAll_1 rs H V M D hI)
  go_enter Tryzx.func110,Tryz.ntmps110;go_wp2_with (go_at_call 80; refine (within_any _ _ _ _).mono ?_; rw [hI]; rintro e w' ⟨rfl,rfl⟩);go_ret;exact ⟨ret_bool HF.out.symm,B0.out⟩
 have HT0:=Lib.hid (fun e=>fulAll_t (rs:=rs) (H:=H) (V:=V) (M:=M) (D:=D) hI e);go_enter Tryzx.func110,Tryz.ntmps110;go_wp2_with (go_at_call 80; refine (within_any _ _ _ _).mono ?_; rw [hI]; rintro e w' ⟨rfl,rfl⟩);go_loopw [13] (fun i wr=>∃ k:Nat,k≤n∧i = .int .i64 k∧Hid (allTo (fulAt rs H V M D) k)∧Hid (Box4 wr w.heap.size H V M D)∧Hid (Below w.heap.size w wr)) (fun i _=>n - (intOf i).toNat)
 case atStart=>exact ⟨0,Nat.zero_le _,rfl,Lib.hid (allTo_0 _),BX,B0⟩
 case round =>
  clear BX B0;obtain ⟨k,hk,rfl,HP,HX,HB⟩:=hrel;by_cases hlt:k<n
  ·obtain ⟨b,off,rfl,hbB,hc⟩:=HL.out.2 (by omega)
   obtain ⟨x0,x1,x2,x3⟩:=rwCells (fun i hi=>(HB.out.cell (by exact hbB)).trans (hc i hi)) hlt;have hz:=HB.out.size;have HS:=Lib.hid (fun e=>allTo_step HP.out (k:=k) e);have HF0:=Lib.hid (fun e=>fulAll_2 (rs:=rs) (H:=H) (V:=V) (M:=M) (D:=D) hlt e);have eR:fulAt rs H V M D k=fulB (nth rs (k*4)) (nth rs (k*4+1)) (nth rs (k*4+2)) (nth rs (k*4+3)) H V M D:=rfl;have ER:=Lib.hid eR;clear hc eR;generalize nth rs (k*4)=y0 at *
   generalize nth rs (k*4+1)=y1 at *
   generalize nth rs (k*4+2)=y2 at *
   generalize nth rs (k*4+3)=y3 at *
   have HBA:=Lib.hid (HB.out.alloc hz (.cells #[.int .i64 y0,.int .i64 y1,.int .i64 y2,.int .i64 y3] 168));have HXA:=Lib.hid (HX.out.after ((Below.refl _ _).alloc (Nat.le_refl _) (.cells #[.int .i64 y0,.int .i64 y1,.int .i64 y2,.int .i64 y3] 168)));obtain ⟨⟨z0,z1,z2,z3⟩,_⟩:=Box4.new wr y0 y1 y2 y3 168;obtain ⟨c0,c1,c2,c3⟩:=HXA.out.1;go_wp2_with fail
   refine (iFulfills_any _ _ _ _ _ _ _ _ _).mono ?_;rintro e w1 ⟨rfl,hb1⟩;have HB1:=Lib.hid (HBA.out.trans (hb1.mono (by first | (simp; omega) | omega)))
   have HX1:=Lib.hid (HXA.out.after hb1);clear hb1 c0 c1 c2 c3;cases g:fulB y0 y1 y2 y3 H V M D
   ·have HF:=Lib.hid (HF0.out (ER.out.trans g))
    go_wp2;go_ret;exact ⟨ret_bool HF.out.symm,HB1.out⟩
   ·have HS1:=Lib.hid (HS.out (ER.out.trans g))
    go_wp2;go_roundw
    case rel=>exact ⟨k+1,by omega,by go_num,HS1,HX1,HB1⟩
    case measure=>simp [intOf]; omega
  ·obtain rfl:k=n:=by omega
   have HF:=Lib.hid (HT0.out HP.out);go_wp2;go_ret;exact ⟨ret_bool HF.out.symm,HB.out⟩
set_option maxRecDepth 100000 in
set_option maxHeartbeats 1600000 in
theorem sFulfillsAll_any (A:Option Addr) (n c:Nat) (rs:List Int) (H V M D:Int) (w:World) (h:RecsAt w w.heap.size 4 A n rs) (hn:n≤1048576) :
  Calls Tryzx.prog 106 #[.agg #[.int .i64 H,.int .i64 V,.int .i64 M,.int .i64 D],.slice A n c] w fun e w'=>e = .returned (.bool (fulAll rs n H V M D))∧Below w.heap.size w w':=by
 have HL:=Lib.hid h;have BX:=Lib.hid (Box4.new w H V M D 40);have B0:=Lib.hid ((Below.refl w.heap.size w).alloc (Nat.le_refl _) (.cells #[.int .i64 H,.int .i64 V,.int .i64 M,.int .i64 D] 40));clear h;go_enter Tryzx.func106,Tryz.ntmps106;go_wp2;go_loopw [5] (fun i wr=>∃ k:Nat,k≤n∧i = .int .i64 k∧Hid (allTo (fulAt rs H V M D) k)∧Hid (Box4 wr w.heap.size H V M D)∧Hid (Below w.heap.size w wr)) (fun i _=>n - (intOf i).toNat)
 case atStart=>exact ⟨0,Nat.zero_le _,rfl,Lib.hid (allTo_0 _),BX,B0⟩
 case round =>
  clear BX B0;obtain ⟨k,hk,rfl,HP,HX,HB⟩:=hrel;by_cases hlt:k<n
  ·obtain ⟨b,off,rfl,hbB,hc⟩:=HL.out.2 (by omega)
   obtain ⟨x0,x1,x2,x3⟩:=rwCells (fun i hi=>(HB.out.cell (by exact hbB)).trans (hc i hi)) hlt;have hz:=HB.out.size;have HS:=Lib.hid (fun e=>allTo_step HP.out (k:=k) e);have HF0:=Lib.hid (fun e=>fulAll_2 (rs:=rs) (H:=H) (V:=V) (M:=M) (D:=D) hlt e);have eR:fulAt rs H V M D k=fulB (nth rs (k*4)) (nth rs (k*4+1)) (nth rs (k*4+2)) (nth rs (k*4+3)) H V M D:=rfl;have ER:=Lib.hid eR;clear hc eR;generalize nth rs (k*4)=y0 at *
   generalize nth rs (k*4+1)=y1 at *
   generalize nth rs (k*4+2)=y2 at *
   generalize nth rs (k*4+3)=y3 at *
   have HBA:=HB;have HXA:=HX;obtain ⟨c0,c1,c2,c3⟩:=HXA.out.1;have ki:(k:Int)<(n:Int):=by omega
   have k0:(0:Int)≤(k:Int):=by omega
   have hwl:w.heap.size<wr.heap.size:=HX.out.2;have hbl:b<wr.heap.size:=by omega
   go_wp2;go_region_held3 (fun w'=>(w'.cell? ⟨w.heap.size,0,none⟩=some (.int .i64 H)∧w'.cell? ⟨w.heap.size,1,none⟩=some (.int .i64 V)∧w'.cell? ⟨w.heap.size,2,none⟩=some (.int .i64 M)∧w'.cell? ⟨w.heap.size,3,none⟩=some (.int .i64 D))∧(w'.cell? ⟨b,off+k*4,none⟩=some (.int .i64 y0)∧w'.cell? ⟨b,off+k*4+1,none⟩=some (.int .i64 y1)∧w'.cell? ⟨b,off+k*4+2,none⟩=some (.int .i64 y2)∧w'.cell? ⟨b,off+k*4+3,none⟩=some (.int .i64 y3))) (first | exact ⟨⟨c0,c1,c2,c3⟩,⟨x0,x1,x2,x3⟩⟩ | (refine ⟨⟨?_,?_,?_,?_⟩,⟨?_,?_,?_,?_⟩⟩ <;> (rw [hcc _ _ (by first | omega | (simp <;> omega))]; assumption)))
    ((go_at_call 130; refine (sFulfills_any _ _ _ _ _ _ _ _ _).mono ?_; rintro e w1 ⟨rfl,hb1⟩; obtain ⟨hcc,hff⟩:=bcell hb1))
   have HB1:=Lib.hid (HBA.out.drew.trans (hb1.mono (by first | (simp; omega) | omega)))
   have HX1:Hid (Box4 w1 w.heap.size H V M D):=(show Box4 wr.drew _ _ _ _ _ from HXA.out).after hb1;clear hb1 c0 c1 c2 c3 hcc hff;cases g:fulB y0 y1 y2 y3 H V M D
   ·have HF:=Lib.hid (HF0.out (ER.out.trans g))
    go_wp2;go_ret;exact ⟨ret_bool HF.out.symm,HB1.out⟩
   ·have HS1:=Lib.hid (HS.out (ER.out.trans g))
    go_wp2;go_roundw
    case rel=>exact ⟨k+1,by omega,by go_num,HS1,HX1,HB1⟩
    case measure=>simp [intOf]; omega
  ·obtain rfl:k=n:=by omega
   have HF:=Lib.hid (fulAll_s HP.out);go_wp2_with (go_at_call 79; refine (l01In_any _ _ _ _).mono ?_; rintro e w' ⟨rfl,rfl⟩);go_ret;exact ⟨ret_bool HF.out.symm,HB.out⟩
end X
end Go.Proofs.YtodneggnnipcnaaGreat
section
namespace Go.Proofs.Tryzx
theorem ntmps8:Tryz.f8.ntmps=45:=Tryz.ntmps8
end Go.Proofs.Tryzx
end
namespace Go.Proofs.YtodneggnnipcnaaGreat
namespace X
open Go.RowKit
def hcells:List (Int × Bool)→List Value
 | [] => []
 | x :: r => .int .i64 x.1 :: .bool x.2 :: hcells r
theorem hcells_len:∀ L:List (Int × Bool),(hcells L).length=L.length*2
 | []=>rfl
 | x :: r=>by simp [hcells,hcells_len r]; omega
theorem hcells_app:∀ (L:List (Int × Bool)) (x:Int × Bool),hcells (L ++ [x])=hcells L ++ [.int .i64 x.1,.bool x.2]
 | [],x=>rfl
 | y :: r,x=>by simp [hcells,hcells_app r x]
def hjs (L:List (Int × Bool)):List Int:=L.map (·.1)
theorem hcells_at:∀ (L:List (Int × Bool)) (i:Nat),i<L.length→(hcells L)[i*2]?=some (.int .i64 (nth (hjs L) i))∧∃ o,(hcells L)[i*2+1]?=some (.bool o)
 | [],i,h=>by simp at h
 | x :: r,0,_=>⟨by simp [hcells,hjs,nth],x.2,by simp [hcells]⟩
 | x :: r,i+1,h=>by
  have h2:=hcells_at r i (by simpa using h);obtain ⟨h3,o,h4⟩:=h2;refine ⟨?_,o,?_⟩
  ·rw [show (i+1)*2=i*2+1+1 by omega]
   simp only [hcells,List.getElem?_cons_succ,h3];simp [hjs,nth]
  ·rw [show (i+1)*2+1=(i*2+1)+1+1 by omega]
   simp only [hcells,List.getElem?_cons_succ,h4]
theorem cell_newH (w:World) (a:Int) (b:Bool) (T:TypeId):(w.alloc (.cells #[.int .i64 a,.bool b] T)).cell? ⟨w.heap.size,0,none⟩=some (.int .i64 a)∧(w.alloc (.cells #[.int .i64 a,.bool b] T)).cell? ⟨w.heap.size,1,none⟩=some (.bool b):=by
 have h:=World.rowIs_alloc w #[.int .i64 a,.bool b] T (fun i=>if i=0 then .int .i64 a else .bool b) (fun i hi=>by simp at hi; match i,hi with | 0,_=>rfl | 1,_=>rfl)
 exact ⟨World.rowIs.cell h (by simp),World.rowIs.cell h (by simp)⟩
def HngAt (w:World) (A:Option Addr) (m:Nat) (js:List Int):Prop :=
 1≤m→∃ b off,A=some ⟨b,off,none⟩∧b<w.heap.size∧∀ i,i<m→w.cell? ⟨b,off+i*2,none⟩=some (.int .i64 (nth js i))∧∃ o,w.cell? ⟨b,off+i*2+1,none⟩=some (.bool o)
theorem HngAt.below {w w':World} {A:Option Addr} {m:Nat} {js:List Int} (h:HngAt w A m js) (hb:Below w.heap.size w w'):HngAt w' A m js:=by
 intro hm;obtain ⟨b,off,rfl,hlt,hc⟩:=h hm;have hs:=hb.size;refine ⟨b,off,rfl,by omega,fun i hi => ?_⟩;obtain ⟨h1,o,h2⟩:=hc i hi;exact ⟨(hb.cell hlt).trans h1,o,(hb.cell hlt).trans h2⟩
def hgL (f g:Nat→Int):Nat→List (Int × Bool)
 | 0 => []
 | k+1=>(if f k=0 then hgL f g k ++ [((k:Int),false)] else hgL f g k) ++ (if g k=0 then [((k:Int),true)] else [])
theorem hgL_len (f g:Nat→Int):∀ k,(hgL f g k).length≤2*k
 | 0=>by simp [hgL]
 | k+1=>by
  have:=hgL_len f g k;unfold hgL;split <;> split <;> simp <;> omega
theorem hgL_mem (f g:Nat→Int):∀ k x,x ∈ hgL f g k→0≤x.1∧x.1<(k:Int)
 | 0,x,h=>by simp [hgL] at h
 | k+1,x,h=>by
  have ih:=hgL_mem f g k x;unfold hgL at h;rw [List.mem_append] at h;rcases h with h | h
  ·split at h
   ·rw [List.mem_append] at h
    rcases h with h | h
    ·have:=ih h; omega
    ·simp at h; subst h; simp; omega
   ·have:=ih h; omega
  ·split at h
   ·simp at h; subst h; simp; omega
   ·simp at h
theorem hjs_in {f g:Nat→Int} {k i:Nat} (h:i<(hgL f g k).length):0≤nth (hjs (hgL f g k)) i∧nth (hjs (hgL f g k)) i<(k:Int):=by
 have e:nth (hjs (hgL f g k)) i=((hgL f g k)[i]).1:=by
  unfold hjs;rw [nth_get _ i (by simpa using h)];simp
 rw [e];exact hgL_mem f g k _ (List.getElem_mem h)
theorem hgL_00 {f g:Nat→Int} {k:Nat} (h1:f k=0) (h2:g k=0):hgL f g (k+1)=hgL f g k ++ [((k:Int),false)] ++ [((k:Int),true)]:=by simp [hgL,h1,h2]
theorem hgL_01 {f g:Nat→Int} {k:Nat} (h1:f k=0) (h2:g k ≠ 0):hgL f g (k+1)=hgL f g k ++ [((k:Int),false)]:=by simp [hgL,h1,h2]
theorem hgL_10 {f g:Nat→Int} {k:Nat} (h1:f k ≠ 0) (h2:g k=0):hgL f g (k+1)=hgL f g k ++ [((k:Int),true)]:=by simp [hgL,h1,h2]
theorem hgL_11 {f g:Nat→Int} {k:Nat} (h1:f k ≠ 0) (h2:g k ≠ 0):hgL f g (k+1)=hgL f g k:=by simp [hgL,h1,h2]
def OwnH (w:World) (base:Nat) (E:TypeId) (v:Value) (L:List (Int × Bool)):Prop:=w.ownsRow base E 2 v L.length (hcells L)
section
variable {w w' : World} {base : Nat} {E : TypeId} {v : Value} {L : List (Int × Bool)}
theorem OwnH.nil (w:World) (base:Nat) (E:TypeId):OwnH w base E (.slice none 0 0) []:=World.ownsRow_nil _ _ _ _
theorem OwnH.new (w:World) (E:TypeId):OwnH (w.alloc (.cells #[] E)) w.heap.size E (.slice (some ⟨w.heap.size,0,none⟩) 0 0) [] :=
 World.ownsRow_lit (base:=w.heap.size) (e:=E) (size:=2) w #[] 0 (Nat.le_refl _) (by simp [maxLen]) (by simp)
theorem OwnH.newB (w:World) (E:TypeId) (B:Nat) (hB:B≤w.heap.size):OwnH (w.alloc (.cells #[] E)) B E (.slice (some ⟨w.heap.size,0,none⟩) 0 0) [] :=
 World.ownsRow_lit (base:=B) (e:=E) (size:=2) w #[] 0 hB (by simp [maxLen]) (by simp)
theorem OwnH.alloc (h:OwnH w base E v L) (o:Obj):OwnH (w.alloc o) base E v L:=World.ownsRow.alloc h o
theorem OwnH.below (h:OwnH w base E v L) (hb:Below w.heap.size w w'):OwnH w' base E v L:=by
 refine ⟨h.1,?_⟩;rcases h.2 with h2 | ⟨g,cap,cur,h1,h2,h3,hr⟩
 ·exact .inl h2
 ·refine .inr ⟨g,cap,cur,h1,h2,(hb.block g ?_).trans h3,hr⟩
  exact (Array.getElem?_eq_some_iff.1 h3).1
theorem OwnH.form (h:OwnH w base E v L):(v = .slice none 0 0∧L = []) ∨ ∃ g cap,v = .slice (some ⟨g,0,none⟩) L.length cap∧base≤g∧L.length≤cap∧g<w.heap.size∧∀ i u,(hcells L)[i]?=some u→w.cell? ⟨g,i,none⟩=some u:=by
 rcases h.2 with ⟨h1,h2⟩ | ⟨g,cap,cur,h1,h2,h3,h4,h5,h6,h7⟩
 ·exact .inl ⟨h1,List.eq_nil_of_length_eq_zero h2⟩
 ·refine .inr ⟨g,cap,h1,h2,h4,(Array.getElem?_eq_some_iff.1 h3).1,fun i u hu => ?_⟩
  have hl:=hcells_len L;have hi:i<L.length*2:=by
   have:=(List.getElem?_eq_some_iff.1 hu).1;omega
  have e:(cur.toList.take (L.length*2))[i]?=(hcells L)[i]?:=by rw [h7]
  rw [List.getElem?_take,if_pos hi,hu] at e;have e2:cur[i]?=some u:=by simpa using e
  simp [World.cell?,h3,e2]
theorem OwnH.slice (h:OwnH w base E v L):∃ A c,v = .slice A L.length c∧HngAt w A L.length (hjs L):=by
 rcases h.form with ⟨rfl,rfl⟩ | ⟨g,cap,rfl,_,hc,hlt,hx⟩
 ·exact ⟨_,_,rfl,fun h=>by simp at h⟩
 ·refine ⟨_,_,rfl,fun _=>⟨g,0,rfl,hlt,fun i hi => ?_⟩⟩
  obtain ⟨h1,o,h2⟩:=hcells_at L i hi;rw [Nat.zero_add];exact ⟨hx _ _ h1,o,hx _ _ h2⟩
theorem OwnH.ownLt (h:OwnH w base E v L):∀ k,v.ownBlock=some k→base≤k:=fun k hk=>(World.ownsRow.lt h k hk).1
end
theorem wpList_appH {P:Program} (w:World) {ops:Array Oper} {rest:List Oper} {o:Oper} {a:Act} {Q:Exit→Act→World→Prop} (hgd:o.guard=none) (s x:Operand) (t:TypeId)
  (ho:o.op = .call { callee := .builtin .append,args := #[s,x],argTypes := #[t,t] })
  (base:Nat) (E:TypeId) (bytes:Nat) (zc:Array Value) (ht:P.underlying t=some (.slice E)) (hinfo:(P.info? E).map (fun i=>(i.zero,i.size,i.bytes))=some (some (.agg zc),2,bytes)) (hzc:zc.size=2) (hby:bytes≤1024)
  (v:Value) (L:List (Int × Bool)) (hs:a.eval s=v) (hown:OwnH w base E v L) (g c:Nat) (j:Int) (b:Bool) (hx:a.eval x = .slice (some ⟨g,0,none⟩) 1 c)
  (hg0:w.cell? ⟨g,0,none⟩=some (.int .i64 j)) (hg1:w.cell? ⟨g,1,none⟩=some (.bool b)) (hn:L.length+1≤1048576) (B:Nat) (w0:World) (hb:Below B w0 w) (hB:B≤base) (hbase:base≤w.heap.size)
  (h:∀ v' w',OwnH w' base E v' (L ++ [(j,b)])→Below B w0 w'→wpList P ops Q rest (a.put o.dst v') w'):wpList P ops Q (o :: rest) a w:=by
 obtain ⟨i0,hi0,hz0,hz1,hz2⟩:=info_parts hinfo;have hbb:(L.length+1)*bytes≤1048576*1024:=Nat.mul_le_mul hn hby;refine wpList_append_own (P:=P) w hgd s x t ho base E i0 (.agg zc) 2 bytes ht hi0 hz0 hz1 hz2 (by simpa [Value.cells] using hzc) (by omega) v L.length _ hs hown ⟨g,0,none⟩ 1 c [.int .i64 j,.bool b] hx rfl ?_ ?_ (by unfold maxLen; omega) (by omega) hbase ?_
 ·intro i u hi
  rw [Go.WideShapes.add_plain,Nat.zero_add];match i,hi with
  | 0,hi=>simp at hi; subst hi; exact hg0
  | 1,hi=>simp at hi; subst hi; exact hg1
  | k+2,hi=>simp at hi
 ·intro u hu
  simp at hu;rcases hu with rfl | rfl <;> rfl
 ·intro v' w' hown' hgr _
  refine h v' w' ?_ (hb.grown hgr (by omega) (fun k hk=>by have:=hown.ownLt k hk; omega))
  unfold OwnH;rw [hcells_app,List.length_append];exact hown'
theorem AT.keepH {w wr w1:World} {v:Value} {H V M D:Int} (h:AT w wr v H V M D) (hb:Below (w.heap.size+2) wr w1):AT w w1 v H V M D :=
  ⟨⟨(hb.cell (p:=⟨w.heap.size,0,none⟩) (by simp)).trans h.arch.1,Nat.lt_of_lt_of_le h.arch.2 hb.size⟩,
   ⟨⟨(hb.cell (p:=⟨w.heap.size+1,0,none⟩) (by simp)).trans h.thr.1.1,(hb.cell (p:=⟨w.heap.size+1,1,none⟩) (by simp)).trans h.thr.1.2.1,(hb.cell (p:=⟨w.heap.size+1,2,none⟩) (by simp)).trans h.thr.1.2.2.1,(hb.cell (p:=⟨w.heap.size+1,3,none⟩) (by simp)).trans h.thr.1.2.2.2⟩,Nat.lt_of_lt_of_le h.thr.2 hb.size⟩,
   h.below.trans (hb.mono (by omega))⟩
end X
namespace X
open Go.RowKit
def momI (H V M D W Mo px py:Int):Int:=M - D*Mo - px*(V - D*W)+py*H
structure MomBd (H V M D W Mo px py:Int):Prop where
 m : -10000000000000≤M∧M≤10000000000000
 v : -10000000000000≤V∧V≤10000000000000
 dm : -80000000000000≤D*Mo∧D*Mo≤80000000000000
 dw : -2000000000000≤D*W∧D*W≤2000000000000
 px : -720000000000000≤px*(V - D*W)∧px*(V - D*W)≤720000000000000
 py : -60000000000000≤py*H∧py*H≤60000000000000
theorem momBd {H V M D W Mo px py:Int} (ht:thrB H V M D=true) (hW : -2000000≤W∧W≤2000000) (hM : -80000000≤Mo∧Mo≤80000000) (hp:ptB px py=true):MomBd H V M D W Mo px py:=by
 obtain ⟨h1,h2,h3,h4,_⟩:=thrB_out ht;rw [ptB_iff] at hp;have e1:=mul_bd (a:=D) (b:=Mo) (m:=1000000) (n:=80000000) (by omega) hM;have e2:=mul_bd (a:=D) (b:=W) (m:=1000000) (n:=2000000) (by omega) hW;have e3:=mul_bd (a:=px) (b:=V - D*W) (m:=60) (n:=12000000000000) (by omega) (by omega);have e4:=mul_bd (a:=py) (b:=H) (m:=60) (n:=1000000000000) (by omega) (by omega);exact ⟨h4,h3,by omega,by omega,by omega,by omega⟩
def pushB (zs:List Int) (n:Nat) (ls:List Int) (q:Nat) (H V M D k:Int):Bool:=loadsB zs n ls q && (thrB H V M D && inB k 0 ((n:Int) - 1))
section
variable {zs : List Int} {n : Nat} {ls : List Int} {q : Nat} {H V M D k : Int}
theorem pushB_1 (H V M D k:Int) (h:loadsB zs n ls q=false):pushB zs n ls q H V M D k=false:=by simp [pushB,h]
theorem pushB_2 (zs:List Int) (n:Nat) (ls:List Int) (q:Nat) (k:Int) (h:thrB H V M D=false):pushB zs n ls q H V M D k=false:=by simp [pushB,h]
theorem pushB_out (h:pushB zs n ls q H V M D k=true):loadsB zs n ls q=true∧thrB H V M D=true∧0≤k∧k≤(n:Int) - 1:=by
 simp only [pushB,Bool.and_eq_true,inB_iff] at h;exact ⟨h.1,h.2.1,h.2.2.1,h.2.2.2⟩
end
def mIn (zs:List Int) (n:Nat) (ls:List Int) (q:Nat) (H V M D k:Int):Int :=
 if pushB zs n ls q H V M D k=true then momI H V M D (leftW zs ls q k.toNat) (leftM zs ls q k.toNat) (nth zs (k.toNat*4)) (nth zs (k.toNat*4+1)) else 0
def mOut (zs:List Int) (n:Nat) (ls:List Int) (q:Nat) (H V M D k:Int):Int :=
 if pushB zs n ls q H V M D k=true then momI H V M D (leftW zs ls q k.toNat) (leftM zs ls q k.toNat) (nth zs (k.toNat*4+2)) (nth zs (k.toNat*4+3)) else 0
section
variable {zs : List Int} {n : Nat} {ls : List Int} {q : Nat} {H V M D k : Int}
theorem m_f (h:pushB zs n ls q H V M D k=false):mIn zs n ls q H V M D k=0∧mOut zs n ls q H V M D k=0:=by simp [mIn,mOut,h]
theorem m_t {K:Nat} (h:pushB zs n ls q H V M D (K:Int)=true):mIn zs n ls q H V M D (K:Int)=momI H V M D (leftW zs ls q K) (leftM zs ls q K) (nth zs (K*4)) (nth zs (K*4+1)) ∧
  mOut zs n ls q H V M D (K:Int)=momI H V M D (leftW zs ls q K) (leftM zs ls q K) (nth zs (K*4+2)) (nth zs (K*4+3)):=by simp [mIn,mOut,h]
end
theorem archB_ptsP {zs:List Int} {n:Nat} (h:archB zs n=true):∀ m,m<n→ptB (nth zs (m*4)) (nth zs (m*4+1))=true∧ptB (nth zs (m*4+2)) (nth zs (m*4+3))=true:=by
 obtain ⟨hn,hp⟩:=archB_out h;intro m hm;by_cases e:m+1<n
 ·have h1:=hp m (by omega)
  simp only [pairB,Bool.and_eq_true] at h1;have h2:=(stoneB_out h1.1).2.1;exact ⟨h2 0 (by omega),h2 3 (by omega)⟩
 ·obtain ⟨k,rfl⟩:∃ k,m=k+1:=⟨m - 1,by omega⟩
  have h1:=hp k (by omega);simp only [pairB,Bool.and_eq_true] at h1;have h2:=(stoneB_out h1.1).2.1;exact ⟨h2 1 (by omega),h2 2 (by omega)⟩
theorem left_bds {zs:List Int} {n:Nat} {ls:List Int} {q K:Nat} (h:loadsB zs n ls q=true) (hK:K<n):(-2000000≤leftW zs ls q K∧leftW zs ls q K≤2000000)∧(-80000000≤leftM zs ls q K∧leftM zs ls q K≤80000000):=by
 obtain ⟨hA,hq,hl⟩:=loadsB_out h;have hn:=(archB_out hA).1;have h1:=leftW_bd zs hl hq K;have h2:=leftM_bd zs hl hq K;omega
theorem m_bds {zs:List Int} {n:Nat} {ls:List Int} {q K:Nat} {H V M D:Int} (h:pushB zs n ls q H V M D (K:Int)=true) :
  MomBd H V M D (leftW zs ls q K) (leftM zs ls q K) (nth zs (K*4)) (nth zs (K*4+1))∧MomBd H V M D (leftW zs ls q K) (leftM zs ls q K) (nth zs (K*4+2)) (nth zs (K*4+3)):=by
 obtain ⟨h1,h2,h3,h4⟩:=pushB_out h;have hb:=left_bds h1 (K:=K) (by omega);have hp:=archB_ptsP (loadsB_out h1).1 K (by omega);exact ⟨momBd h2 hb.1 hb.2 hp.1,momBd h2 hb.1 hb.2 hp.2⟩
end X
namespace X
open Go.RowKit
def lfB (zs:List Int) (n:Nat) (ls:List Int) (q:Nat) (k:Int):Bool:=loadsB zs n ls q && inB k 0 ((n:Int) - 1)
def lfW (zs:List Int) (n:Nat) (ls:List Int) (q:Nat) (k:Int):Int:=if lfB zs n ls q k=true then leftW zs ls q k.toNat else 0
def lfM (zs:List Int) (n:Nat) (ls:List Int) (q:Nat) (k:Int):Int:=if lfB zs n ls q k=true then leftM zs ls q k.toNat else 0
theorem lf_f {zs:List Int} {n:Nat} {ls:List Int} {q:Nat} {k:Int} (h:lfB zs n ls q k=false):lfW zs n ls q k=0∧lfM zs n ls q k=0:=by simp [lfW,lfM,h]
theorem lf_t {zs:List Int} {n:Nat} {ls:List Int} {q k:Nat} (h:lfB zs n ls q (k:Int)=true):lfW zs n ls q (k:Int)=leftW zs ls q k∧lfM zs n ls q (k:Int)=leftM zs ls q k:=by simp [lfW,lfM,h]
theorem lfB_1 {zs:List Int} {n:Nat} {ls:List Int} {q:Nat} (k:Int) (h:loadsB zs n ls q=false):lfB zs n ls q k=false:=by simp [lfB,h]
theorem lfB_2 (zs:List Int) {n:Nat} (ls:List Int) (q:Nat) {k:Int} (h:inB k 0 ((n:Int) - 1)=false):lfB zs n ls q k=false:=by simp [lfB,h]
theorem lfB_t {zs:List Int} {n:Nat} {ls:List Int} {q:Nat} {k:Int} (h:loadsB zs n ls q=true) (h2:inB k 0 ((n:Int) - 1)=true):lfB zs n ls q k=true:=by simp [lfB,h,h2]
theorem rowF_new2 (w:World) (a b:Int) (T:TypeId):RowF (w.alloc (.cells #[.int .i64 a,.int .i64 b] T)) w.heap.size T 2 (ints [a,b]) :=
 RowF.of_row (World.rowIs_alloc w #[.int .i64 a,.int .i64 b] T _ (fun j hj=>by simp at hj; match j,hj with | 0,_=>rfl | 1,_=>rfl))
theorem rowF_set2 {w:World} {g:Nat} {T:TypeId} {a b:Int} (h:RowF w g T 2 (ints [a,b])) (a' b':Int):RowF ((w.setCell ⟨g,0,none⟩ (.int .i64 a')).setCell ⟨g,1,none⟩ (.int .i64 b')) g T 2 (ints [a',b']) :=
 ((h.set 0 (.int .i64 a')).set 1 (.int .i64 b')).congr (fun i hi=>by match i,hi with | 0,_=>rfl | 1,_=>rfl)
structure LeftStart (w wr:World) (v:Value) (a b:Int):Prop where
 box:Box wr w.heap.size v
 res:RowF wr (w.heap.size+1) 142 2 (ints [0,0])
 sum:RowF wr (w.heap.size+2) 142 2 (ints [a,b])
 below:Below w.heap.size w wr
theorem LeftStart.after {w wr w2:World} {v:Value} {a b:Int} (h:LeftStart w wr v a b) (hb:Below wr.heap.size wr w2):LeftStart w w2 v a b:=⟨h.box.after hb,h.res.after hb,h.sum.after hb,h.below.trans (hb.mono h.below.size)⟩
theorem LeftStart.set {w wr:World} {v:Value} {a b:Int} (h:LeftStart w wr v a b) (a' b':Int):LeftStart w ((wr.setCell ⟨w.heap.size+2,0,none⟩ (.int .i64 a')).setCell ⟨w.heap.size+2,1,none⟩ (.int .i64 b')) v a' b' :=
 ⟨⟨(World.cell?_setCell_far _ _ _ _ (by simp)).trans ((World.cell?_setCell_far _ _ _ _ (by simp)).trans h.box.1),by have:=h.box.2; simpa using this⟩,(h.res.set_other (by simp) _).set_other (by simp) _,rowF_set2 h.sum a' b',(h.below.setCell (by simp) _).setCell (by simp) _⟩
theorem leftStart (w:World) (v:Value) (T:TypeId):LeftStart w (((w.alloc (.cells #[v] T)).alloc (.cells #[.int .i64 0,.int .i64 0] 142)).alloc (.cells #[.int .i64 0,.int .i64 0] 142)) v 0 0:=by
 refine ⟨((Box.new w v T).alloc _).alloc _,?_,?_,(((Below.refl _ _).alloc (Nat.le_refl _) _).alloc (by simp) _).alloc (by simp; omega) _⟩
 ·have h:=(rowF_new2 (w.alloc (.cells #[v] T)) 0 0 142).alloc (.cells #[.int .i64 0,.int .i64 0] 142)
  rw [World.size_alloc] at h;exact h
 ·have h:=rowF_new2 ((w.alloc (.cells #[v] T)).alloc (.cells #[.int .i64 0,.int .i64 0] 142)) 0 0 142
  rw [World.size_alloc,World.size_alloc] at h;exact h
set_option maxRecDepth 100000 in
set_option maxHeartbeats 1600000 in
theorem leftOf_any (A:Option Addr) (n c:Nat) (zs:List Int) (B:Option Addr) (q d:Nat) (ls:List Int) (k:Int) (w:World) (h:RecsAt w w.heap.size 4 A n zs) (hn:n≤1048576) (hl:RecsAt w w.heap.size 3 B q ls) (hq:q≤1048576) :
  Calls Tryzx.prog 112 #[.agg #[.slice A n c],.slice B q d,.int .i64 k] w fun e w'=>e = .returned (.agg #[.int .i64 (lfW zs n ls q k),.int .i64 (lfM zs n ls q k)])∧Below w.heap.size w w':=by
 have ST:=leftStart w (.slice A n c) 32;have h0:=((h.alloc (Nat.le_refl _) (.cells #[.slice A n c] 32)).mono (B':=(w.alloc (.cells #[.slice A n c] 32)).heap.size) (by simp));have h1:=(h0.after ((Below.refl _ _).alloc (Nat.le_refl _) (.cells #[.int .i64 0,.int .i64 0] 142))).after ((Below.refl _ _).alloc (Nat.le_refl _) (.cells #[.int .i64 0,.int .i64 0] 142));have l0:=((hl.alloc (Nat.le_refl _) (.cells #[.slice A n c] 32)).mono (B':=(w.alloc (.cells #[.slice A n c] 32)).heap.size) (by simp));have l1:=(l0.after ((Below.refl _ _).alloc (Nat.le_refl _) (.cells #[.int .i64 0,.int .i64 0] 142))).after ((Below.refl _ _).alloc (Nat.le_refl _) (.cells #[.int .i64 0,.int .i64 0] 142));have HST:=Lib.hid ST;clear h0 l0 h hl ST;cases hL:loadsB zs n ls q
 ·have HF:=Lib.hid (lf_f (lfB_1 k hL))
  go_enter Tryzx.func112,Tryz.ntmps112;go_wp2_with fail
  refine (iLoadsOk_any _ _ _ zs _ _ _ ls _ h1 hn l1 hq).mono ?_;rw [hL];rintro e w1 ⟨rfl,hb1⟩;have HS1:=Lib.hid (HST.out.after hb1);have c0:=HS1.out.sum.cell (i:=0) (by omega);have c1:=HS1.out.sum.cell (i:=1) (by omega);have d0:=HS1.out.res.cell (i:=0) (by omega);have d1:=HS1.out.res.cell (i:=1) (by omega);have f0:=HS1.out.res.frozen 0;have f1:=HS1.out.res.frozen 1;have r0:ints [0,0] 0 = .int .i64 0:=rfl;have r1:ints [0,0] 1 = .int .i64 0:=rfl;rw [r0] at c0 d0;rw [r1] at c1 d1;clear hb1 r0 r1;go_wp2;refine bodyPost_ret (v := .agg #[.int .i64 0,.int .i64 0]) (by simp [results,Tryz.results112,go_sem, *]) rfl ⟨by rw [HF.out.1,HF.out.2],?_⟩;exact (HS1.out.below.setCell (p:=⟨w.heap.size+1,0,none⟩) (by simp) _).setCell (p:=⟨w.heap.size+1,1,none⟩) (by simp) _
 ·obtain ⟨hA,hq6,hLA⟩:=loadsB_out hL
  have hn8:=(archB_out hA).1;have e1:IntKind.i64.wrap ((n:Int) - 1)=(n:Int) - 1:=IntWalk.i64_in _ (by omega);clear hA hLA;cases hK:inB k 0 ((n:Int) - 1)
  ·have HF:=Lib.hid (lf_f (lfB_2 zs ls q hK))
   go_enter Tryzx.func112,Tryz.ntmps112;go_wp2_with fail
   refine (iLoadsOk_any _ _ _ zs _ _ _ ls _ h1 hn l1 hq).mono ?_;rw [hL];rintro e w1 ⟨rfl,hb1⟩;have HS1:=Lib.hid (HST.out.after hb1);have c0:=HS1.out.sum.cell (i:=0) (by omega);have c1:=HS1.out.sum.cell (i:=1) (by omega);have d0:=HS1.out.res.cell (i:=0) (by omega);have d1:=HS1.out.res.cell (i:=1) (by omega);have f0:=HS1.out.res.frozen 0;have f1:=HS1.out.res.frozen 1;have r0:ints [0,0] 0 = .int .i64 0:=rfl;have r1:ints [0,0] 1 = .int .i64 0:=rfl;have bx:=HS1.out.box.1;rw [r0] at c0 d0;rw [r1] at c1 d1;clear hb1 r0 r1;go_wp2_with (go_at_call 80; refine (within_any _ _ _ _).mono ?_; rw [hK]; rintro e w' ⟨rfl,rfl⟩);refine bodyPost_ret (v := .agg #[.int .i64 0,.int .i64 0]) (by simp [results,Tryz.results112,go_sem, *]) rfl ⟨by rw [HF.out.1,HF.out.2],?_⟩;exact (HS1.out.below.setCell (p:=⟨w.heap.size+1,0,none⟩) (by simp) _).setCell (p:=⟨w.heap.size+1,1,none⟩) (by simp) _
  ·have hk:=inB_iff.1 hK
   obtain ⟨K,rfl⟩:∃ K:Nat,k=(K:Int):=⟨k.toNat,by omega⟩;have HT:=Lib.hid (lf_t (lfB_t hL hK));obtain ⟨m,rfl⟩:∃ m,n=m+1:=⟨n - 1,by omega⟩;have hKm:K≤m:=by omega
   have HWB:=Lib.hid (leftW_bd zs (loadsB_out hL).2.2 hq6);have HMB:=Lib.hid (leftM_bd zs (loadsB_out hL).2.2 hq6);have HKB:=Lib.hid (fun k=>kwTo_bd zs (loadsB_out hL).2.2 hq6 k (Nat.le_refl q));have HNB:=Lib.hid (fun k=>kmTo_bd zs (loadsB_out hL).2.2 hq6 k (Nat.le_refl q));have hK':inB (K:Int) 0 (m:Int)=true:=inB_t (by omega);clear hk hK;go_enter Tryzx.func112,Tryz.ntmps112;go_wp2_with fail
   refine (iLoadsOk_any _ _ _ zs _ _ _ ls _ h1 hn l1 hq).mono ?_;rw [hL];rintro e w1 ⟨rfl,hb1⟩;have HS1:=Lib.hid (HST.out.after hb1);have bx:=HS1.out.box.1;have h2:=h1.after hb1;have l2:=l1.after hb1;clear hb1;go_wp2_with (go_at_call 80; refine (within_any _ _ _ _).mono ?_; rw [hK']; rintro e w' ⟨rfl,rfl⟩);refine (weightsOf_any _ _ _ zs _ _ _ ls _ h2 l2 hL).mono ?_;rintro e w2 ⟨g,rfl,hg,hrw,hb2⟩;have HS2:=Lib.hid (HS1.out.after hb2);have HRW:=Lib.hid hrw;have hrr:=HS2.out.sum.lt;have hgs:w.heap.size+2<g:=by have:=HS1.out.sum.lt; omega
   have s0:(0:Int)≤(K:Int):=by omega
   have s1:(K:Int)≤((m+1 - 1:Nat):Int):=by omega
   have s2:(K:Int)≤(m:Int):=by omega
   clear hb2 hrw h1 l1 h2 l2 HS1 HST bx hg;rw [Nat.add_sub_cancel] at *
   go_wp2;have HS0:Hid (RowF w2 (w.heap.size+2) 142 2 (ints [leftW zs ls q 0,leftM zs ls q 0])):=HS2.out.sum;go_loopw [30] (fun i wr=>∃ j:Nat,j≤K∧i = .int .i64 j∧Hid (LeftStart w wr (.slice A (m+1) c) (leftW zs ls q j) (leftM zs ls q j))∧Hid (RowF wr g 142 (m*2) (ints (wmL zs ls q m)))) (fun i _=>K - (intOf i).toNat)
   case atStart=>exact ⟨0,Nat.zero_le _,rfl,HS2,HRW⟩
   case round =>
    clear HS2 HRW HS0;obtain ⟨j,hj,rfl,HS,HR⟩:=hrel;by_cases hlt:j<K
    ·have hz:=HS.out.sum.lt
     have hgl:=HR.out.lt;have x0:=HR.out.cell (i:=j*2) (by omega);have x1:=HR.out.cell (i:=j*2+1) (by omega);have hn:=wmL_nth zs ls q (m:=m) (k:=j) (by omega);rw [ints_def,hn.1] at x0;rw [ints_def,hn.2] at x1;have c0:wr.cell? ⟨w.heap.size+2,0,none⟩=some (.int .i64 (leftW zs ls q j)):=HS.out.sum.cell (by omega);have c1:wr.cell? ⟨w.heap.size+2,1,none⟩=some (.int .i64 (leftM zs ls q j)):=HS.out.sum.cell (by omega);have f0:=HS.out.sum.frozen 0;have f1:=HS.out.sum.frozen 1;have HSA:=Lib.hid (HS.out.after ((Below.refl _ _).alloc (Nat.le_refl _) (.cells #[.int .i64 (kwTo zs ls j q),.int .i64 (kmTo zs ls j q)] 142)));have HRA:=Lib.hid (HR.out.alloc (.cells #[.int .i64 (kwTo zs ls j q),.int .i64 (kmTo zs ls j q)] 142));have hw1:=HWB.out j;have hw2:=HMB.out j;have hw3:=HKB.out j;have hw4:=HNB.out j;have HW1:Hid (leftW zs ls q (j+1)=leftW zs ls q j+kwTo zs ls j q):=rfl;have HM1:Hid (leftM zs ls q (j+1)=leftM zs ls q j+kmTo zs ls j q):=rfl;have js:(0:Int)≤(j:Int):=by omega
     have js1:(j:Int)<(K:Int):=by omega
     clear hn;go_wp2;go_roundw
     case rel=>exact ⟨j+1,by omega,by go_num,Lib.hid ((HS.out.set _ _).after ((Below.refl _ _).alloc (Nat.le_refl _) _)),Lib.hid (((HR.out.set_other (by simp; omega) _).set_other (by simp; omega) _).alloc _)⟩
     case measure=>simp [intOf]; omega
    ·obtain rfl:K=j:=by omega
     have c0:wr.cell? ⟨w.heap.size+2,0,none⟩=some (.int .i64 (leftW zs ls q K)):=HS.out.sum.cell (by omega);have c1:wr.cell? ⟨w.heap.size+2,1,none⟩=some (.int .i64 (leftM zs ls q K)):=HS.out.sum.cell (by omega);have d0:wr.cell? ⟨w.heap.size+1,0,none⟩=some (.int .i64 0):=HS.out.res.cell (by omega);have d1:wr.cell? ⟨w.heap.size+1,1,none⟩=some (.int .i64 0):=HS.out.res.cell (by omega);have f0:=HS.out.res.frozen 0;have f1:=HS.out.res.frozen 1;go_wp2;refine bodyPost_ret (v := .agg #[.int .i64 (leftW zs ls q K),.int .i64 (leftM zs ls q K)]) (by simp [results,Tryz.results112,go_sem, *]) rfl ⟨by rw [HT.out.1,HT.out.2],?_⟩;exact (HS.out.below.setCell (p:=⟨w.heap.size+1,0,none⟩) (by simp) _).setCell (p:=⟨w.heap.size+1,1,none⟩) (by simp) _
end X
namespace X
open Go.RowKit
def LeftPost (w:World) (zs ls:List Int) (q n:Nat) (e:Ending) (w':World):Prop :=
 ∃ A c A' c',e = .returned (.tuple #[.slice A n c,.slice A' n c'])∧IntsAt w' w'.heap.size A n (lwL zs ls q n)∧IntsAt w' w'.heap.size A' n (lmL zs ls q n)∧Below w.heap.size w w'
theorem sLeft_any (A:Option Addr) (n c:Nat) (zs:List Int) (B:Option Addr) (q d:Nat) (ls:List Int) (w:World) (h:RecsAt w w.heap.size 4 A n zs) (hl:RecsAt w w.heap.size 3 B q ls) (hL:loadsB zs n ls q=true) :
  Calls Tryzx.prog 108 #[.agg #[.slice A n c],.slice B q d] w (LeftPost w zs ls q n) :=
 (sLeftO_any A n c zs B q d ls w h hl hL).mono fun _ _ ⟨A6,c6,A7,c7,e,h6,h7,hb⟩=>⟨A6,c6,A7,c7,e,h6.ints,h7.ints,hb⟩
end X
namespace X
open Go.RowKit
set_option maxRecDepth 100000 in
set_option maxHeartbeats 1600000 in
theorem pushOk_any (A:Option Addr) (n c:Nat) (zs:List Int) (B:Option Addr) (q d:Nat) (ls:List Int) (H V M D k:Int) (w:World) (h:RecsAt w w.heap.size 4 A n zs) (hn:n≤1048576) (hl:RecsAt w w.heap.size 3 B q ls) (hq:q≤1048576) :
  Calls Tryzx.prog 111 #[.agg #[.slice A n c],.slice B q d,.agg #[.int .i64 H,.int .i64 V,.int .i64 M,.int .i64 D],.int .i64 k] w fun e w'=>e = .returned (.bool (pushB zs n ls q H V M D k))∧Below w.heap.size w w':=by
 have at0:=AT.start w (.slice A n c) H V M D 32 40;have b0:=at_below w (.slice A n c) H V M D 32 40;have h1:=h.after b0;have l1:=hl.after b0;have HAT:=Lib.hid at0;clear at0 b0 h hl;cases hL:loadsB zs n ls q
 ·have HF:=Lib.hid (pushB_1 H V M D k hL)
  go_enter Tryzx.func111,Tryz.ntmps111;go_wp2_with fail
  refine (iLoadsOk_any _ _ _ zs _ _ _ ls _ h1 hn l1 hq).mono ?_;rw [hL];rintro e w1 ⟨rfl,hb1⟩;have HB1:=Lib.hid (HAT.out.after hb1).below;clear hb1;go_wp2;go_ret;exact ⟨ret_bool HF.out.symm,HB1.out⟩
 have hn8:=(archB_out (loadsB_out hL).1).1;have e1:IntKind.i64.wrap ((n:Int) - 1)=(n:Int) - 1:=IntWalk.i64_in _ (by omega);cases hT:thrB H V M D
 ·have HF:=Lib.hid (pushB_2 zs n ls q k hT)
  go_enter Tryzx.func111,Tryz.ntmps111;go_wp2_with fail
  refine (iLoadsOk_any _ _ _ zs _ _ _ ls _ h1 hn l1 hq).mono ?_;rw [hL];rintro e w1 ⟨rfl,hb1⟩;have HA1:=Lib.hid (HAT.out.after hb1);have c0:=HA1.out.thr.1.1;have c1:=HA1.out.thr.1.2.1;have c2:=HA1.out.thr.1.2.2.1;have c3:=HA1.out.thr.1.2.2.2;clear hb1;go_wp2_with fail
  refine (iThrustOk_any _ _ _ _ _).mono ?_;rw [hT];rintro e w2 ⟨rfl,hb2⟩;have HB2:=Lib.hid (HA1.out.after hb2).below;clear hb2;go_wp2;go_ret;exact ⟨ret_bool HF.out.symm,HB2.out⟩
 have HF:Hid (inB k 0 ((n:Int) - 1)=pushB zs n ls q H V M D k):=by
  show _=_
  simp [pushB,hL,hT]
 go_enter Tryzx.func111,Tryz.ntmps111;go_wp2_with fail
 refine (iLoadsOk_any _ _ _ zs _ _ _ ls _ h1 hn l1 hq).mono ?_;rw [hL];rintro e w1 ⟨rfl,hb1⟩;have HA1:=Lib.hid (HAT.out.after hb1);have c0:=HA1.out.thr.1.1;have c1:=HA1.out.thr.1.2.1;have c2:=HA1.out.thr.1.2.2.1;have c3:=HA1.out.thr.1.2.2.2;clear hb1;go_wp2_with fail
 refine (iThrustOk_any _ _ _ _ _).mono ?_;rw [hT];rintro e w2 ⟨rfl,hb2⟩;have HA2:=Lib.hid (HA1.out.after hb2);have c4:=HA2.out.arch.1;clear hb2 c0 c1 c2 c3;go_wp2_with (go_at_call 80; refine (within_any _ _ _ _).mono ?_; rintro e w' ⟨rfl,rfl⟩);go_ret;exact ⟨ret_bool HF.out,HA2.out.below⟩
set_option maxRecDepth 100000 in
set_option maxHeartbeats 1600000 in
theorem l09Ok_any (A:Option Addr) (n c:Nat) (zs:List Int) (B:Option Addr) (q d:Nat) (ls:List Int) (H V M D k:Int) (w:World) (h:RecsAt w w.heap.size 4 A n zs) (hn:n≤1048576) (hl:RecsAt w w.heap.size 3 B q ls) (hq:q≤1048576) :
  Calls Tryzx.prog 107 #[.agg #[.slice A n c],.slice B q d,.agg #[.int .i64 H,.int .i64 V,.int .i64 M,.int .i64 D],.int .i64 k] w fun e w'=>e = .returned (.bool (pushB zs n ls q H V M D k))∧Below w.heap.size w w':=by
 have at0:=AT.start w (.slice A n c) H V M D 32 40;have b0:=at_below w (.slice A n c) H V M D 32 40;have h1:=h.after b0;have l1:=hl.after b0;have HAT:=Lib.hid at0;clear at0 b0 h hl;cases hL:loadsB zs n ls q
 ·have HF:=Lib.hid (pushB_1 H V M D k hL)
  go_enter Tryzx.func107,Tryz.ntmps107;go_wp2_with fail
  refine (sLoadsOk_any _ _ _ zs _ _ _ ls _ h1 hn l1 hq).mono ?_;rw [hL];rintro e w1 ⟨rfl,hb1⟩;have HB1:=Lib.hid (HAT.out.after hb1).below;clear hb1;go_wp2;go_ret;exact ⟨ret_bool HF.out.symm,HB1.out⟩
 have hn8:=(archB_out (loadsB_out hL).1).1;have e1:IntKind.i64.wrap ((n:Int) - 1)=(n:Int) - 1:=IntWalk.i64_in _ (by omega);cases hT:thrB H V M D
 ·have HF:=Lib.hid (pushB_2 zs n ls q k hT)
  go_enter Tryzx.func107,Tryz.ntmps107;go_wp2_with fail
  refine (sLoadsOk_any _ _ _ zs _ _ _ ls _ h1 hn l1 hq).mono ?_;rw [hL];rintro e w1 ⟨rfl,hb1⟩;have HA1:=Lib.hid (HAT.out.after hb1);have c0:=HA1.out.thr.1.1;have c1:=HA1.out.thr.1.2.1;have c2:=HA1.out.thr.1.2.2.1;have c3:=HA1.out.thr.1.2.2.2;clear hb1;go_wp2_with fail
  refine (sThrustOk_any _ _ _ _ _).mono ?_;rw [hT];rintro e w2 ⟨rfl,hb2⟩;have HB2:=Lib.hid (HA1.out.after hb2).below;clear hb2;go_wp2;go_ret;exact ⟨ret_bool HF.out.symm,HB2.out⟩
 have HF:Hid (inB k 0 ((n:Int) - 1)=pushB zs n ls q H V M D k):=by
  show _=_
  simp [pushB,hL,hT]
 go_enter Tryzx.func107,Tryz.ntmps107;go_wp2_with fail
 refine (sLoadsOk_any _ _ _ zs _ _ _ ls _ h1 hn l1 hq).mono ?_;rw [hL];rintro e w1 ⟨rfl,hb1⟩;have HA1:=Lib.hid (HAT.out.after hb1);have c0:=HA1.out.thr.1.1;have c1:=HA1.out.thr.1.2.1;have c2:=HA1.out.thr.1.2.2.1;have c3:=HA1.out.thr.1.2.2.2;clear hb1;go_wp2_with fail
 refine (sThrustOk_any _ _ _ _ _).mono ?_;rw [hT];rintro e w2 ⟨rfl,hb2⟩;have HA2:=Lib.hid (HA1.out.after hb2);have c4:=HA2.out.arch.1;clear hb2 c0 c1 c2 c3;go_wp2_with (go_at_call 79; refine (l01In_any _ _ _ _).mono ?_; rintro e w' ⟨rfl,rfl⟩);go_ret;exact ⟨ret_bool HF.out,HA2.out.below⟩
set_option maxRecDepth 100000 in
set_option maxHeartbeats 1600000 in
theorem l09Moment_any (H V M D W Mo px py:Int) (w:World) (h:MomBd H V M D W Mo px py) :
  Calls Tryzx.prog 109 #[.agg #[.int .i64 H,.int .i64 V,.int .i64 M,.int .i64 D],.int .i64 W,.int .i64 Mo,.agg #[.int .i64 px,.int .i64 py]] w fun e w'=>e = .returned (.int .i64 (momI H V M D W Mo px py))∧Below w.heap.size w w':=by
 obtain ⟨h1,h2,h3,h4,h5,h6⟩:=h;have HE:Hid (M - D*Mo - px*(V - D*W)+py*H=momI H V M D W Mo px py):=rfl;have e1:IntKind.i64.wrap (D*Mo)=D*Mo:=IntWalk.i64_in _ (by omega);have e2:IntKind.i64.wrap (D*W)=D*W:=IntWalk.i64_in _ (by omega);have e3:IntKind.i64.wrap (px*(V - D*W))=px*(V - D*W):=IntWalk.i64_in _ (by omega);have e4:IntKind.i64.wrap (py*H)=py*H:=IntWalk.i64_in _ (by omega);go_enter Tryzx.func109,Tryz.ntmps109;go_wp2;go_ret;exact ⟨ret_int HE.out,((Below.refl _ _).alloc (Nat.le_refl _) _).alloc (by simp) _⟩
structure MCap (w:World) (gt gl gu:Nat) (H V M D W Mo:Int):Prop where
 thr:Box4 w gt H V M D
 left:w.cell? ⟨gl,0,none⟩=some (.int .i64 W)∧w.cell? ⟨gl,1,none⟩=some (.int .i64 Mo)∧gl<w.heap.size
 up:w.cell? ⟨gu,0,none⟩=some (.int .i64 (V - D*W))∧gu<w.heap.size
theorem MCap.after {w w1:World} {gt gl gu:Nat} {H V M D W Mo:Int} (h:MCap w gt gl gu H V M D W Mo) (hb:Below w.heap.size w w1):MCap w1 gt gl gu H V M D W Mo :=
 ⟨h.thr.after hb,⟨(hb.cell (p:=⟨gl,0,none⟩) h.left.2.2).trans h.left.1,(hb.cell (p:=⟨gl,1,none⟩) h.left.2.2).trans h.left.2.1,Nat.lt_of_lt_of_le h.left.2.2 hb.size⟩,⟨(hb.cell (p:=⟨gu,0,none⟩) h.up.2).trans h.up.1,Nat.lt_of_lt_of_le h.up.2 hb.size⟩⟩
set_option maxRecDepth 100000 in
set_option maxHeartbeats 1600000 in
theorem moment1_any (gt gl gu:Nat) (H V M D W Mo px py:Int) (w:World) (hc:MCap w gt gl gu H V M D W Mo) (h:MomBd H V M D W Mo px py) :
  Calls Tryzx.prog 113 #[.agg #[.int .i64 px,.int .i64 py],.pointer (some ⟨gt,0,none⟩),.pointer (some ⟨gl,0,none⟩),.pointer (some ⟨gu,0,none⟩)] w fun e w'=>e = .returned (.int .i64 (momI H V M D W Mo px py))∧Below w.heap.size w w':=by
 obtain ⟨h1,h2,h3,h4,h5,h6⟩:=h;have HE:Hid (M - D*Mo - px*(V - D*W)+py*H=momI H V M D W Mo px py):=rfl;have e1:IntKind.i64.wrap (D*Mo)=D*Mo:=IntWalk.i64_in _ (by omega);have e3:IntKind.i64.wrap (px*(V - D*W))=px*(V - D*W):=IntWalk.i64_in _ (by omega);have e4:IntKind.i64.wrap (py*H)=py*H:=IntWalk.i64_in _ (by omega);obtain ⟨⟨⟨t0,t1,t2,t3⟩,tl⟩,⟨l0,l1,ll⟩,⟨u0,ul⟩⟩:=hc;have HU:Hid (∀ x,x=V - D*W → -720000000000000≤px*x∧px*x≤720000000000000∧M - D*Mo - px*x+py*H=momI H V M D W Mo px py):=fun x hx=>by subst hx; exact ⟨h5.1,h5.2,rfl⟩
 go_enter Tryzx.func113,Tryz.ntmps113;go_wp2;go_ret;exact ⟨ret_int HE.out,(Below.refl _ _).alloc (Nat.le_refl _) _⟩
end X
end Go.Proofs.YtodneggnnipcnaaGreat
