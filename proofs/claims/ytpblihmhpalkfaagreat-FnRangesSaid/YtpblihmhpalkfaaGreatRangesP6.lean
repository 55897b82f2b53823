/-
  Texts that the law stands on, part 6.
-/
import Derived.Test.YtpblihmhpalkfaaGreatRangesP1
import Derived.Test.YtpblihmhpalkfaaGreatRangesP5
import Derived.Test.YtpblihmhpalkfaaGreatJ17
import Derived.Deep.CutRange
set_option maxRecDepth 100000
set_option linter.unusedVariables false
set_option linter.unusedSimpArgs false
namespace Go.Proofs.YtpblihmhpalkfaaGreat
namespace X
open Go.RowKit
def mixOk (a0 a1 a2 a3 b0 b1 b2 b3:Int):Bool:=thrB a0 a1 a2 a3 && (thrB b0 b1 b2 b3 && (decide (a3≤1000) && decide (b3≤1000)))
def mixV (a0 a1 a2 a3 b0 b1 b2 b3:Int):Value:=if mixOk a0 a1 a2 a3 b0 b1 b2 b3=true then mkV (a0*b3+b0*a3) (a1*b3+b1*a3) (a2*b3+b2*a3) (2*a3*b3) else thrV 0 0 0 0 false
theorem mixV_f {a0 a1 a2 a3 b0 b1 b2 b3:Int} (h:mixOk a0 a1 a2 a3 b0 b1 b2 b3=false):mixV a0 a1 a2 a3 b0 b1 b2 b3=thrV 0 0 0 0 false:=by simp [mixV,h]
theorem mixV_t {a0 a1 a2 a3 b0 b1 b2 b3:Int} (h:mixOk a0 a1 a2 a3 b0 b1 b2 b3=true):mixV a0 a1 a2 a3 b0 b1 b2 b3=mkV (a0*b3+b0*a3) (a1*b3+b1*a3) (a2*b3+b2*a3) (2*a3*b3):=by simp [mixV,h]
structure MixW (a0 a1 a2 a3 b0 b1 b2 b3:Int):Prop where
 p0:IntKind.i64.wrap (a0*b3)=a0*b3
 q0:IntKind.i64.wrap (b0*a3)=b0*a3
 s0:IntKind.i64.wrap (a0*b3+b0*a3)=a0*b3+b0*a3
 p1:IntKind.i64.wrap (a1*b3)=a1*b3
 q1:IntKind.i64.wrap (b1*a3)=b1*a3
 s1:IntKind.i64.wrap (a1*b3+b1*a3)=a1*b3+b1*a3
 p2:IntKind.i64.wrap (a2*b3)=a2*b3
 q2:IntKind.i64.wrap (b2*a3)=b2*a3
 s2:IntKind.i64.wrap (a2*b3+b2*a3)=a2*b3+b2*a3
 t:IntKind.i64.wrap (2*a3)=2*a3
 u:IntKind.i64.wrap (2*a3*b3)=2*a3*b3
theorem mix_w {a0 a1 a2 a3 b0 b1 b2 b3:Int} (h:mixOk a0 a1 a2 a3 b0 b1 b2 b3=true):MixW a0 a1 a2 a3 b0 b1 b2 b3:=by
 unfold mixOk at h;simp only [Bool.and_eq_true,decide_eq_true_eq] at h;obtain ⟨ha,hb,h3,h4⟩:=h;have a:=thrB_out ha;have b:=thrB_out hb;have m0:=gmul_bd (m:=1000000000000) (n:=1000) (a:=a0) (b:=b3) (by omega) (by omega);have m1:=gmul_bd (m:=1000000000000) (n:=1000) (a:=b0) (b:=a3) (by omega) (by omega);have m2:=gmul_bd (m:=10000000000000) (n:=1000) (a:=a1) (b:=b3) (by omega) (by omega);have m3:=gmul_bd (m:=10000000000000) (n:=1000) (a:=b1) (b:=a3) (by omega) (by omega);have m4:=gmul_bd (m:=10000000000000) (n:=1000) (a:=a2) (b:=b3) (by omega) (by omega);have m5:=gmul_bd (m:=10000000000000) (n:=1000) (a:=b2) (b:=a3) (by omega) (by omega);have m6:=gmul_bd (m:=2000) (n:=1000) (a:=2*a3) (b:=b3) (by omega) (by omega);exact ⟨IntWalk.i64_in _ (by omega),IntWalk.i64_in _ (by omega),IntWalk.i64_in _ (by omega),IntWalk.i64_in _ (by omega),IntWalk.i64_in _ (by omega),IntWalk.i64_in _ (by omega),IntWalk.i64_in _ (by omega),IntWalk.i64_in _ (by omega),IntWalk.i64_in _ (by omega),IntWalk.i64_in _ (by omega),IntWalk.i64_in _ (by omega)⟩
structure MXi (w wr:World) (a0 a1 a2 a3 b0 b1 b2 b3:Int):Prop where
 a:Box4 wr w.heap.size a0 a1 a2 a3
 b:Box4 wr (w.heap.size+1) b0 b1 b2 b3
 r:RowF wr (w.heap.size+1+1) 31 4 (fun _ => .int .i64 0)
 below:Below w.heap.size w wr
theorem MXi.after {w wr w1:World} {a0 a1 a2 a3 b0 b1 b2 b3:Int} (h:MXi w wr a0 a1 a2 a3 b0 b1 b2 b3) (hb:Below wr.heap.size wr w1):MXi w w1 a0 a1 a2 a3 b0 b1 b2 b3:=⟨h.a.after hb,h.b.after hb,h.r.after hb,h.below.trans (hb.mono h.below.size)⟩
theorem MXi.start (w:World) (a0 a1 a2 a3 b0 b1 b2 b3:Int) (T:TypeId):MXi w (((w.alloc (.cells #[.int .i64 a0,.int .i64 a1,.int .i64 a2,.int .i64 a3] T)).alloc (.cells #[.int .i64 b0,.int .i64 b1,.int .i64 b2,.int .i64 b3] T)).alloc (.cells #[.int .i64 0,.int .i64 0,.int .i64 0,.int .i64 0] 31)) a0 a1 a2 a3 b0 b1 b2 b3:=by
 have h2:=Box4.new (w.alloc (.cells #[.int .i64 a0,.int .i64 a1,.int .i64 a2,.int .i64 a3] T)) b0 b1 b2 b3 T;have h3:RowF _ _ 31 4 (fun _ => .int .i64 0):=RowF.of_row (World.rowIs_alloc ((w.alloc (.cells #[.int .i64 a0,.int .i64 a1,.int .i64 a2,.int .i64 a3] T)).alloc (.cells #[.int .i64 b0,.int .i64 b1,.int .i64 b2,.int .i64 b3] T)) #[.int .i64 0,.int .i64 0,.int .i64 0,.int .i64 0] 31 (fun _ => .int .i64 0) (fun i hi=>by simp at hi; match i,hi with | 0,_=>rfl | 1,_=>rfl | 2,_=>rfl | 3,_=>rfl))
 simp only [World.size_alloc] at h2 h3;exact ⟨((Box4.new w a0 a1 a2 a3 T).after ((Below.refl _ _).alloc (Nat.le_refl _) _)).after ((Below.refl _ _).alloc (Nat.le_refl _) _),h2.after ((Below.refl _ _).alloc (Nat.le_refl _) _),h3,(((Below.refl _ _).alloc (Nat.le_refl _) _).alloc (by simp) _).alloc (by simp; omega) _⟩
theorem mixOk_1 {a0 a1 a2 a3:Int} (b0 b1 b2 b3:Int) (h:thrB a0 a1 a2 a3=false):mixOk a0 a1 a2 a3 b0 b1 b2 b3=false:=by simp [mixOk,h]
theorem mixOk_2 (a0 a1 a2 a3:Int) {b0 b1 b2 b3:Int} (h:thrB b0 b1 b2 b3=false):mixOk a0 a1 a2 a3 b0 b1 b2 b3=false:=by simp [mixOk,h]
theorem mixOk_3 {a0 a1 a2 a3:Int} (b0 b1 b2 b3:Int) (h:a3 > 1000):mixOk a0 a1 a2 a3 b0 b1 b2 b3=false:=by simp [mixOk,show ¬ a3≤1000 by omega]
theorem mixOk_4 (a0 a1 a2 a3:Int) {b0 b1 b2 b3:Int} (h:b3 > 1000):mixOk a0 a1 a2 a3 b0 b1 b2 b3=false:=by simp [mixOk,show ¬ b3≤1000 by omega]
theorem mixOk_t {a0 a1 a2 a3 b0 b1 b2 b3:Int} (h1:thrB a0 a1 a2 a3=true) (h2:thrB b0 b1 b2 b3=true) (h3:¬ a3 > 1000) (h4:¬ b3 > 1000):mixOk a0 a1 a2 a3 b0 b1 b2 b3=true:=by simp [mixOk,h1,h2]; omega
set_option maxRecDepth 100000 in
set_option maxHeartbeats 3200000 in
theorem iMix_any (a0 a1 a2 a3 b0 b1 b2 b3:Int) (w:World) :
  Calls Tryzx.prog 14 #[.agg #[.int .i64 a0,.int .i64 a1,.int .i64 a2,.int .i64 a3],.agg #[.int .i64 b0,.int .i64 b1,.int .i64 b2,.int .i64 b3]] w fun e w'=>e = .returned (mixV a0 a1 a2 a3 b0 b1 b2 b3)∧Below w.heap.size w w':=by
 have HM:=Lib.hid (MXi.start w a0 a1 a2 a3 b0 b1 b2 b3 31);obtain ⟨ok,hok⟩:∃ ok,mixOk a0 a1 a2 a3 b0 b1 b2 b3=ok:=⟨_,rfl⟩;have HOK:=Lib.hid hok;clear hok;obtain ⟨c0,c1,c2,c3⟩:=HM.out.a.1;go_enter Tryzx.func14,Tryz.ntmps14;go_upto_region 1 with fail
 go_cut [23] from 6 to 23 (fun v23 wx=>v23 = .bool (!ok)∧Hid (MXi w wx a0 a1 a2 a3 b0 b1 b2 b3))
 case first =>
  cases h1:thrB a0 a1 a2 a3
  ·go_wp2_with fail
   refine (iThrustOk_any _ _ _ _ _).mono ?_;rw [h1];rintro e w1 ⟨rfl,hb1⟩;have HM1:=Lib.hid (HM.out.after hb1);have hk:ok=false:=HOK.out.symm.trans (mixOk_1 _ _ _ _ h1);clear hb1 HM HOK;subst hk;go_wp2_with fail
   go_meet
   case rel=>exact ⟨rfl,HM1⟩
  ·go_wp2_with fail
   refine (iThrustOk_any _ _ _ _ _).mono ?_;rw [h1];rintro e w1 ⟨rfl,hb1⟩;have HM1:=Lib.hid (HM.out.after hb1);obtain ⟨d0,d1,d2,d3⟩:=HM1.out.b.1;clear hb1 HM c0 c1 c2 c3;cases h2:thrB b0 b1 b2 b3
   ·go_wp2_with fail
    refine (iThrustOk_any _ _ _ _ _).mono ?_;rw [h2];rintro e w2 ⟨rfl,hb2⟩;have HM2:=Lib.hid (HM1.out.after hb2);have hk:ok=false:=HOK.out.symm.trans (mixOk_2 _ _ _ _ h2);clear hb2 HM1 HOK;subst hk;go_wp2_with fail
    go_meet
    case rel=>exact ⟨rfl,HM2⟩
   ·go_wp2_with fail
    refine (iThrustOk_any _ _ _ _ _).mono ?_;rw [h2];rintro e w2 ⟨rfl,hb2⟩;have HM2:=Lib.hid (HM1.out.after hb2);clear hb2 HM1 d0 d1 d2 d3;obtain ⟨c0,c1,c2,c3⟩:=HM2.out.a.1;obtain ⟨d0,d1,d2,d3⟩:=HM2.out.b.1;by_cases h3:a3 > 1000
    ·have hk:ok=false:=HOK.out.symm.trans (mixOk_3 _ _ _ _ h3)
     clear HOK;subst hk;go_wp2_with fail
     go_meet
     case rel=>exact ⟨by first | rfl | (congr 1; simp; omega),HM2⟩
    ·by_cases h4:b3 > 1000
     ·have hk:ok=false:=HOK.out.symm.trans (mixOk_4 _ _ _ _ h4)
      clear HOK;subst hk;go_wp2_with fail
      go_meet
      case rel=>exact ⟨by first | rfl | (congr 1; simp; omega),HM2⟩
     ·have hk:ok=true:=HOK.out.symm.trans (mixOk_t h1 h2 h3 h4)
      clear HOK;subst hk;go_wp2_with fail
      go_meet
      case rel=>exact ⟨by first | rfl | (congr 1; simp; omega),HM2⟩
 case rest =>
  clear HM c0 c1 c2 c3;obtain ⟨rfl,HM1⟩:=hcut;have y0:wc.cell? ⟨w.heap.size+1+1,0,none⟩=some (.int .i64 0):=HM1.out.r.cell (i:=0) (by omega);have y1:wc.cell? ⟨w.heap.size+1+1,1,none⟩=some (.int .i64 0):=HM1.out.r.cell (i:=1) (by omega);have y2:wc.cell? ⟨w.heap.size+1+1,2,none⟩=some (.int .i64 0):=HM1.out.r.cell (i:=2) (by omega);have y3:wc.cell? ⟨w.heap.size+1+1,3,none⟩=some (.int .i64 0):=HM1.out.r.cell (i:=3) (by omega);have f0:=HM1.out.r.frozen 0;have f1:=HM1.out.r.frozen 1;have f2:=HM1.out.r.frozen 2;have f3:=HM1.out.r.frozen 3;have hs:=RowF.lt HM1.out.r;cases ok
  ·have HF:=Lib.hid (mixV_f HOK.out)
   clear HOK;go_wp2;refine bodyPost_ret (v:=thrV 0 0 0 0 false) (by simp [thrV,results,Tryz.results14,go_sem, *]) rfl ?_;exact ⟨by rw [HF.out],below_set4 HM1.out.below (by omega) _ _ _ _⟩
  ·have HF:=Lib.hid (mixV_t HOK.out)
   have hw:=mix_w HOK.out;have r1:=hw.p0;have r2:=hw.q0;have r3:=hw.s0;have r4:=hw.p1;have r5:=hw.q1;have r6:=hw.s1;have r7:=hw.p2;have r8:=hw.q2;have r9:=hw.s2;have ra:=hw.t;have rb:=hw.u;clear HOK hw y0 y1 y2 y3 f0 f1 f2 f3 hs;obtain ⟨c0,c1,c2,c3⟩:=HM1.out.a.1;obtain ⟨d0,d1,d2,d3⟩:=HM1.out.b.1;go_wp2_with fail
   refine (iMake_any _ _ _ _ _).mono ?_;rw [← HF.out];obtain ⟨h',v',m',d',bb,hE⟩:∃ h' v' m' d' bb,mixV a0 a1 a2 a3 b0 b1 b2 b3=thrV h' v' m' d' bb:=⟨_,_,_,_,_,HF.out⟩;rintro e w3 ⟨rfl,hb3⟩;have HM3:=Lib.hid (HM1.out.after hb3);clear hb3 HM1 HF c0 c1 c2 c3 d0 d1 d2 d3 r1 r2 r3 r4 r5 r6 r7 r8 r9 ra rb;rw [hE];have y0:w3.cell? ⟨w.heap.size+1+1,0,none⟩=some (.int .i64 0):=HM3.out.r.cell (i:=0) (by omega);have y1:w3.cell? ⟨w.heap.size+1+1,1,none⟩=some (.int .i64 0):=HM3.out.r.cell (i:=1) (by omega);have y2:w3.cell? ⟨w.heap.size+1+1,2,none⟩=some (.int .i64 0):=HM3.out.r.cell (i:=2) (by omega);have y3:w3.cell? ⟨w.heap.size+1+1,3,none⟩=some (.int .i64 0):=HM3.out.r.cell (i:=3) (by omega);have f0:=HM3.out.r.frozen 0;have f1:=HM3.out.r.frozen 1;have f2:=HM3.out.r.frozen 2;have f3:=HM3.out.r.frozen 3;have hs:=RowF.lt HM3.out.r;have HE:=Lib.hid hE;clear hE;unfold thrV;go_wp2;refine bodyPost_ret (v:=thrV h' v' m' d' bb) (by simp [thrV,results,Tryz.results14,go_sem, *]) rfl ?_;exact ⟨by rw [HE.out],below_set4 HM3.out.below (by omega) _ _ _ _⟩
theorem mixV_ex (a0 a1 a2 a3 b0 b1 b2 b3:Int):∃ m0 m1 m2 m3 mb,mixV a0 a1 a2 a3 b0 b1 b2 b3 = .tuple #[.agg #[.int .i64 m0,.int .i64 m1,.int .i64 m2,.int .i64 m3],.bool mb] ∧
  (mb=true→mixOk a0 a1 a2 a3 b0 b1 b2 b3=true∧mkB (a0*b3+b0*a3) (a1*b3+b1*a3) (a2*b3+b2*a3) (2*a3*b3)=true∧m0=mkI (a0*b3+b0*a3) (a1*b3+b1*a3) (a2*b3+b2*a3) (2*a3*b3) (a0*b3+b0*a3)∧m1=mkI (a0*b3+b0*a3) (a1*b3+b1*a3) (a2*b3+b2*a3) (2*a3*b3) (a1*b3+b1*a3)∧m2=mkI (a0*b3+b0*a3) (a1*b3+b1*a3) (a2*b3+b2*a3) (2*a3*b3) (a2*b3+b2*a3)∧m3=mkI (a0*b3+b0*a3) (a1*b3+b1*a3) (a2*b3+b2*a3) (2*a3*b3) (2*a3*b3)):=by
 cases h:mixOk a0 a1 a2 a3 b0 b1 b2 b3
 ·exact ⟨0,0,0,0,false,by rw [mixV_f h]; rfl,fun h=>by cases h⟩
 ·exact ⟨_,_,_,_,_,by rw [mixV_t h]; rfl,fun h=>⟨rfl,h,rfl,rfl,rfl,rfl⟩⟩
end X
end Go.Proofs.YtpblihmhpalkfaaGreat
