/-
  Texts that the law stands on, part 1.
-/
import Derived.Test.YtpblihmhpalkfaaGreatJ1
import Derived.Test.YtpblihmhpalkfaaGreatJ10
import Derived.Test.YtpblihmhpalkfaaGreatJ15
import Derived.Test.YtpblihmhpalkfaaGreatJ16
import Derived.Test.YtpblihmhpalkfaaGreatJ17
import Derived.Test.YtpblihmhpalkfaaGreatJ20
import Derived.Test.YtpblihmhpalkfaaGreatJ21
import Derived.Test.YtpblihmhpalkfaaGreatJ9
import Derived.Test.YtpblihmhpalkfaaGreatProg
import Derived.KernelRfl
import Derived.BigRegion
import Derived.Deep.DeepCutAuto
import Derived.IntWalk
import Derived.Maps.OwnOps
import Derived.Maps.OwnSet
import Derived.Maps.Views
set_option maxRecDepth 100000
set_option linter.unusedVariables false
set_option linter.unusedSimpArgs false
namespace Go.Proofs.YtpblihmhpalkfaaGreat
section
open Go.RowKit
section
variable {g : Nat} {w w' w'' : World}
end
theorem fill_at (zs:List Int) {k j:Nat} (h:k≤j):fill zs k j = .int .i64 0:=by simp [fill]; omega
end
end Go.Proofs.YtpblihmhpalkfaaGreat
section
namespace Go.Proofs.Tryzx
theorem func4:prog.funcs[4]?=some Tryz.f4:=by kernel_rfl
theorem func18:prog.funcs[18]?=some Tryz.f18:=by kernel_rfl
theorem func19:prog.funcs[19]?=some Tryz.f19:=by kernel_rfl
theorem func20:prog.funcs[20]?=some Tryz.f20:=by kernel_rfl
theorem func21:prog.funcs[21]?=some Tryz.f21:=by kernel_rfl
theorem func22:prog.funcs[22]?=some Tryz.f22:=by kernel_rfl
theorem func23:prog.funcs[23]?=some Tryz.f23:=by kernel_rfl
theorem func24:prog.funcs[24]?=some Tryz.f24:=by kernel_rfl
theorem func25:prog.funcs[25]?=some Tryz.f25:=by kernel_rfl
theorem func26:prog.funcs[26]?=some Tryz.f26:=by kernel_rfl
theorem func27:prog.funcs[27]?=some Tryz.f27:=by kernel_rfl
theorem func58:prog.funcs[58]?=some Tryz.f58:=by kernel_rfl
theorem func59:prog.funcs[59]?=some Tryz.f59:=by kernel_rfl
theorem func60:prog.funcs[60]?=some Tryz.f60:=by kernel_rfl
theorem func61:prog.funcs[61]?=some Tryz.f61:=by kernel_rfl
theorem func63:prog.funcs[63]?=some Tryz.f63:=by kernel_rfl
theorem func64:prog.funcs[64]?=some Tryz.f64:=by kernel_rfl
theorem func65:prog.funcs[65]?=some Tryz.f65:=by kernel_rfl
theorem func66:prog.funcs[66]?=some Tryz.f66:=by kernel_rfl
theorem func67:prog.funcs[67]?=some Tryz.f67:=by kernel_rfl
theorem func68:prog.funcs[68]?=some Tryz.f68:=by kernel_rfl
theorem func70:prog.funcs[70]?=some Tryz.f70:=by kernel_rfl
theorem func98:prog.funcs[98]?=some Tryz.f98:=by kernel_rfl
theorem func99:prog.funcs[99]?=some Tryz.f99:=by kernel_rfl
theorem func104:prog.funcs[104]?=some Tryz.f104:=by kernel_rfl
theorem func105:prog.funcs[105]?=some Tryz.f105:=by kernel_rfl
@[simp] theorem call4 (args w):Sem.run prog (callFunc 4 args) w = .ok (.enter 4 args) w:=call_x 4 args w func4
@[simp] theorem call18 (args w):Sem.run prog (callFunc 18 args) w = .ok (.enter 18 args) w:=call_x 18 args w func18
@[simp] theorem call19 (args w):Sem.run prog (callFunc 19 args) w = .ok (.enter 19 args) w:=call_x 19 args w func19
@[simp] theorem call20 (args w):Sem.run prog (callFunc 20 args) w = .ok (.enter 20 args) w:=call_x 20 args w func20
@[simp] theorem call21 (args w):Sem.run prog (callFunc 21 args) w = .ok (.enter 21 args) w:=call_x 21 args w func21
@[simp] theorem call22 (args w):Sem.run prog (callFunc 22 args) w = .ok (.enter 22 args) w:=call_x 22 args w func22
@[simp] theorem call23 (args w):Sem.run prog (callFunc 23 args) w = .ok (.enter 23 args) w:=call_x 23 args w func23
@[simp] theorem call24 (args w):Sem.run prog (callFunc 24 args) w = .ok (.enter 24 args) w:=call_x 24 args w func24
@[simp] theorem call25 (args w):Sem.run prog (callFunc 25 args) w = .ok (.enter 25 args) w:=call_x 25 args w func25
@[simp] theorem call26 (args w):Sem.run prog (callFunc 26 args) w = .ok (.enter 26 args) w:=call_x 26 args w func26
@[simp] theorem call27 (args w):Sem.run prog (callFunc 27 args) w = .ok (.enter 27 args) w:=call_x 27 args w func27
@[simp] theorem call58 (args w):Sem.run prog (callFunc 58 args) w = .ok (.enter 58 args) w:=call_x 58 args w func58
@[simp] theorem call59 (args w):Sem.run prog (callFunc 59 args) w = .ok (.enter 59 args) w:=call_x 59 args w func59
@[simp] theorem call60 (args w):Sem.run prog (callFunc 60 args) w = .ok (.enter 60 args) w:=call_x 60 args w func60
@[simp] theorem call61 (args w):Sem.run prog (callFunc 61 args) w = .ok (.enter 61 args) w:=call_x 61 args w func61
@[simp] theorem call63 (args w):Sem.run prog (callFunc 63 args) w = .ok (.enter 63 args) w:=call_x 63 args w func63
@[simp] theorem call64 (args w):Sem.run prog (callFunc 64 args) w = .ok (.enter 64 args) w:=call_x 64 args w func64
@[simp] theorem call65 (args w):Sem.run prog (callFunc 65 args) w = .ok (.enter 65 args) w:=call_x 65 args w func65
@[simp] theorem call66 (args w):Sem.run prog (callFunc 66 args) w = .ok (.enter 66 args) w:=call_x 66 args w func66
@[simp] theorem call67 (args w):Sem.run prog (callFunc 67 args) w = .ok (.enter 67 args) w:=call_x 67 args w func67
@[simp] theorem call68 (args w):Sem.run prog (callFunc 68 args) w = .ok (.enter 68 args) w:=call_x 68 args w func68
@[simp] theorem call70 (args w):Sem.run prog (callFunc 70 args) w = .ok (.enter 70 args) w:=call_x 70 args w func70
@[simp] theorem call98 (args w):Sem.run prog (callFunc 98 args) w = .ok (.enter 98 args) w:=call_x 98 args w func98
@[simp] theorem call99 (args w):Sem.run prog (callFunc 99 args) w = .ok (.enter 99 args) w:=call_x 99 args w func99
@[simp] theorem call104 (args w):Sem.run prog (callFunc 104 args) w = .ok (.enter 104 args) w:=call_x 104 args w func104
@[simp] theorem call105 (args w):Sem.run prog (callFunc 105 args) w = .ok (.enter 105 args) w:=call_x 105 args w func105
end Go.Proofs.Tryzx
end
section
namespace Go.Proofs.Tryzx
theorem ntmps4:Tryz.f4.ntmps=129:=Tryz.ntmps4
theorem ntmps18:Tryz.f18.ntmps=6:=Tryz.ntmps18
theorem ntmps58:Tryz.f58.ntmps=15:=Tryz.ntmps58
end Go.Proofs.Tryzx
end
namespace Go.Proofs.YtpblihmhpalkfaaGreat
namespace X
open Go.RowKit
section
variable {w wr w' : World} {g : Nat} {A : Option Addr} {n c : Nat} {zs : List Int} {X b m d : Nat} {Z : List Int}
end
def ArPost (w:World) (g:Nat) (A:Option Addr) (n c:Nat) (e:Ending) (w':World):Prop :=
 ∃ (b m d:Nat) (Z:List Int),e = .returned (.agg #[.slice (some ⟨b,0,none⟩) m d])∧w.heap.size<b∧m≤d∧RowF w' b 45 (m*4) (ints Z)∧Z.length=m*4∧archB Z m=true∧CurAt w' g A n c∧Below g w w'
end X
namespace X
open Go.RowKit
set_option maxRecDepth 100000 in
set_option maxHeartbeats 3200000 in
theorem l24Small_any (g:Nat) (A:Option Addr) (n c:Nat) (zs:List Int) (w:World) (h:BytesAt w g A n zs) (hn:n≤1048576) (hc:CurAt w g A n c) (hg:g<w.heap.size) :
  Calls Tryzx.prog 58 #[.pointer (some ⟨g,0,none⟩)] w (ArPost w g A n c):=by
 have ba:Below w.heap.size w (w.alloc (.cells #[.slice none 0 0] 26)):=(Below.refl _ _).alloc (Nat.le_refl _) _;have h0:BytesAt (w.alloc (.cells #[.slice none 0 0] 26)) g A n zs:=h.below (ba.mono (by omega));have hc0:CurAt (w.alloc (.cells #[.slice none 0 0] 26)) g A n c:=hc.after ba;have HV0:Hid (RowF (w.alloc (.cells #[.slice none 0 0] 26)) w.heap.size 26 1 (fun _ => .slice none 0 0)):=Lib.hid (rowF_new1S _ _ _);have HB0:=Lib.hid ba;have HG:=Lib.hid hg;clear h hc ba;go_enter Tryzx.func58,Tryz.ntmps58;go_wp2_with fail
 refine (l06Arch_keep g A n c zs _ h0 hn hc0 (by simp; omega)).mono ?_
 rintro e w1 ⟨b,m,d,Z,rfl,hbg,hmd,hbr,hbl,hbo,hcc,hk,hb1⟩;have HA2:Hid (ArSt w (w1.alloc (.cells #[.slice (some ⟨b,0,none⟩) m d] 26)) g A n c zs w1.heap.size b m d Z):=Lib.hid (by
  have h1:=HG.out;have h3:=hb1.size;simp at h3 hbg;have bb:Below w1.heap.size w1 (w1.alloc (.cells #[.slice (some ⟨b,0,none⟩) m d] 26)):=(Below.refl _ _).alloc (Nat.le_refl _) _;have hk0:KeepB g w.heap.size w (w.alloc (.cells #[.slice none 0 0] 26)):=fun k hk _=>HB0.out.block k hk
  exact ⟨(hk.row HV0.out (by simp) (by omega)).alloc _,rowF_new1S _ _ _,hbr.alloc _,⟨hbl,hbo,hmd⟩,⟨h1,by omega,by omega⟩,hcc.after bb,(h0.below hb1).below (bb.mono (by omega)),(HB0.out.mono (by omega)).trans (hb1.trans (bb.mono (by omega))),(hk0.trans hk (by simp)).belowB bb (by omega)⟩)
 obtain ⟨X,hX⟩:∃ X,w1.heap.size=X:=⟨_,rfl⟩;rw [hX] at HA2;have hm8:=(archB_out hbo).1;clear hbg hmd hbr hbl hbo hcc hk hb1 h0 hc0 HB0 HV0;have bx:(w1.alloc (.cells #[.slice (some ⟨b,0,none⟩) m d] 26)).cell? ⟨X,0,none⟩=some (.slice (some ⟨b,0,none⟩) m d):=HA2.out.box.cell (i:=0) (by omega);by_cases h5:m≤5
 ·have j5:¬ (m:Int) > 5:=by omega
  have rx:(w1.alloc (.cells #[.slice (some ⟨b,0,none⟩) m d] 26)).cell? ⟨w.heap.size,0,none⟩=some (.slice none 0 0):=HA2.out.res.cell (i:=0) (by omega);have rf:=HA2.out.res.frozen 0;have rl:=HA2.out.res.lt;go_wp2;refine bodyPost_ret (v := .agg #[.slice (some ⟨b,0,none⟩) m d]) (by simp [results,Tryz.results58,go_sem, *]) rfl ?_;have hf:=HA2.out.far;refine ⟨b,m,d,Z,rfl,hf.2.2,HA2.out.ok.2.2,HA2.out.row.set_other (by simp; omega) _,HA2.out.ok.1,HA2.out.ok.2.1,?_,HA2.out.below.setCell (by simp; omega) _⟩
  obtain ⟨i,x,hi,hc⟩:=HA2.out.cur;exact ⟨i,x,hi,RowF.set_other hc (by simp; omega) _⟩
 ·have j5:(m:Int) > 5:=by omega
  go_wp2_with fail
  refine (l01Below_any g A n c zs 5 _ HA2.out.code hn HA2.out.cur (by omega) (by omega)).mono ?_;rintro e w3 ⟨r,rfl,r0,r1,hc3,ho3⟩;have HA3:=Lib.hid (HA2.out.only ho3 hc3);have i1:IntKind.i64.wrap (1+r)=1+r:=IntWalk.i64_in _ (by omega);clear hc3 ho3 HA2 bx;go_wp2_with fail
  refine (l06Shape_any (1+r) w3 (by omega) (by omega)).mono ?_;rintro e w4 ⟨b',m',Z',rfl,hbg,hbr,hbl,hbo,hb4⟩;have HA4:=Lib.hid (HA3.out.after hb4);have HR4:=Lib.hid hbr;have HF4:Hid (w.heap.size<b'∧X ≠ b'):=Lib.hid (by
   have h1:=HA3.out.box.lt;have h2:=HA3.out.res.lt;exact ⟨by omega,by omega⟩)
  clear hbg hbr hb4 HA3;have bx:w4.cell? ⟨X,0,none⟩=some (.slice (some ⟨b,0,none⟩) m d):=HA4.out.box.cell (i:=0) (by omega);have xf:=HA4.out.box.frozen 0;have xl:=HA4.out.box.lt;have rx:w4.cell? ⟨w.heap.size,0,none⟩=some (.slice none 0 0):=HA4.out.res.cell (i:=0) (by omega);have rf:=HA4.out.res.frozen 0;have rl:=HA4.out.res.lt;have hne:w.heap.size ≠ X:=by have:=HA4.out.far; omega
  go_wp2;refine bodyPost_ret (v := .agg #[.slice (some ⟨b',0,none⟩) m' m']) (by simp [results,Tryz.results58,go_sem, *]) rfl ?_;have hf:=HA4.out.far;have hf2:=HF4.out;refine ⟨b',m',m',Z',rfl,hf2.1,Nat.le_refl _,(HR4.out.set_other (by simp; omega) _).set_other (by simp; omega) _,hbl,hbo,?_,(HA4.out.below.setCell (by simp; omega) _).setCell (by simp; omega) _⟩
  obtain ⟨i,x,hi,hc⟩:=HA4.out.cur;exact ⟨i,x,hi,RowF.set_other (RowF.set_other hc (by simp; omega) _) (by simp; omega) _⟩
set_option maxRecDepth 100000 in
set_option maxHeartbeats 3200000 in
theorem drawSmall_any (A:Option Addr) (n c:Nat) (zs:List Int) (w:World) (h:BytesAt w w.heap.size A n zs) (hn:n≤1048576) :
  Calls Tryzx.prog 18 #[.slice A n c] w fun e w'=>∃ (b m d:Nat) (Z:List Int),e = .returned (.agg #[.slice (some ⟨b,0,none⟩) m d])∧w.heap.size<b∧m≤d∧RowF w' b 45 (m*4) (ints Z)∧Z.length=m*4∧archB Z m=true∧Below w.heap.size w w':=by
 have h0:BytesAt (w.alloc (.cells #[.slice none 0 0] 26)) (w.alloc (.cells #[.slice none 0 0] 26)).heap.size A n zs:=h.after ((Below.refl _ _).alloc (Nat.le_refl _) _);have HB0:Hid (Below w.heap.size w (w.alloc (.cells #[.slice none 0 0] 26))):=Lib.hid ((Below.refl _ _).alloc (Nat.le_refl _) _);have HV0:Hid (RowF (w.alloc (.cells #[.slice none 0 0] 26)) w.heap.size 26 1 (fun _ => .slice none 0 0)):=Lib.hid (rowF_new1S _ _ _);go_enter Tryzx.func18,Tryz.ntmps18;go_wp2_with fail
 refine (l01New_any _ _ _ zs _ h0 hn).mono ?_;rintro e w1 ⟨g,rfl,hg,hc,hb1⟩;have hgl:g<w1.heap.size:=by
  obtain ⟨i,x,_,hcc⟩:=hc;exact RowF.lt hcc
 have h1:BytesAt w1 g A n zs:=(h0.below hb1).mono hg;have hgw:w.heap.size<g:=by simp at hg; omega
 have HB1:=Lib.hid (HB0.out.trans (hb1.mono (by simp)));have HV1:=Lib.hid (HV0.out.after hb1);clear hb1 h h0;go_wp2_with fail
 refine (l24Small_any g _ _ _ zs _ h1 hn hc hgl).mono ?_;rintro e w2 ⟨b,m,d,Z,rfl,hb,hmd,hr,hl,ho,hcc,hb2⟩;have HV2:=Lib.hid (RowF.of_block HV1.out (hb2.block w.heap.size hgw));have HB2:=Lib.hid (HB1.out.trans (hb2.mono (by omega)));have HR2:=Lib.hid hr;clear hb2 h1 hc hcc hr;have d0:w2.cell? ⟨w.heap.size,0,none⟩=some (.slice none 0 0):=HV2.out.cell (i:=0) (by omega);have f0:=HV2.out.frozen 0;have hs:=RowF.lt HV2.out;go_wp2;refine bodyPost_ret (v := .agg #[.slice (some ⟨b,0,none⟩) m d]) (by simp [results,Tryz.results18,go_sem,d0,f0,hs]) rfl ?_;exact ⟨b,m,d,Z,rfl,by omega,hmd,HR2.out.set_other (by simp; omega) _,hl,ho,HB2.out.setCell (by simp) _⟩
end X
namespace X
open Go.RowKit
theorem quiet_same' {P:Program} {f:FuncId} {args:Array Value} {w:World} {n:Nat} {v:Value}
  (h:Calls P f args (w.drewN n) fun e w'=>e = .returned v∧w.drewN n=w'):Calls P f args (w.drewN n) fun e w''=>e = .returned v∧∃ m,w''=w.drewN m :=
 h.mono fun _ _ ⟨he,hm⟩=>⟨he,n,hm.symm⟩
theorem quiet_bool {P:Program} {f:FuncId} {args:Array Value} {w:World} {n:Nat} {b b':Bool}
  (h:Calls P f args (w.drewN n) fun e w'=>e = .returned (.bool b)∧w.drewN n=w') (e:b=b'):Calls P f args (w.drewN n) fun e w''=>e = .returned (.bool b')∧∃ m,w''=w.drewN m:=by
 subst e; exact quiet_same' h
def ascAt (cs:List Int) (lo hi:Int) (i:Nat):Bool:=inB (nth cs i) lo hi && (decide (i=0) || decide (nth cs (i - 1)<nth cs i))
def ascTo (cs:List Int) (lo hi:Int) (k:Nat):Prop:=∀ i,i<k→ascAt cs lo hi i=true
def ascB (cs:List Int) (q:Nat) (lo hi:Int):Bool:=(List.range q).all (ascAt cs lo hi)
theorem ascTo_0 (cs:List Int) (lo hi:Int):ascTo cs lo hi 0:=fun i hi=>absurd hi (by omega)
theorem ascTo_step {cs:List Int} {lo hi:Int} {k:Nat} (h:ascTo cs lo hi k) (e:ascAt cs lo hi k=true):ascTo cs lo hi (k+1):=by
 intro i hi;by_cases hik:i=k
 ·subst hik; exact e
 ·exact h i (by omega)
theorem ascAt_1 {cs:List Int} {lo hi:Int} {k:Nat} (h:inB (nth cs k) lo hi=false):ascAt cs lo hi k=false:=by simp [ascAt,h]
theorem ascAt_2 {cs:List Int} {lo hi:Int} {k:Nat} (hk:0<k) (h:¬ nth cs (k - 1)<nth cs k):ascAt cs lo hi k=false:=by
 simp [ascAt,h]; intro _; omega
theorem ascAt_3 {cs:List Int} {lo hi:Int} (h:inB (nth cs 0) lo hi=true):ascAt cs lo hi 0=true:=by simp [ascAt,h]
theorem ascAt_4 {cs:List Int} {lo hi:Int} {k:Nat} (h:inB (nth cs k) lo hi=true) (h':nth cs (k - 1)<nth cs k):ascAt cs lo hi k=true:=by simp [ascAt,h,h']
theorem ascB_f {cs:List Int} {q:Nat} {lo hi:Int} {k:Nat} (hk:k<q) (h:ascAt cs lo hi k=false):ascB cs q lo hi=false:=by
 rw [ascB,List.all_eq_false];exact ⟨k,by simpa using hk,by simp [h]⟩
theorem ascB_t {cs:List Int} {q:Nat} {lo hi:Int} (h:ascTo cs lo hi q):ascB cs q lo hi=true:=by
 rw [ascB,List.all_eq_true];exact fun i hi=>h i (by simpa using hi)
def carriedB (zs:List Int) (n:Nat) (cs:List Int) (q:Nat):Bool:=archB zs n && ascB cs q 0 ((n:Int) - 2)
theorem carriedB_1 {zs:List Int} {n:Nat} (cs:List Int) (q:Nat) (h:archB zs n=false):carriedB zs n cs q=false:=by simp [carriedB,h]
theorem carriedB_2 (zs:List Int) {n:Nat} {cs:List Int} {q:Nat} (h:ascB cs q 0 ((n:Int) - 2)=false):carriedB zs n cs q=false:=by simp [carriedB,h]
theorem carriedB_3 {zs:List Int} {n:Nat} {cs:List Int} {q:Nat} (h:ascB cs q 0 ((n:Int) - 2)=true):carriedB zs n cs q=archB zs n:=by simp [carriedB,h]
set_option maxHeartbeats 800000 in
theorem ascending_any (lo hi:Int) (B:Option Addr) (q d:Nat) (cs:List Int) (w:World) (hI:IntsAt w w.heap.size B q cs) (hq:q≤1048576) :
  Calls Tryzx.prog 98 #[.slice B q d,.int .i64 lo,.int .i64 hi] w fun e w'=>e = .returned (.bool (ascB cs q lo hi))∧w=w':=by
 have HI:=Lib.hid hI;clear hI;go_enter Tryzx.func98,Tryz.ntmps98;go_wp2;go_loop [11] (fun i=>∃ k:Nat,k≤q∧i = .int .i64 k∧ascTo cs lo hi k) (fun i=>q - (intOf i).toNat)
 case atStart=>exact ⟨0,Nat.zero_le _,rfl,ascTo_0 _ _ _⟩
 case round =>
  obtain ⟨k,hk,rfl,hag⟩:=hrel;by_cases hlt:k<q
  ·obtain ⟨b,off,rfl,hbB,hc⟩:=HI.out.2 (by omega)
   have x0:=hc k hlt;cases hp:inB (nth cs k) lo hi
   ·have HF:=Lib.hid (ascB_f hlt (ascAt_1 hp))
    clear hc;go_wp2_with (go_at_call 76; refine (within_any _ _ _ _).mono ?_; rw [hp]; rintro e w' ⟨rfl,rfl⟩);go_ret;exact ⟨ret_bool HF.out.symm,rfl⟩
   ·by_cases hk0:k=0
    ·subst hk0
     have x00:w.cell? ⟨b,off,none⟩=some (.int .i64 (nth cs 0)):=x0;have HS:=Lib.hid (ascTo_step hag (ascAt_3 hp));clear hc;go_wp2_with (go_at_call 76; refine (within_any _ _ _ _).mono ?_; rw [hp]; rintro e w' ⟨rfl,rfl⟩);go_round
     case rel=>exact ⟨1,by omega,by go_num,HS.out⟩
     case measure=>first | (simp [intOf]; done) | (simp [intOf]; omega)
    ·obtain ⟨m,rfl⟩:∃ m,k=m+1:=⟨k - 1,by omega⟩
     have x1:=hc m (by omega);have i1:(0:Int)<((m+1:Nat):Int):=by omega
     have e1:((m+1:Nat):Int) - 1=(m:Int):=by omega
     by_cases hlt2:nth cs m<nth cs (m+1)
     ·have HS:=Lib.hid (ascTo_step hag (ascAt_4 hp hlt2))
      have hge:¬ nth cs (m+1)≤nth cs m:=by omega
      clear hc hag hk0;go_wp2_with (go_at_call 76; refine (within_any _ _ _ _).mono ?_; rw [hp]; rintro e w' ⟨rfl,rfl⟩);go_round
      case rel=>exact ⟨m+1+1,by omega,by go_num,HS.out⟩
      case measure=>first | (simp [intOf]; done) | (simp [intOf]; omega)
     ·have HF:=Lib.hid (ascB_f hlt (ascAt_2 (lo:=lo) (hi:=hi) (by omega) hlt2))
      have hge:nth cs (m+1)≤nth cs m:=by omega
      clear hc hag hk0;go_wp2_with (go_at_call 76; refine (within_any _ _ _ _).mono ?_; rw [hp]; rintro e w' ⟨rfl,rfl⟩);go_ret;exact ⟨ret_bool HF.out.symm,rfl⟩
  ·obtain rfl:k=q:=by omega
   have HF:=Lib.hid (ascB_t hag);clear hag;go_wp2;go_ret;exact ⟨ret_bool HF.out.symm,rfl⟩
set_option maxHeartbeats 800000 in
theorem iCarriedOk_any (A:Option Addr) (n c:Nat) (zs:List Int) (B:Option Addr) (q d:Nat) (cs:List Int) (w:World) (h:RecsAt w w.heap.size 4 A n zs) (hn:n≤1048576) (hi:IntsAt w w.heap.size B q cs) (hq:q≤1048576) :
  Calls Tryzx.prog 63 #[.agg #[.slice A n c],.slice B q d] w fun e w'=>e = .returned (.bool (carriedB zs n cs q))∧Below w.heap.size w w':=by
 have HA:=Lib.hid ((Below.refl w.heap.size w).alloc (Nat.le_refl _) (.cells #[.slice A n c] 26));have h1:RecsAt (w.alloc (.cells #[.slice A n c] 26)) (w.alloc (.cells #[.slice A n c] 26)).heap.size 4 A n zs:=(h.alloc (Nat.le_refl _) _).mono (by simp);have i1:IntsAt (w.alloc (.cells #[.slice A n c] 26)) (w.alloc (.cells #[.slice A n c] 26)).heap.size B q cs:=(hi.alloc (Nat.le_refl _) _).mono (by simp);clear h hi;cases hA:archB zs n
 ·have HF:=Lib.hid (carriedB_1 cs q hA)
  go_enter Tryzx.func63,Tryz.ntmps63;go_wp2_with fail
  refine (iArchOk_any _ _ _ zs _ h1 hn).mono ?_;rw [hA];rintro e w1 ⟨rfl,hb1⟩;have HB1:=Lib.hid (HA.out.trans (hb1.mono (by simp)));go_wp2;go_ret;exact ⟨ret_bool HF.out.symm,HB1.out⟩
 ·have HF:=Lib.hid (show carriedB zs n cs q=ascB cs q 0 ((n:Int) - 2) by simp [carriedB,hA])
  go_enter Tryzx.func63,Tryz.ntmps63;go_wp2_with fail
  refine (iArchOk_any _ _ _ zs _ h1 hn).mono ?_;rw [hA];rintro e w1 ⟨rfl,hb1⟩;have HB1:=Lib.hid (HA.out.trans (hb1.mono (by simp)));have hbox1:=(hb1.cell (p:=⟨w.heap.size,0,none⟩) (by simp)).trans (cell_new0 _ _ _);have i2:=(i1.below hb1).mono hb1.size;clear hb1;go_wp2_with fail
  refine (ascending_any _ _ _ _ _ cs _ i2 hq).mono ?_;rintro e w2 ⟨rfl,rfl⟩;go_wp2;go_ret;exact ⟨ret_bool HF.out.symm,HB1.out⟩
set_option maxHeartbeats 1600000 in
theorem sCarriedOk_any (A:Option Addr) (n c:Nat) (zs:List Int) (B:Option Addr) (q d:Nat) (cs:List Int) (w:World) (h:RecsAt w w.heap.size 4 A n zs) (hn:n≤1048576) (hi:IntsAt w w.heap.size B q cs) (hq:q≤1048576) :
  Calls Tryzx.prog 104 #[.agg #[.slice A n c],.slice B q d] w fun e w'=>e = .returned (.bool (carriedB zs n cs q))∧Below w.heap.size w w':=by
 have HA:=Lib.hid ((Below.refl w.heap.size w).alloc (Nat.le_refl _) (.cells #[.slice A n c] 26));have H:=Lib.hid h;have HI:=Lib.hid hi;clear h hi;go_enter Tryzx.func104,Tryz.ntmps104;go_wp2;go_loopw [5] (fun i wr=>∃ k:Nat,k≤q∧i = .int .i64 k∧ascTo cs 0 ((n:Int) - 2) k∧wr.cell? ⟨w.heap.size,0,none⟩=some (.slice A n c)∧Below w.heap.size w wr) (fun i _=>q - (intOf i).toNat)
 case atStart=>exact ⟨0,Nat.zero_le _,rfl,ascTo_0 _ _ _,cell_new0 _ _ _,HA.out⟩
 case round =>
  clear HA;obtain ⟨k,hk,rfl,hag,hbox,hb⟩:=hrel;have HB:=Lib.hid hb;by_cases hlt:k<q
  ·obtain ⟨b,off,rfl,hbB,hc⟩:=HI.out.2 (by omega)
   have x0:wr.cell? ⟨b,off+k,none⟩=some (.int .i64 (nth cs k)):=(hb.cell (by exact hbB)).trans (hc k hlt);have HBX:=Lib.hid hbox;have ik0:(0:Int)≤(k:Int):=by omega
   have ik1:(k:Int)<(q:Int):=by omega
   have hw2:IntKind.i64.wrap ((n:Int) - 2)=(n:Int) - 2:=IntWalk.i64_in _ (by omega);cases hp:inB (nth cs k) 0 ((n:Int) - 2)
   ·have HF:=Lib.hid (carriedB_2 zs (ascB_f hlt (ascAt_1 hp)))
    clear hc hb hag;go_wp2;go_quiet ((go_at_call 97; exact quiet_bool (l01In_any _ _ _ _) hp));go_wp2;go_ret;exact ⟨ret_bool HF.out.symm,below_drewN HB.out _⟩
   ·by_cases hk0:k=0
    ·subst hk0
     have x00:wr.cell? ⟨b,off,none⟩=some (.int .i64 (nth cs 0)):=x0;have HS:=Lib.hid (ascTo_step hag (ascAt_3 hp));have hd:decide ((0:Int)<((0:Nat):Int))=false:=by simp
     clear hc hb hag;go_wp2;go_quiet ((go_at_call 97; exact quiet_bool (l01In_any _ _ _ _) hp));go_wp2;go_roundw
     case rel=>exact ⟨1,by omega,by go_num,HS.out,HBX.out,below_drewN HB.out _⟩
     case measure=>first | (simp [intOf]; done) | (simp [intOf]; omega)
    ·obtain ⟨m,rfl⟩:∃ m,k=m+1:=⟨k - 1,by omega⟩
     have x1:wr.cell? ⟨b,off+m,none⟩=some (.int .i64 (nth cs m)):=(hb.cell (by exact hbB)).trans (hc m (by omega));have i1:(0:Int)<((m+1:Nat):Int):=by omega
     have e0:(((m+1:Nat):Int)).toNat=m+1:=by omega
     by_cases hlt2:nth cs m<nth cs (m+1)
     ·have HS:=Lib.hid (ascTo_step hag (ascAt_4 hp hlt2))
      have hge:decide (nth cs (m+1)≤nth cs m)=false:=by simp; omega
      clear hc hb hag hk0;have e2:IntKind.i64.wrap (((m+1:Nat):Int) - 1)=(m:Int):=by rw [IntWalk.i64_in _ (by omega)]; omega
      go_wp2;go_quiet ((go_at_call 97; exact quiet_bool (l01In_any _ _ _ _) hp));go_wp2;go_roundw
      case rel=>exact ⟨m+1+1,by omega,by go_num,HS.out,HBX.out,below_drewN HB.out _⟩
      case measure=>first | (simp [intOf]; done) | (simp [intOf]; omega)
     ·have HF:=Lib.hid (carriedB_2 zs (ascB_f hlt (ascAt_2 (lo:=0) (hi:=(n:Int) - 2) (by omega) hlt2)))
      have hge:decide (nth cs (m+1)≤nth cs m)=true:=by simp; omega
      clear hc hb hag hk0;have e2:IntKind.i64.wrap (((m+1:Nat):Int) - 1)=(m:Int):=by rw [IntWalk.i64_in _ (by omega)]; omega
      go_wp2;go_quiet ((go_at_call 97; exact quiet_bool (l01In_any _ _ _ _) hp));go_wp2;go_ret;exact ⟨ret_bool HF.out.symm,below_drewN HB.out _⟩
  ·obtain rfl:k=q:=by omega
   have HF:=Lib.hid (carriedB_3 (zs:=zs) (ascB_t hag));have h1:=(H.out.below hb).mono hb.size;clear hb hag;go_wp2_with fail
   refine (sArchOk_any _ _ _ zs _ h1 hn).mono ?_;rintro e w1 ⟨rfl,hb1⟩;have HB1:=Lib.hid (HB.out.trans (hb1.mono HB.out.size));go_wp2;go_ret;exact ⟨ret_bool HF.out.symm,HB1.out⟩
end X
namespace X
open Go.RowKit
def isC (cs:List Int):Nat→Nat→Bool
 | 0,_=>false
 | i+1,j=>isC cs i j || decide (nth cs i=(j:Int))
theorem isC_iff (cs:List Int) (j:Nat):∀ i,isC cs i j=true ↔ ∃ t,t<i∧nth cs t=(j:Int)
 | 0=>by simp [isC]
 | i+1=>by
  simp only [isC,Bool.or_eq_true,decide_eq_true_eq,isC_iff cs j i];constructor
  ·rintro (⟨t,h1,h2⟩ | h)
   ·exact ⟨t,by omega,h2⟩
   ·exact ⟨i,by omega,h⟩
  ·rintro ⟨t,h1,h2⟩
   by_cases e:t=i
   ·subst e; exact .inr h2
   ·exact .inl ⟨t,by omega,h2⟩
theorem isC_f {cs:List Int} {i j:Nat} (h:∀ t,t<i→nth cs t ≠ (j:Int)):isC cs i j=false:=by
 cases e:isC cs i j
 ·rfl
 ·obtain ⟨t,h1,h2⟩:=(isC_iff cs j i).1 e
  exact absurd h2 (h t h1)
def stgW (zs cs:List Int) (q j:Nat):Int:=if isC cs q j=true then 0 else swt zs j
def stgM (zs cs:List Int) (q j:Nat):Int:=if isC cs q j=true then 0 else smt zs j
theorem stg_bd (zs cs:List Int) (q j:Nat):(-129600≤stgW zs cs q j∧stgW zs cs q j≤129600)∧(-5184000≤stgM zs cs q j∧stgM zs cs q j≤5184000):=by
 have h1:=swt_bd zs j;have h2:=smt_bd zs j;unfold stgW stgM;split <;> omega
def stgL (zs cs:List Int) (q:Nat):Nat→List Int
 | 0 => []
 | k+1=>stgL zs cs q k ++ [stgW zs cs q k,stgM zs cs q k]
theorem stgL_len (zs cs:List Int) (q:Nat):∀ k,(stgL zs cs q k).length=k*2
 | 0=>rfl
 | k+1=>by simp [stgL,stgL_len zs cs q k]; omega
theorem stgL_nth (zs cs:List Int) (q:Nat):∀ {m k:Nat},k<m→nth (stgL zs cs q m) (k*2)=stgW zs cs q k∧nth (stgL zs cs q m) (k*2+1)=stgM zs cs q k
 | 0,k,h=>absurd h (by omega)
 | m+1,k,h=>by
  have hl:=stgL_len zs cs q m;simp only [stgL];by_cases e:k=m
  ·subst e
   exact ⟨nthA_r 0 (by omega),nthA_r 1 (by omega)⟩
  ·rw [nthA_l (by omega),nthA_l (by omega)]
   exact stgL_nth zs cs q (by omega)
theorem sumStg_bd (zs cs:List Int) (q m:Nat):∀ k:Nat,(-(129600*(k:Int))≤sumW (stgL zs cs q m) k∧sumW (stgL zs cs q m) k≤129600*(k:Int))∧(-(5184000*(k:Int))≤sumM (stgL zs cs q m) k∧sumM (stgL zs cs q m) k≤5184000*(k:Int))
 | 0=>by simp [sumW,sumM]
 | k+1=>by
  have ih:=sumStg_bd zs cs q m k;have hb:(-129600≤nth (stgL zs cs q m) (k*2)∧nth (stgL zs cs q m) (k*2)≤129600)∧(-5184000≤nth (stgL zs cs q m) (k*2+1)∧nth (stgL zs cs q m) (k*2+1)≤5184000):=by
   by_cases h:k<m
   ·rw [(stgL_nth zs cs q h).1,(stgL_nth zs cs q h).2]; exact stg_bd zs cs q k
   ·have hl:=stgL_len zs cs q m
    have h1:nth (stgL zs cs q m) (k*2)=0:=by simp [nth,List.getD,List.getElem?_eq_none (show (stgL zs cs q m).length≤k*2 by omega)]
    have h2:nth (stgL zs cs q m) (k*2+1)=0:=by simp [nth,List.getD,List.getElem?_eq_none (show (stgL zs cs q m).length≤k*2+1 by omega)]
    rw [h1,h2]; omega
  simp only [sumW,sumM];omega
theorem wmok_stg {zs:List Int} {n:Nat} (cs:List Int) (q m:Nat) (hA:archB zs n=true):WMok (sumW (stgL zs cs q m)) (sumM (stgL zs cs q m)) n:=by
 have hn:=(archB_out hA).1;intro k hk;have h:=sumStg_bd zs cs q m k;omega
theorem stg_step {zs cs:List Int} {q n k:Nat} (hn:0<n) (hk:k<n) :
  sumW (stgL zs cs q (n - 1)) (k+1)=sumW (stgL zs cs q (n - 1)) k+(if isC cs q k=true then 0 else if k+1<n then swt zs k else 0) ∧
  sumM (stgL zs cs q (n - 1)) (k+1)=sumM (stgL zs cs q (n - 1)) k+(if isC cs q k=true then 0 else if k+1<n then smt zs k else 0):=by
 simp only [sumW,sumM];by_cases h:k+1<n
 ·rw [(stgL_nth zs cs q (show k<n - 1 by omega)).1,(stgL_nth zs cs q (show k<n - 1 by omega)).2]
  simp only [stgW,stgM,h,if_true];exact ⟨trivial,trivial⟩
 ·have hl:=stgL_len zs cs q (n - 1)
  have h1:nth (stgL zs cs q (n - 1)) (k*2)=0:=by simp [nth,List.getD,List.getElem?_eq_none (show (stgL zs cs q (n - 1)).length≤k*2 by omega)]
  have h2:nth (stgL zs cs q (n - 1)) (k*2+1)=0:=by simp [nth,List.getD,List.getElem?_eq_none (show (stgL zs cs q (n - 1)).length≤k*2+1 by omega)]
  rw [h1,h2];simp [h]
def stgN (zs:List Int) (n:Nat) (cs:List Int) (q:Nat):Nat:=if carriedB zs n cs q=true then n*2+1 else 0
def stgR (zs:List Int) (n:Nat) (cs:List Int) (q:Nat):List Int:=if carriedB zs n cs q=true then rowsL zs (sumW (stgL zs cs q (n - 1))) (sumM (stgL zs cs q (n - 1))) n else []
section
variable {zs : List Int} {n : Nat} {cs : List Int} {q : Nat}
theorem stg_t (h:carriedB zs n cs q=true):stgN zs n cs q=n*2+1∧stgR zs n cs q=rowsL zs (sumW (stgL zs cs q (n - 1))) (sumM (stgL zs cs q (n - 1))) n:=by simp [stgN,stgR,h]
theorem stg_f (h:carriedB zs n cs q=false):stgN zs n cs q=0∧stgR zs n cs q = []:=by simp [stgN,stgR,h]
theorem carriedB_out (h:carriedB zs n cs q=true):archB zs n=true∧ascTo cs 0 ((n:Int) - 2) q:=by
 simp only [carriedB,Bool.and_eq_true,ascB,List.all_eq_true] at h;exact ⟨h.1,fun i hi=>h.2 i (by simpa using hi)⟩
theorem asc_in {lo hi:Int} (h:ascTo cs lo hi q) {i:Nat} (hi':i<q):lo≤nth cs i∧nth cs i≤hi:=by
 have:=h i hi';simp only [ascAt,Bool.and_eq_true] at this;exact inB_iff.1 this.1
theorem asc_lt {lo hi:Int} (h:ascTo cs lo hi q):∀ {i j:Nat},i<j→j<q→nth cs i<nth cs j
 | i,0,hij,_=>absurd hij (by omega)
 | i,j+1,hij,hj=>by
  have h1:=h (j+1) hj;simp only [ascAt,Bool.and_eq_true,Bool.or_eq_true,decide_eq_true_eq,Nat.add_sub_cancel] at h1;have h2:nth cs j<nth cs (j+1):=by
   rcases h1.2 with e | e
   ·omega
   ·exact e
  by_cases e:i=j
  ·subst e; exact h2
  ·have:=asc_lt h (i:=i) (j:=j) (by omega) (by omega)
   omega
structure AtOk (cs:List Int) (q k t:Nat):Prop where
 le:t≤q
 lo:∀ i,i<t→nth cs i<(k:Int)
 hi:∀ i,t≤i→i<q→(k:Int)≤nth cs i
theorem atOk_0 (h:ascTo cs 0 ((n:Int) - 2) q):AtOk cs q 0 0:=⟨Nat.zero_le _,fun i hi=>absurd hi (by omega),fun i _ hi=>(asc_in h hi).1⟩
theorem atOk_t {k t:Nat} (ha:ascTo cs 0 ((n:Int) - 2) q) (h:AtOk cs q k t) (ht:t<q) (e:nth cs t=(k:Int)):isC cs q k=true∧AtOk cs q (k+1) (t+1):=by
 refine ⟨(isC_iff cs k q).2 ⟨t,ht,e⟩,by omega,fun i hi => ?_,fun i hi hq => ?_⟩
 ·by_cases he:i=t
  ·subst he; omega
  ·have:=h.lo i (by omega); omega
 ·have:=asc_lt ha (i:=t) (j:=i) (by omega) hq
  omega
theorem atOk_f {k t:Nat} (ha:ascTo cs 0 ((n:Int) - 2) q) (h:AtOk cs q k t) (e:¬ (t<q∧nth cs t=(k:Int))):isC cs q k=false∧AtOk cs q (k+1) t:=by
 have key:∀ i,t≤i→i<q→(k:Int)<nth cs i:=by
  intro i hi hq;have h1:=h.hi i hi hq;by_cases he:i=t
  ·subst he
   by_cases e2:nth cs i=(k:Int)
   ·exact absurd ⟨hq,e2⟩ e
   ·omega
  ·have h2:=asc_lt ha (i:=t) (j:=i) (by omega) hq
   have h3:=h.hi t (Nat.le_refl _) (by omega);omega
 refine ⟨isC_f fun i hi => ?_,h.le,fun i hi=>by have:=h.lo i hi; omega,fun i hi hq=>by have:=key i hi hq; omega⟩
 by_cases he:i<t
 ·have:=h.lo i he; omega
 ·have:=key i (by omega) hi; omega
end
section
open Go.RowKit Go.Maps
def keyL (m:Int):Lit := .int .i64 m
theorem keyL_ne {a b:Int} (h:a ≠ b):keyL a ≠ keyL b:=by
 intro e;exact h (by simpa [keyL] using e)
def prD (a b:Int):DataW Unit := .agg [.lit (.int .i64 a),.lit (.int .i64 b)]
def prR (v:Value):Option (DataW Unit × List MemPlace) :=
 match v with
 | .agg cs=>match cs.toList with
  | [.int .i64 a,.int .i64 b]=>some (prD a b,[])
  | _=>none
 | _=>none
theorem prR_mk (a b:Int):prR (.agg #[.int .i64 a,.int .i64 b])=some (prD a b,[]):=rfl
theorem prR_inj {v:Value} {ps:List MemPlace} {a b:Int} (h:prR v=some (prD a b,ps)):v = .agg #[.int .i64 a,.int .i64 b]:=by
 unfold prR at h;split at h
 ·rename_i cs
  split at h
  ·rename_i a' b' e
   simp [prD] at h;obtain ⟨⟨rfl,rfl⟩,_⟩:=h;congr 1
   exact Array.ext' (by simpa using e)
  ·cases h
 ·cases h
def MapIs (D:DataW Unit) (F G:Nat→Int):Prop:=∀ j:Nat,D.atKey (keyL (j:Int)) (prD 0 0)=prD (F j) (G j)
def f1W (zs:List Int) (k j:Nat):Int:=if j<k then swt zs j else 0
def f1M (zs:List Int) (k j:Nat):Int:=if j<k then smt zs j else 0
def f2W (zs cs:List Int) (m i j:Nat):Int:=if isC cs i j=true then 0 else f1W zs m j
def f2M (zs cs:List Int) (m i j:Nat):Int:=if isC cs i j=true then 0 else f1M zs m j
theorem mapIs_0 (zs:List Int):MapIs (.map []) (f1W zs 0) (f1M zs 0):=fun j=>by simp [f1W,f1M,DataW.atKey]
theorem mapIs_put {D:DataW Unit} {zs:List Int} {k:Nat} (hD:IsMap D) (h:MapIs D (f1W zs k) (f1M zs k)):MapIs (D.put (keyL (k:Int)) (prD (swt zs k) (smt zs k))) (f1W zs (k+1)) (f1M zs (k+1)):=by
 intro j;by_cases e:j=k
 ·subst e
  rw [atKey_put_same hD (by exact trivial)];simp [f1W,f1M]
 ·rw [atKey_put_other (keyL_ne (by omega)),h j]
  unfold f1W f1M;by_cases h1:j<k
  ·rw [if_pos h1,if_pos h1,if_pos (show j<k+1 by omega),if_pos (show j<k+1 by omega)]
  ·rw [if_neg h1,if_neg h1,if_neg (show ¬ j<k+1 by omega),if_neg (show ¬ j<k+1 by omega)]
theorem mapIs_del {D:DataW Unit} {zs cs:List Int} {m i:Nat} (h:MapIs D (f2W zs cs m i) (f2M zs cs m i)):MapIs (D.del (keyL (nth cs i))) (f2W zs cs m (i+1)) (f2M zs cs m (i+1)):=by
 intro j;by_cases e:nth cs i=(j:Int)
 ·rw [e,atKey_del_same]
  simp [f2W,f2M,isC,e]
 ·rw [atKey_del_other (keyL_ne (fun h=>e h.symm)),h j]
  simp [f2W,f2M,isC,e]
theorem mapIs_12 {D:DataW Unit} {zs:List Int} (cs:List Int) {m:Nat} (h:MapIs D (f1W zs m) (f1M zs m)):MapIs D (f2W zs cs m 0) (f2M zs cs m 0):=fun j=>by
 rw [h j];simp [f2W,f2M,isC]
theorem f2_stg {zs cs:List Int} {m q j:Nat} (hj:j<m):f2W zs cs m q j=stgW zs cs q j∧f2M zs cs m q j=stgM zs cs q j:=by
 simp [f2W,f2M,f1W,f1M,stgW,stgM,hj]
theorem stgL_fill {zs cs:List Int} {q m k:Nat} (hk:k<m):(fun j=>if j=k*2+1 then Value.int .i64 (stgM zs cs q k) else if j=k*2 then Value.int .i64 (stgW zs cs q k) else fill (stgL zs cs q m) (k*2) j)=fill (stgL zs cs q m) ((k+1)*2):=by
 funext j
 have h:=stgL_nth zs cs q hk;have h2:=fill_step2 (stgL zs cs q m) (k*2) j;rw [h.1,h.2] at h2;rw [h2,show (k+1)*2=k*2+2 by omega]
theorem wf_inM {x:Int} (h : -9223372036854775808≤x∧x≤9223372036854775807):(Lit.int .i64 x).wf=true:=by
 simp [Lit.wf,IntKind.min,IntKind.max,IntKind.signed,IntKind.bits];omega
end
end X
namespace X
open Go.RowKit
def StoPost (w:World) (zs:List Int) (n k:Nat) (e:Ending) (w':World):Prop :=
 ∃ A m c L,e = .returned (.agg #[.slice A m c])∧RecsAt w' w'.heap.size 2 A m L∧m≤4∧weightI L m=(if k+1<n then swt zs k else 0)∧overI facX L m=(if k+1<n then smt zs k else 0)∧Below w.heap.size w w'
theorem sto_none:weightI [] 0=0∧overI facX [] 0=0:=by
 have h:stoneB [] 0=false:=stoneB_f1 (by decide);exact ⟨by unfold weightI; rw [overI_f h]; rfl,overI_f h⟩
set_option maxRecDepth 100000 in
set_option maxHeartbeats 3200000 in
theorem sStoneOf_any (A:Option Addr) (n c:Nat) (zs:List Int) (k:Nat) (w:World) (h:RecsAt w w.heap.size 4 A n zs) (hA:archB zs n=true) (hk:k<n) :
  Calls Tryzx.prog 105 #[.agg #[.slice A n c],.int .i64 k] w (StoPost w zs n k):=by
 obtain ⟨hn8,hpt⟩:=archB_out hA;obtain ⟨b,off,rfl,hbB,hcell⟩:=h.2 (by omega);have b0:Below w.heap.size w ((w.alloc (.cells #[.slice (some ⟨b,off,none⟩) n c] 26)).alloc (.cells #[.slice none 0 0] 126)):=((Below.refl _ _).alloc (Nat.le_refl _) _).alloc (by simp) _;have h1:=h.after b0;have bx0:=(rowF_new1S w (.slice (some ⟨b,off,none⟩) n c) 26).alloc (.cells #[.slice none 0 0] 126);have rs0:RowF ((w.alloc (.cells #[.slice (some ⟨b,off,none⟩) n c] 26)).alloc (.cells #[.slice none 0 0] 126)) (w.heap.size+1) 126 1 (fun _ => .slice none 0 0):=by
  have h:=rowF_new1S (w.alloc (.cells #[.slice (some ⟨b,off,none⟩) n c] 26)) (.slice none 0 0) 126;rw [World.size_alloc] at h;exact h
 have e2:IntKind.i64.wrap ((n:Int) - 2)=(n:Int) - 2:=IntWalk.i64_in _ (by omega);by_cases hlt:k+1<n
 ·have hin:inB (k:Int) 0 ((n:Int) - 2)=true:=inB_t (by omega)
  have HC:=Lib.hid (fun j (hj:j<n)=>jtCells hcell hj);go_enter Tryzx.func105,Tryz.ntmps105;go_wp2_with fail
  refine (sArchOk_any _ _ _ zs _ h1 (by omega)).mono ?_;rw [hA];rintro e wr ⟨rfl,hb1⟩;have HB1:=Lib.hid (below_then b0 hb1);have HBX:=Lib.hid (bx0.after hb1);have HRS:=Lib.hid (rs0.after hb1);have hbox:=HBX.out.cell (i:=0) (by omega);have hz:=HB1.out.size;have hgl:=HBX.out.lt;have hgl2:=HRS.out.lt;have hq:=HC.out k (by omega);have hq2:=HC.out (k+1) (by omega);have hbr:b<wr.heap.size:=by omega
  have x0:=(HB1.out.cell (p:=⟨b,off+k*4,none⟩) hbB).trans hq.1;have x1:=(HB1.out.cell (p:=⟨b,off+k*4+1,none⟩) hbB).trans hq.2.1;have x2:=(HB1.out.cell (p:=⟨b,off+k*4+2,none⟩) hbB).trans hq.2.2.1;have x3:=(HB1.out.cell (p:=⟨b,off+k*4+3,none⟩) hbB).trans hq.2.2.2;have y0:=(HB1.out.cell (p:=⟨b,off+(k+1)*4,none⟩) hbB).trans hq2.1;have y1:=(HB1.out.cell (p:=⟨b,off+(k+1)*4+1,none⟩) hbB).trans hq2.2.1;have y2:=(HB1.out.cell (p:=⟨b,off+(k+1)*4+2,none⟩) hbB).trans hq2.2.2.1;have y3:=(HB1.out.cell (p:=⟨b,off+(k+1)*4+3,none⟩) hbB).trans hq2.2.2.2;have i1:IntKind.i64.wrap ((k:Int)+1)=(k:Int)+1:=IntWalk.i64_in _ (by omega);have i2:(k:Int)<(n:Int):=by omega
  have i3:(k:Int)+1<(n:Int):=by omega
  have i4:(0:Int)≤(k:Int)+1:=by omega
  have i5:((k:Int)+1).toNat=k+1:=by omega
  have i6:(0:Int)≤(k:Int):=by omega
  have ne1:wr.heap.size ≠ w.heap.size:=by omega
  have ne2:wr.heap.size ≠ b:=by omega
  have HST:Hid (btwA zs k=btw (nth zs (k*4)) (nth zs (k*4+1)) (nth zs (k*4+2)) (nth zs (k*4+3)) (nth zs ((k+1)*4)) (nth zs ((k+1)*4+1)) (nth zs ((k+1)*4+2)) (nth zs ((k+1)*4+3))):=rfl;have hS:stoneB (btw (nth zs (k*4)) (nth zs (k*4+1)) (nth zs (k*4+2)) (nth zs (k*4+3)) (nth zs ((k+1)*4)) (nth zs ((k+1)*4+1)) (nth zs ((k+1)*4+2)) (nth zs ((k+1)*4+3))) 4=true:=by
   have:=hpt k (by omega);simp only [pairB,Bool.and_eq_true] at this;exact this.1
  clear hq hq2 hb1 h1 h hcell b0 bx0 rs0 hpt hA;obtain ⟨wk,rfl⟩:∃ wk:World,wk=wr:=⟨_,rfl⟩;go_upto_region 3 with (go_at_call 97; refine (l01In_any _ _ _ _).mono ?_; rw [hin]; rintro e w' ⟨rfl,rfl⟩);go_cut [5] (fun s5 wx=>∃ gs gq:Nat,s5 = .pointer (some ⟨gs,0,none⟩)∧wk.heap.size≤gs∧wk.heap.size≤gq∧Hid (Box wx gs (.slice (some ⟨gq,0,none⟩) 4 4))∧Hid (RecsAt wx wx.heap.size 2 (some ⟨gq,0,none⟩) 4 (btwA zs k))∧Hid (Below wk.heap.size wk wx))
  case first =>
   go_region_held3 (fun w'=>w'.cell? ⟨w.heap.size,0,none⟩=some (.slice (some ⟨b,off,none⟩) n c)∧(w'.cell? ⟨b,off+k*4,none⟩=some (.int .i64 (nth zs (k*4)))∧w'.cell? ⟨b,off+k*4+1,none⟩=some (.int .i64 (nth zs (k*4+1)))∧w'.cell? ⟨b,off+k*4+2,none⟩=some (.int .i64 (nth zs (k*4+2)))∧w'.cell? ⟨b,off+k*4+3,none⟩=some (.int .i64 (nth zs (k*4+3))))∧(w'.cell? ⟨b,off+(k+1)*4,none⟩=some (.int .i64 (nth zs ((k+1)*4)))∧w'.cell? ⟨b,off+(k+1)*4+1,none⟩=some (.int .i64 (nth zs ((k+1)*4+1)))∧w'.cell? ⟨b,off+(k+1)*4+2,none⟩=some (.int .i64 (nth zs ((k+1)*4+2)))∧w'.cell? ⟨b,off+(k+1)*4+3,none⟩=some (.int .i64 (nth zs ((k+1)*4+3))))) (first | exact ⟨hbox,⟨x0,x1,x2,x3⟩,⟨y0,y1,y2,y3⟩⟩ | (refine keepA (by assumption) (fun i => ?_) ?_ <;> first | exact cell_alloc_lt (by first | (simp; done) | (simp; omega) | omega) | exact (cell_alloc_lt (by first | (simp; done) | (simp; omega) | omega)).trans (cell_alloc_lt (by first | (simp; done) | (simp; omega) | omega)).symm | exact hcc _ _ (by first | (simp; done) | (simp; omega) | omega) | exact World.cell?_setCell_far _ _ _ _ (by first | (simp; done) | (simp; omega) | omega))) ((go_at_call 96; refine (sBetween_any _ _ _ _ _ _ _ _ _).mono ?_; rintro e w1 ⟨A1,n1,c1,rfl,ht,_,hb1⟩; obtain ⟨rfl,rfl,gq,rfl,hrq,hgq⟩:=ht hS; rw [hS]; obtain ⟨hcc,hff⟩:=bcell hb1; have k1:=hb1.size; simp at k1; have k2:w1.heap.size ≠ w.heap.size:=(by omega); have k3:w1.heap.size ≠ b:=(by omega)))
   ·go_wp2_with fail
    go_meet
    have hzk:=hb1.size;simp at hzk;have hgl2:=hrq.lt;simp at hgq;exact ⟨w1.heap.size,gq,rfl,by omega,by omega,Lib.hid (Box.new _ _ _),Lib.hid ((show RowF (w1.alloc _) gq 43 (4*2) (ints (btwA zs k)) from hrq.alloc _).recs rfl),Lib.hid (((below_drewN (Below.refl wk.heap.size wk) 1).trans (hb1.mono (by simp))).alloc (by omega) _)⟩
   ·go_wp2_with fail
    go_meet
    have hzk:=hb1.size;simp at hzk;have hgl2:=hrq.lt;have hrw:=(rowF_new1S wk.drew (.slice none 0 0) 126).after hb1;simp at hgq;exact ⟨wk.heap.size,gq,rfl,by omega,by omega,Lib.hid (box_setS _ hrw),Lib.hid ((show RowF (w1.setCell _ _) gq 43 (4*2) (ints (btwA zs k)) from hrq.set_other (by simp; omega) _).recs rfl),Lib.hid ((((below_drewN (Below.refl wk.heap.size wk) 1).alloc (Nat.le_refl _) _).trans (hb1.mono (by simp))).setCell (by simp) _)⟩
  case rest =>
   clear x0 x1 x2 x3 y0 y1 y2 y3 hbox;obtain ⟨gs,gq,rfl,hgs,hgq,HBXS,HRQ,HBW⟩:=hcut;have HRSc:=Lib.hid (HRS.out.after HBW.out);have c0:=HRSc.out.cell (i:=0) (by omega);have f0:=HRSc.out.frozen 0;have bxc:=HBXS.out.1;have HB3:Hid (Below w.heap.size w (wc.setCell ⟨w.heap.size+1,0,none⟩ (.slice (some ⟨gq,0,none⟩) 4 4))):=Lib.hid ((HB1.out.trans (HBW.out.mono hz)).setCell (by simp) _);have hr0:(wc.setCell ⟨w.heap.size+1,0,none⟩ (.slice (some ⟨gq,0,none⟩) 4 4)).cell? ⟨w.heap.size+1,0,none⟩=some (.slice (some ⟨gq,0,none⟩) 4 4):=(box_setS _ HRSc.out).1;have HRQ3:Hid (RecsAt (wc.setCell ⟨w.heap.size+1,0,none⟩ (.slice (some ⟨gq,0,none⟩) 4 4)) (wc.setCell ⟨w.heap.size+1,0,none⟩ (.slice (some ⟨gq,0,none⟩) 4 4)).heap.size 2 (some ⟨gq,0,none⟩) 4 (btwA zs k)):=by
    refine ⟨HRQ.out.1,fun h0 => ?_⟩;obtain ⟨b',off',e,hb',hc⟩:=HRQ.out.2 h0;have e':gq=b':=by simp at e; exact e.1
    exact ⟨b',off',e,by simpa using hb',fun i hi=>(World.cell?_setCell_far _ _ _ _ (by simp; omega)).trans (hc i hi)⟩
   go_wp2;refine bodyPost_ret (v := .agg #[.slice (some ⟨gq,0,none⟩) 4 4]) (by simp [results,Tryz.results105,go_sem, *]) rfl ?_;exact ⟨some ⟨gq,0,none⟩,4,4,btwA zs k,rfl,HRQ3.out,by omega,by rw [if_pos hlt]; rfl,by rw [if_pos hlt]; rfl,HB3.out⟩
 ·have hin:inB (k:Int) 0 ((n:Int) - 2)=false:=by
   cases h:inB (k:Int) 0 ((n:Int) - 2)
   ·rfl
   ·have:=inB_iff.1 h; omega
  go_enter Tryzx.func105,Tryz.ntmps105;go_wp2_with fail
  refine (sArchOk_any _ _ _ zs _ h1 (by omega)).mono ?_;rw [hA];rintro e wr ⟨rfl,hb1⟩;have HB1:=Lib.hid (below_then b0 hb1);have HBX:=Lib.hid (bx0.after hb1);have HRS:=Lib.hid (rs0.after hb1);have hbox:=HBX.out.cell (i:=0) (by omega);have hz:=HB1.out.size;have hgl:=HBX.out.lt;have c0:=HRS.out.cell (i:=0) (by omega);have f0:=HRS.out.frozen 0;have HB3:Hid (Below w.heap.size w (wr.setCell ⟨w.heap.size+1,0,none⟩ (.slice none 0 0))):=Lib.hid (HB1.out.setCell (by simp) _);have hr0:(wr.setCell ⟨w.heap.size+1,0,none⟩ (.slice none 0 0)).cell? ⟨w.heap.size+1,0,none⟩=some (.slice none 0 0):=(box_setS _ HRS.out).1;clear hb1 h1 h hcell b0 bx0 rs0 hpt hA;go_wp2_with (go_at_call 97; refine (l01In_any _ _ _ _).mono ?_; rw [hin]; rintro e w' ⟨rfl,rfl⟩);refine bodyPost_ret (v := .agg #[.slice none 0 0]) (by simp [results,Tryz.results105,go_sem, *]) rfl ?_;exact ⟨none,0,0,[],rfl,RecsAt.nil,by omega,by rw [if_neg hlt]; exact sto_none.1,by rw [if_neg hlt]; exact sto_none.2,HB3.out⟩
section
open Go.RowKit
structure SSp (w wr:World) (va:Value) (zs xs:List Int) (k:Nat) (v5:Value):Prop where
 arch:RowF wr w.heap.size 26 1 (fun _=>va)
 own:OwnR wr (w.heap.size+1) 130 4 v5 (k*2) (rowTo zs (sumW xs) (sumM xs) k)
 below:Below w.heap.size w wr
theorem SSp.after {w wr w':World} {va:Value} {zs xs:List Int} {k:Nat} {v5:Value} (h:SSp w wr va zs xs k v5) (hb:Below wr.heap.size wr w'):SSp w w' va zs xs k v5:=⟨h.arch.after hb,h.own.below hb,h.below.trans (hb.mono h.below.size)⟩
set_option maxRecDepth 100000 in
set_option maxHeartbeats 6400000 in
theorem sStageRows_any (A:Option Addr) (n c:Nat) (zs:List Int) (B:Option Addr) (q d:Nat) (cs:List Int) (w:World) (h:RecsAt w w.heap.size 4 A n zs) (hn:n≤1048576) (hi:IntsAt w w.heap.size B q cs) (hq:q≤1048576) :
  Calls Tryzx.prog 70 #[.agg #[.slice A n c],.slice B q d] w (RowsPost w (stgN zs n cs q) (stgR zs n cs q)):=by
 have hs0:(w.alloc (.cells #[.slice A n c] 26)).heap.size=w.heap.size+1:=World.size_alloc _ _;have b0:Below w.heap.size w ((w.alloc (.cells #[.slice A n c] 26)).alloc (.cells #[] 130)):=((Below.refl _ _).alloc (Nat.le_refl _) _).alloc (by simp) _;have h1:=h.after b0;have l1:=hi.after b0;have r0:=(rowF1 w (.slice A n c) 26).alloc (.cells #[] 130);have o0:OwnR ((w.alloc (.cells #[.slice A n c] 26)).alloc (.cells #[] 130)) (w.heap.size+1) 130 4 (.slice (some ⟨w.heap.size+1,0,none⟩) 0 0) 0 []:=by
  have h:=OwnR.new (w.alloc (.cells #[.slice A n c] 26)) 130 4;rw [hs0] at h;exact h
 have HB0:=Lib.hid b0;have HO0:=Lib.hid o0;have HR0:=Lib.hid r0;cases hL:carriedB zs n cs q
 ·have HF:=Lib.hid (stg_f hL)
  clear b0 o0 r0 hs0 h hi;go_enter Tryzx.func70,Tryz.ntmps70;go_wp2_with fail
  refine (sCarriedOk_any _ _ _ zs _ _ _ cs _ h1 hn l1 hq).mono ?_;rw [hL];rintro e w1 ⟨rfl,hb1⟩;have HO1:=Lib.hid (HO0.out.below hb1);have HB1:=Lib.hid (HB0.out.trans (hb1.mono HB0.out.size));clear hb1;go_wp2;go_ret;exact ⟨_,rfl,by rw [HF.out.1,HF.out.2]; exact HO1.out.weaken (by omega),HB1.out⟩
 ·have HT:=Lib.hid (stg_t hL)
  obtain ⟨hA,hasc⟩:=carriedB_out hL;have hn8:=(archB_out hA).1;have hwm:=wmok_stg cs q (n - 1) hA;have HJB:=Lib.hid (fun k (hk:k<n)=>jBd_of hA hwm hk);have HWB:=Lib.hid (fun k=>sumStg_bd zs cs q (n - 1) k);have HSTP:=Lib.hid (fun k (hk:k<n)=>stg_step (zs:=zs) (cs:=cs) (q:=q) (show 0<n by omega) hk);have HASC:=Lib.hid hasc;have HA:=Lib.hid hA;have HH:=Lib.hid h;have HI:=Lib.hid hi;obtain ⟨b,off,rfl,hbB,hcell⟩:=h.2 (by omega);have HC:=Lib.hid (fun j (hj:j<n)=>jtCells hcell hj);clear b0 o0 r0 hs0 h hi hcell hA hwm hasc;go_enter Tryzx.func70,Tryz.ntmps70;go_wp2_with fail
  refine (sCarriedOk_any _ _ _ zs _ _ _ cs _ h1 hn l1 hq).mono ?_;rw [hL];rintro e w1 ⟨rfl,hb1⟩;have HST:Hid (SSp w w1 (.slice (some ⟨b,off,none⟩) n c) zs (stgL zs cs q (n - 1)) 0 (.slice (some ⟨w.heap.size+1,0,none⟩) 0 0)):=⟨HR0.out.after hb1,HO0.out.below hb1,HB0.out.trans (hb1.mono HB0.out.size)⟩;have HAT0:=Lib.hid (atOk_0 HASC.out);clear hb1 h1 l1 HO0 HB0 HR0 hL;generalize hxs:stgL zs cs q (n - 1)=xs at *
  have HXS:=Lib.hid hxs;clear hxs;go_wp2;go_loopw [5,6,7,8,9] (fun v5 v6 v7 v8 v9 wr=>∃ (k t:Nat),k≤n∧v9 = .int .i64 k∧v8 = .int .i64 t∧v6 = .int .i64 (sumW xs k)∧v7 = .int .i64 (sumM xs k)∧Hid (AtOk cs q k t)∧Hid (SSp w wr (.slice (some ⟨b,off,none⟩) n c) zs xs k v5)) (fun _ _ _ _ v9 _=>n - (intOf v9).toNat)
  case atStart=>exact ⟨0,0,Nat.zero_le _,rfl,rfl,rfl,rfl,HAT0,HST⟩
  case round =>
   clear HST HAT0;obtain ⟨k,t,hk,rfl,rfl,rfl,rfl,HAO,HR⟩:=hrel;have hz:=HR.out.below.size;have a0:wr.cell? ⟨w.heap.size,0,none⟩=some (.slice (some ⟨b,off,none⟩) n c):=HR.out.arch.cell (by omega);have hal:=HR.out.arch.lt;by_cases hlt:k<n
   ·have ki:(k:Int)<(n:Int):=by omega
    have k0:(0:Int)≤(k:Int):=by omega
    have hq':=HC.out k hlt;have x0:wr.cell? ⟨b,off+k*4,none⟩=some (.int .i64 (nth zs (k*4))):=(HR.out.below.cell (by exact hbB)).trans hq'.1;have x1:wr.cell? ⟨b,off+k*4+1,none⟩=some (.int .i64 (nth zs (k*4+1))):=(HR.out.below.cell (by exact hbB)).trans hq'.2.1;have x2:wr.cell? ⟨b,off+k*4+2,none⟩=some (.int .i64 (nth zs (k*4+2))):=(HR.out.below.cell (by exact hbB)).trans hq'.2.2.1;have x3:wr.cell? ⟨b,off+k*4+3,none⟩=some (.int .i64 (nth zs (k*4+3))):=(HR.out.below.cell (by exact hbB)).trans hq'.2.2.2;have HX:Hid (rowTo zs (sumW xs) (sumM xs) k ++ [nth zs (k*4+1),-nth zs (k*4),1,sumM xs k - nth zs (k*4)*sumW xs k,-nth zs (k*4+3),nth zs (k*4+2),-1,nth zs (k*4+2)*sumW xs k - sumM xs k]=rowTo zs (sumW xs) (sumM xs) (k+1)):=rfl;obtain ⟨e1,e2,e3,e4,e5,e6⟩:=jWraps (HJB.out k hlt);have HS1:=Lib.hid (HSTP.out k hlt);have hwk:=HWB.out k;have hwk1:=HWB.out (k+1);have HO:=Lib.hid HR.out.own;have HAr:=Lib.hid HR.out.arch;have HBl:=Lib.hid HR.out.below;have hbl:b<wr.heap.size:=by omega
    clear hq' HR;generalize hWk:sumW xs k=lw at *
    generalize hMk:sumM xs k=lm at *
    clear hWk hMk;generalize nth zs (k*4)=ix at *
    generalize nth zs (k*4+1)=iy at *
    generalize nth zs (k*4+2)=ox at *
    generalize nth zs (k*4+3)=oy at *
    have p0:=(rowC_new2 wr ix iy 43).alloc (.cells #[.int .i64 ox,.int .i64 oy] 43);have p1:RowF ((wr.alloc (.cells #[.int .i64 ix,.int .i64 iy] 43)).alloc (.cells #[.int .i64 ox,.int .i64 oy] 43)) (wr.heap.size+1) 43 2 (ints [ox,oy]):=by
     have h:=rowC_new2 (wr.alloc (.cells #[.int .i64 ix,.int .i64 iy] 43)) ox oy 43;rw [World.size_alloc] at h;exact h
    have c0:((wr.alloc (.cells #[.int .i64 ix,.int .i64 iy] 43)).alloc (.cells #[.int .i64 ox,.int .i64 oy] 43)).cell? ⟨wr.heap.size,0,none⟩=some (.int .i64 ix):=p0.cell (i:=0) (by omega);have c1:((wr.alloc (.cells #[.int .i64 ix,.int .i64 iy] 43)).alloc (.cells #[.int .i64 ox,.int .i64 oy] 43)).cell? ⟨wr.heap.size,1,none⟩=some (.int .i64 iy):=p0.cell (i:=1) (by omega);have d0:((wr.alloc (.cells #[.int .i64 ix,.int .i64 iy] 43)).alloc (.cells #[.int .i64 ox,.int .i64 oy] 43)).cell? ⟨wr.heap.size+1,0,none⟩=some (.int .i64 ox):=p1.cell (i:=0) (by omega);have d1:((wr.alloc (.cells #[.int .i64 ix,.int .i64 iy] 43)).alloc (.cells #[.int .i64 ox,.int .i64 oy] 43)).cell? ⟨wr.heap.size+1,1,none⟩=some (.int .i64 oy):=p1.cell (i:=1) (by omega);have HU:=Lib.hid (show Below (w.heap.size+1) wr ((wr.alloc (.cells #[.int .i64 ix,.int .i64 iy] 43)).alloc (.cells #[.int .i64 ox,.int .i64 oy] 43)) from ((Below.refl (w.heap.size+1) wr).alloc (by omega) _).alloc (by simp; omega) _)
    have HOA:=Lib.hid ((HO.out.alloc (.cells #[.int .i64 ix,.int .i64 iy] 43)).alloc (.cells #[.int .i64 ox,.int .i64 oy] 43));have hww:((wr.alloc (.cells #[.int .i64 ix,.int .i64 iy] 43)).alloc (.cells #[.int .i64 ox,.int .i64 oy] 43)).heap.size=wr.heap.size+2:=by simp
    have HWW:=Lib.hid hww;clear p0 p1 hww;have HAN:Hid (∀ w3,Below (w.heap.size+1) wr w3→RowF w3 w.heap.size 26 1 (fun _ => .slice (some ⟨b,off,none⟩) n c)∧Below w.heap.size w w3):=fun w3 hb3=>⟨HAr.out.below hb3 (by omega),HBl.out.trans (hb3.mono (by omega))⟩
    go_upto_region 12 with fail
    generalize hwx:((wr.alloc (.cells #[.int .i64 ix,.int .i64 iy] 43)).alloc (.cells #[.int .i64 ox,.int .i64 oy] 43))=wx at *
    have hwz:wr.heap.size+2≤wx.heap.size:=Nat.le_of_eq HWW.out.symm;clear hwx x0 x1 x2 x3 a0;have HOB:=Lib.hid (HOA.out.alloc (.cells #[.int .i64 iy,.int .i64 (-ix),.int .i64 1,.int .i64 (lm - ix*lw),.int .i64 (-oy),.int .i64 ox,.int .i64 (-1),.int .i64 (ox*lw - lm)] 130));have HUB:=Lib.hid (HU.out.alloc (by omega) (.cells #[.int .i64 iy,.int .i64 (-ix),.int .i64 1,.int .i64 (lm - ix*lw),.int .i64 (-oy),.int .i64 ox,.int .i64 (-1),.int .i64 (ox*lw - lm)] 130));have HCN:Hid (∀ i,i<2*4→(wx.alloc (.cells #[.int .i64 iy,.int .i64 (-ix),.int .i64 1,.int .i64 (lm - ix*lw),.int .i64 (-oy),.int .i64 ox,.int .i64 (-1),.int .i64 (ox*lw - lm)] 130)).cell? ⟨wx.heap.size,i,none⟩=some (.int .i64 (nth [iy,-ix,1,lm - ix*lw,-oy,ox,-1,ox*lw - lm] i))):=fun i hi=>(rowC_new8 wx iy (-ix) 1 (lm - ix*lw) (-oy) ox (-1) (ox*lw - lm) 130).cell hi
    have hW0:w.heap.size+1≤(wx.alloc (.cells #[.int .i64 iy,.int .i64 (-ix),.int .i64 1,.int .i64 (lm - ix*lw),.int .i64 (-oy),.int .i64 ox,.int .i64 (-1),.int .i64 (ox*lw - lm)] 130)).heap.size:=by simp; omega
    by_cases hc:t<q∧nth cs t=(k:Int)
    ·obtain ⟨htq,hck⟩:=hc
     have hAT:=atOk_t HASC.out HAO.out htq hck;have HAT1:=Lib.hid hAT.2;have HS2:Hid (sumW xs (k+1)=lw∧sumM xs (k+1)=lm):=by
      show _∧_
      have h:=HS1.out;rw [hAT.1] at h;simpa using h
     obtain ⟨bi,oi,rfl,hbi,hci⟩:=HI.out.2 (show 0<q by omega);have HCI:=Lib.hid (fun (w3:World) (hb3:Below w.heap.size w w3)=>(hb3.cell (p:=⟨bi,oi+t,none⟩) hbi).trans (hci t htq));have ti:(t:Int)<(q:Int):=by omega
     have t0:(0:Int)≤(t:Int):=by omega
     have hck':(nth cs t == (k:Int))=true:=by simpa using hck
     have y3:∀ w3,Below (w.heap.size+1) wr w3→w3.cell? ⟨bi,oi+t,none⟩=some (.int .i64 (k:Int)):=fun w3 hb3=>by rw [← hck]; exact HCI.out w3 (HAN.out w3 hb3).2
     have Y3:=Lib.hid y3;clear hAT hci hck y3;go_wp2_with (at_builtin; refine wpList_appR _ rfl (.tmp 38) (.tmp 63) 72 rfl (w.heap.size+1) 130 4 32 #[.int .i64 0,.int .i64 0,.int .i64 0,.int .i64 0] Tryzx.underlying72 infoRow rfl (by decide) (by decide) _ (k*2) _ rfl (by exact HOB.out) wx.heap.size 2 2 [iy,-ix,1,lm - ix*lw,-oy,ox,-1,ox*lw - lm] rfl rfl (by exact HCN.out) (by omega) (w.heap.size+1) wr (by exact HUB.out) (Nat.le_refl _) hW0 _ HX.out ?_ (by omega); intro g' cap' w3 hown3 hb3; have y3:=Y3.out w3 hb3; have a3:w3.cell? ⟨w.heap.size,0,none⟩=some (.slice (some ⟨b,off,none⟩) n c):=(HAN.out w3 hb3).1.cell (by omega));have HR3:Hid (SSp w w3 (.slice (some ⟨b,off,none⟩) n c) zs xs (k+1) (.slice (some ⟨g',0,none⟩) (k*2+2) cap')):=⟨(HAN.out w3 hb3).1,by rw [show (k+1)*2=k*2+2 by omega]; exact hown3,(HAN.out w3 hb3).2⟩;clear hown3 hb3 c0 c1 d0 d1;go_wp2;go_roundw
     case rel=>exact ⟨k+1,t+1,by omega,by go_num,by go_num,by rw [HS2.out.1],by rw [HS2.out.2],HAT1,HR3⟩
     case measure=>simp [intOf]; omega
    ·have hAT:=atOk_f HASC.out HAO.out hc
     have HAT1:=Lib.hid hAT.2;have HFAL:=Lib.hid hAT.1;clear hAT;by_cases htq:t<q
     ·have hck:¬ nth cs t=(k:Int):=fun e=>hc ⟨htq,e⟩
      obtain ⟨bi,oi,rfl,hbi,hci⟩:=HI.out.2 (show 0<q by omega);have HCI:=Lib.hid (fun (w3:World) (hb3:Below w.heap.size w w3)=>(hb3.cell (p:=⟨bi,oi+t,none⟩) hbi).trans (hci t htq));have ti:(t:Int)<(q:Int):=by omega
      have t0:(0:Int)≤(t:Int):=by omega
      have hck':(nth cs t == (k:Int))=false:=by simpa using hck
      have Y3:=Lib.hid (fun w3 (hb3:Below (w.heap.size+1) wr w3)=>HCI.out w3 (HAN.out w3 hb3).2);clear hci hck hc;go_wp2_with (at_builtin; refine wpList_appR _ rfl (.tmp 38) (.tmp 63) 72 rfl (w.heap.size+1) 130 4 32 #[.int .i64 0,.int .i64 0,.int .i64 0,.int .i64 0] Tryzx.underlying72 infoRow rfl (by decide) (by decide) _ (k*2) _ rfl (by exact HOB.out) wx.heap.size 2 2 [iy,-ix,1,lm - ix*lw,-oy,ox,-1,ox*lw - lm] rfl rfl (by exact HCN.out) (by omega) (w.heap.size+1) wr (by exact HUB.out) (Nat.le_refl _) hW0 _ HX.out ?_ (by omega); intro g' cap' w3 hown3 hb3; have y3:=Y3.out w3 hb3; have a3:w3.cell? ⟨w.heap.size,0,none⟩=some (.slice (some ⟨b,off,none⟩) n c):=(HAN.out w3 hb3).1.cell (by omega));have HR3:Hid (SSp w w3 (.slice (some ⟨b,off,none⟩) n c) zs xs (k+1) (.slice (some ⟨g',0,none⟩) (k*2+2) cap')):=⟨(HAN.out w3 hb3).1,by rw [show (k+1)*2=k*2+2 by omega]; exact hown3,(HAN.out w3 hb3).2⟩;clear hown3 hb3 c0 c1 d0 d1;have r3:RecsAt w3 w3.heap.size 4 (some ⟨b,off,none⟩) n zs:=(HH.out.below HR3.out.below).mono HR3.out.below.size;refine (sStoneOf_any _ _ _ zs k _ r3 HA.out hlt).mono ?_;rintro e w4 ⟨A4,m4,c4,L4,rfl,hr4,hm4,ew4,em4,hb4⟩;have HR4:=Lib.hid (HR3.out.after hb4);have hwd:=weightI_bd L4 m4;have hmd:=overI_bd facX_ok L4 m4;have HS2:Hid (sumW xs (k+1)=lw+weightI L4 m4∧sumM xs (k+1)=lm+overI facX L4 m4):=by
       show _∧_
       have h:=HS1.out;rw [HFAL.out] at h;rw [ew4,em4];simpa using h
      clear hb4 a3 r3 ew4 em4;have hba:Below w4.heap.size w4 (w4.alloc (.cells #[.slice A4 m4 c4] 126)):=(Below.refl _ _).alloc (Nat.le_refl _) _;have BX4:Box (w4.alloc (.cells #[.slice A4 m4 c4] 126)) w4.heap.size (.slice A4 m4 c4):=Box.new _ _ _;have s4:=hr4.after hba;have HR5:=Lib.hid (HR4.out.after hba);have b4:=BX4.1;clear hr4 hba;rw [HS2.out.1,HS2.out.2] at hwk1;have es1:IntKind.i64.wrap (lw+weightI L4 m4)=lw+weightI L4 m4:=IntWalk.i64_in _ (by omega);have es2:IntKind.i64.wrap (lm+overI facX L4 m4)=lm+overI facX L4 m4:=IntWalk.i64_in _ (by omega);go_wp2_with (first
       | (go_at_call 106; refine (sWeightOf_any _ _ _ L4 _ (by exact s4) (by omega)).mono ?_; rintro e w5 ⟨rfl,hb5⟩; have b5:=(BX4.after hb5).1; have s5:=s4.after hb5; have HR6:=Lib.hid (HR5.out.after hb5); clear hb5)
       | (go_at_call 107; refine (sMomentOf_any _ _ _ L4 _ (by exact s5) (by omega)).mono ?_; rintro e w6 ⟨rfl,hb6⟩; have HR7:=Lib.hid (HR6.out.after hb6); clear hb6))
      go_roundw
      case rel=>exact ⟨k+1,t,by omega,by go_num,rfl,by rw [HS2.out.1],by rw [HS2.out.2],HAT1,HR7⟩
      case measure=>simp [intOf]; omega
     ·have ti:¬ (t:Int)<(q:Int):=by omega
      clear hc;go_wp2_with (at_builtin; refine wpList_appR _ rfl (.tmp 38) (.tmp 63) 72 rfl (w.heap.size+1) 130 4 32 #[.int .i64 0,.int .i64 0,.int .i64 0,.int .i64 0] Tryzx.underlying72 infoRow rfl (by decide) (by decide) _ (k*2) _ rfl (by exact HOB.out) wx.heap.size 2 2 [iy,-ix,1,lm - ix*lw,-oy,ox,-1,ox*lw - lm] rfl rfl (by exact HCN.out) (by omega) (w.heap.size+1) wr (by exact HUB.out) (Nat.le_refl _) hW0 _ HX.out ?_ (by omega); intro g' cap' w3 hown3 hb3; have a3:w3.cell? ⟨w.heap.size,0,none⟩=some (.slice (some ⟨b,off,none⟩) n c):=(HAN.out w3 hb3).1.cell (by omega));have HR3:Hid (SSp w w3 (.slice (some ⟨b,off,none⟩) n c) zs xs (k+1) (.slice (some ⟨g',0,none⟩) (k*2+2) cap')):=⟨(HAN.out w3 hb3).1,by rw [show (k+1)*2=k*2+2 by omega]; exact hown3,(HAN.out w3 hb3).2⟩;clear hown3 hb3 c0 c1 d0 d1;have r3:RecsAt w3 w3.heap.size 4 (some ⟨b,off,none⟩) n zs:=(HH.out.below HR3.out.below).mono HR3.out.below.size;refine (sStoneOf_any _ _ _ zs k _ r3 HA.out hlt).mono ?_;rintro e w4 ⟨A4,m4,c4,L4,rfl,hr4,hm4,ew4,em4,hb4⟩;have HR4:=Lib.hid (HR3.out.after hb4);have hwd:=weightI_bd L4 m4;have hmd:=overI_bd facX_ok L4 m4;have HS2:Hid (sumW xs (k+1)=lw+weightI L4 m4∧sumM xs (k+1)=lm+overI facX L4 m4):=by
       show _∧_
       have h:=HS1.out;rw [HFAL.out] at h;rw [ew4,em4];simpa using h
      clear hb4 a3 r3 ew4 em4;have hba:Below w4.heap.size w4 (w4.alloc (.cells #[.slice A4 m4 c4] 126)):=(Below.refl _ _).alloc (Nat.le_refl _) _;have BX4:Box (w4.alloc (.cells #[.slice A4 m4 c4] 126)) w4.heap.size (.slice A4 m4 c4):=Box.new _ _ _;have s4:=hr4.after hba;have HR5:=Lib.hid (HR4.out.after hba);have b4:=BX4.1;clear hr4 hba;rw [HS2.out.1,HS2.out.2] at hwk1;have es1:IntKind.i64.wrap (lw+weightI L4 m4)=lw+weightI L4 m4:=IntWalk.i64_in _ (by omega);have es2:IntKind.i64.wrap (lm+overI facX L4 m4)=lm+overI facX L4 m4:=IntWalk.i64_in _ (by omega);go_wp2_with (first
       | (go_at_call 106; refine (sWeightOf_any _ _ _ L4 _ (by exact s4) (by omega)).mono ?_; rintro e w5 ⟨rfl,hb5⟩; have b5:=(BX4.after hb5).1; have s5:=s4.after hb5; have HR6:=Lib.hid (HR5.out.after hb5); clear hb5)
       | (go_at_call 107; refine (sMomentOf_any _ _ _ L4 _ (by exact s5) (by omega)).mono ?_; rintro e w6 ⟨rfl,hb6⟩; have HR7:=Lib.hid (HR6.out.after hb6); clear hb6))
      go_roundw
      case rel=>exact ⟨k+1,t,by omega,by go_num,rfl,by rw [HS2.out.1],by rw [HS2.out.2],HAT1,HR7⟩
      case measure=>simp [intOf]; omega
   ·obtain rfl:n=k:=by omega
    have HU:Hid (rowTo zs (sumW xs) (sumM xs) n ++ [-1,0,0,0]=rowsL zs (sumW xs) (sumM xs) n):=rfl;have HO:=Lib.hid (HR.out.own.alloc (.cells #[.int .i64 (-1),.int .i64 0,.int .i64 0,.int .i64 0] 130));have HBA:=Lib.hid (HR.out.below.alloc hz (.cells #[.int .i64 (-1),.int .i64 0,.int .i64 0,.int .i64 0] 130));have HCN:Hid (∀ i,i<1*4→(wr.alloc (.cells #[.int .i64 (-1),.int .i64 0,.int .i64 0,.int .i64 0] 130)).cell? ⟨wr.heap.size,i,none⟩=some (.int .i64 (nth [-1,0,0,0] i))):=fun i hi=>(rowC_new4 wr (-1) 0 0 0 130).cell hi
    go_wp2_with (at_builtin; refine wpList_appR _ rfl (.tmp 90) (.tmp 92) 72 rfl (w.heap.size+1) 130 4 32 #[.int .i64 0,.int .i64 0,.int .i64 0,.int .i64 0] Tryzx.underlying72 infoRow rfl (by decide) (by decide) _ (n*2) _ rfl (by exact HO.out) wr.heap.size 1 1 [-1,0,0,0] rfl rfl (by exact HCN.out) (by omega) w.heap.size w (by exact HBA.out) (by omega) (by simp; omega) _ HU.out ?_ (by omega); intro g' cap' w3 hown3 hb3);have HO3:=Lib.hid hown3;have HB3:=Lib.hid hb3;clear hown3 hb3;go_wp2;go_ret;exact ⟨_,rfl,by rw [HT.out.1,HT.out.2]; exact HO3.out.weaken (by omega),HB3.out⟩
end
end X
end Go.Proofs.YtpblihmhpalkfaaGreat
