/-
  Texts that the law stands on, part 1.
-/
import Derived.Test.YtbpnbhemdbgmjaaGreatC1
import Derived.Test.YtbpnbhemdbgmjaaGreatC11
import Derived.Test.YtbpnbhemdbgmjaaGreatC12
import Derived.Test.YtbpnbhemdbgmjaaGreatC13
import Derived.Test.YtbpnbhemdbgmjaaGreatC17
import Derived.Test.YtbpnbhemdbgmjaaGreatC22
import Derived.Test.YtbpnbhemdbgmjaaGreatF1
import Derived.Test.YtbpnbhemdbgmjaaGreatF2
import Derived.Test.YtbpnbhemdbgmjaaGreatF3
import Derived.Test.YtbpnbhemdbgmjaaGreatProg
import Derived.KernelRfl
import Derived.Maps.OwnSet
import Derived.Deep.RegionLaw
import Derived.Maps.Range
import Derived.Maps.AppendAt
set_option maxRecDepth 100000
set_option linter.unusedVariables false
set_option linter.unusedSimpArgs false
namespace Go.Proofs.YtbpnbhemdbgmjaaGreat
section
open Go.ChangeShapes Go.WideShapes Go.ChangeAt Go.RowKit
section
variable {w w' : World} {B B' K n : Nat} {A : Option Addr} {L : List (Nat × List Int)}
theorem NestAt.keep (h:NestAt w B K A n L) (hk:∀ p:Addr,p.block<B→w'.cell? p=w.cell? p):NestAt w' B K A n L :=
 ⟨h.1,fun hn=>by
  obtain ⟨b,off,e,hb,hc⟩:=h.2 hn;refine ⟨b,off,e,hb,fun i hi => ?_⟩;obtain ⟨Ai,ci,h1,h2,h3⟩:=hc i hi;exact ⟨Ai,ci,(hk ⟨b,off+i,none⟩ hb).trans h1,h2.keep hk,h3⟩⟩
theorem NestAt.below (h:NestAt w B K A n L) (hb:Below B w w'):NestAt w' B K A n L:=h.keep fun _ hp=>hb.cell hp
theorem NestAt.after (h:NestAt w w.heap.size K A n L) (hb:Below w.heap.size w w'):NestAt w' w'.heap.size K A n L:=(h.below hb).mono hb.size
theorem NestAt.alloc (h:NestAt w B K A n L) (hB:B≤w.heap.size) (o:Obj):NestAt (w.alloc o) B K A n L:=h.keep fun p hp=>World.cell?_alloc_lt w o p (by omega)
end
end
section
open Go.RowKit
section
variable {g : Nat} {w w' w'' : World}
end
def marks (f:Nat→Value) (k0:Int) (m j:Nat):Value:=if j<m then .int .i64 (k0+j) else f j
theorem marks_0 (f:Nat→Value) (k0:Int) (j:Nat):marks f k0 0 j=f j:=by simp [marks]
theorem marks_step (f:Nat→Value) (k0:Int) (m j:Nat):(if j=m then Value.int .i64 (k0+(m:Int)) else marks f k0 m j)=marks f k0 (m+1) j:=by
 unfold marks;by_cases h:j=m
 ·subst h; simp
 ·by_cases h':j<m
  ·simp [h,h',show j<m+1 by omega]
  ·simp [h,h',show ¬ j<m+1 by omega]
def IntRow (f:Nat→Value):Prop:=∀ j,∃ z:Int,f j = .int .i64 z
theorem intRow_ints (zs:List Int):IntRow (ints zs):=fun _=>⟨_,rfl⟩
end
end Go.Proofs.YtbpnbhemdbgmjaaGreat
section
namespace Go.Proofs.Tryzx
theorem func13:prog.funcs[13]?=some Tryz.f13:=by kernel_rfl
theorem func52:prog.funcs[52]?=some Tryz.f52:=by kernel_rfl
theorem func53:prog.funcs[53]?=some Tryz.f53:=by kernel_rfl
theorem func54:prog.funcs[54]?=some Tryz.f54:=by kernel_rfl
theorem func59:prog.funcs[59]?=some Tryz.f59:=by kernel_rfl
theorem func60:prog.funcs[60]?=some Tryz.f60:=by kernel_rfl
theorem func97:prog.funcs[97]?=some Tryz.f97:=by kernel_rfl
theorem func98:prog.funcs[98]?=some Tryz.f98:=by kernel_rfl
theorem func99:prog.funcs[99]?=some Tryz.f99:=by kernel_rfl
theorem func104:prog.funcs[104]?=some Tryz.f104:=by kernel_rfl
theorem func137:prog.funcs[137]?=some Tryz.f137:=by kernel_rfl
theorem underlying98:prog.underlying 98=some (Go.TypeDesc.int Go.IntKind.u64):=(underlying_x 98).trans Tryz.underlying98
theorem underlying112:prog.underlying 112=some (Go.TypeDesc.map 98 3):=(underlying_x 112).trans Tryz.underlying112
@[simp] theorem call13 (args w):Sem.run prog (callFunc 13 args) w = .ok (.enter 13 args) w:=call_x 13 args w func13
@[simp] theorem call52 (args w):Sem.run prog (callFunc 52 args) w = .ok (.enter 52 args) w:=call_x 52 args w func52
@[simp] theorem call53 (args w):Sem.run prog (callFunc 53 args) w = .ok (.enter 53 args) w:=call_x 53 args w func53
@[simp] theorem call54 (args w):Sem.run prog (callFunc 54 args) w = .ok (.enter 54 args) w:=call_x 54 args w func54
@[simp] theorem call59 (args w):Sem.run prog (callFunc 59 args) w = .ok (.enter 59 args) w:=call_x 59 args w func59
@[simp] theorem call60 (args w):Sem.run prog (callFunc 60 args) w = .ok (.enter 60 args) w:=call_x 60 args w func60
@[simp] theorem call97 (args w):Sem.run prog (callFunc 97 args) w = .ok (.enter 97 args) w:=call_x 97 args w func97
@[simp] theorem call98 (args w):Sem.run prog (callFunc 98 args) w = .ok (.enter 98 args) w:=call_x 98 args w func98
@[simp] theorem call99 (args w):Sem.run prog (callFunc 99 args) w = .ok (.enter 99 args) w:=call_x 99 args w func99
@[simp] theorem call104 (args w):Sem.run prog (callFunc 104 args) w = .ok (.enter 104 args) w:=call_x 104 args w func104
@[simp] theorem call137 (args w):Sem.run prog (callFunc 137 args) w = .ok (.enter 137 args) w:=call_x 137 args w func137
end Go.Proofs.Tryzx
end
section
namespace Go.Proofs.Tryzx
theorem ntmps13:Tryz.f13.ntmps=96:=Tryz.ntmps13
theorem ntmps52:Tryz.f52.ntmps=10:=Tryz.ntmps52
theorem ntmps104:Tryz.f104.ntmps=45:=Tryz.ntmps104
end Go.Proofs.Tryzx
end
namespace Go.Proofs.YtbpnbhemdbgmjaaGreat
section
open Go.RowKit Go.Maps
def sumK (f:Nat→Nat) (s:Nat):Nat→Nat
 | 0=>0
 | k+1=>if s / p2 k % 2=1 then sumK f s k+f (s - p2 k) else sumK f s k
theorem sumK_yes {f:Nat→Nat} {s k:Nat} (h:s / p2 k % 2=1):sumK f s (k+1)=sumK f s k+f (s - p2 k):=by simp [sumK,h]
theorem sumK_no {f:Nat→Nat} {s k:Nat} (h:¬ s / p2 k % 2=1):sumK f s (k+1)=sumK f s k:=by simp [sumK,h]
theorem p2_in {s k:Nat} (h:s / p2 k % 2=1):p2 k≤s∧s - p2 k<s:=by
 have h1:=p2_pos k;have h2:1≤s / p2 k:=by
  rcases Nat.eq_zero_or_pos (s / p2 k) with e | e
  ·rw [e] at h; omega
  ·exact e
 have h3:p2 k*1≤s:=Nat.le_trans (Nat.mul_le_mul_left _ h2) (Nat.mul_div_le s (p2 k));omega
theorem sumK_congr {f g:Nat→Nat} {s:Nat} (h:∀ t,t<s→f t=g t):∀ k,sumK f s k=sumK g s k
 | 0=>rfl
 | k+1=>by
  by_cases hb:s / p2 k % 2=1
  ·rw [sumK_yes hb,sumK_yes hb,sumK_congr h k,h _ (p2_in hb).2]
  ·rw [sumK_no hb,sumK_no hb,sumK_congr h k]
theorem sumK_le {f:Nat→Nat} {s B:Nat}:∀ k,(∀ j,j<k→s / p2 j % 2=1→f (s - p2 j)≤B)→sumK f s k≤k*B
 | 0,_=>Nat.zero_le _
 | k+1,h=>by
  have ih:=sumK_le k (fun j hj=>h j (by omega));rw [Nat.add_mul];by_cases hb:s / p2 k % 2=1
  ·have:=h k (by omega) hb
   rw [sumK_yes hb]; omega
  ·rw [sumK_no hb]; omega
def wayE (ok:Nat→Bool) (f:Nat→Nat) (s:Nat):Nat:=if ok s=true then (if s=0 then 1 else 0)+sumK f s 6 else 0
def wayL (ok:Nat→Bool):Nat→List Int
 | 0 => []
 | s+1=>wayL ok s ++ [((wayE ok (fun t=>(nth (wayL ok s) t).toNat) s:Nat):Int)]
def way (ok:Nat→Bool) (s:Nat):Nat:=(nth (wayL ok (s+1)) s).toNat
section
variable {ok : Nat → Bool}
theorem wayL_len:∀ s,(wayL ok s).length=s
 | 0=>rfl
 | s+1=>by simp [wayL,wayL_len s]
theorem wayL_top (s:Nat):nth (wayL ok (s+1)) s=((wayE ok (fun t=>(nth (wayL ok s) t).toNat) s:Nat):Int):=by
 have h:s<(wayL ok (s+1)).length:=by rw [wayL_len]; omega
 rw [nth_get _ s h];simp [wayL,wayL_len]
theorem wayL_old {s t:Nat} (h:t<s):nth (wayL ok (s+1)) t=nth (wayL ok s) t:=by
 have h1:t<(wayL ok (s+1)).length:=by rw [wayL_len]; omega
 have h2:t<(wayL ok s).length:=by rw [wayL_len]; omega
 rw [nth_get _ t h1,nth_get _ t h2];simp [wayL,wayL_len,h]
theorem wayL_at {t:Nat}:∀ s,t<s→nth (wayL ok s) t=((way ok t:Nat):Int)
 | 0,h=>by omega
 | s+1,h=>by
  by_cases e:t=s
  ·subst e
   unfold way;rw [wayL_top]; rfl
  ·rw [wayL_old (by omega),wayL_at s (by omega)]
theorem way_eq (s:Nat):way ok s=wayE ok (way ok) s:=by
 have h:way ok s=wayE ok (fun t=>(nth (wayL ok s) t).toNat) s:=by unfold way; rw [wayL_top]; rfl
 have e:sumK (fun t=>(nth (wayL ok s) t).toNat) s 6=sumK (way ok) s 6:=sumK_congr (fun t ht=>by
  show (nth (wayL ok s) t).toNat=way ok t
  rw [wayL_at s ht]; rfl) 6
 rw [h];unfold wayE;rw [e]
theorem wayL_snoc (s:Nat):wayL ok (s+1)=wayL ok s ++ [((way ok s:Nat):Int)]:=by
 have h:=wayL_at (ok:=ok) (t:=s) (s+1) (by omega);rw [wayL_top] at h;rw [← h]; rfl
theorem way_no {s:Nat} (h:ok s=false):way ok s=0:=by rw [way_eq]; simp [wayE,h]
theorem way_yes {s:Nat} (h:ok s=true):way ok s=(if s=0 then 1 else 0)+sumK (way ok) s 6:=by rw [way_eq]; simp [wayE,h]
def pc (s:Nat):Nat:=(setL s 6).length
theorem pc_le (s:Nat):pc s≤6:=setL_len s 6
theorem pc_fin:∀ (s:Fin 64) (k:Fin 6),s.val / p2 k.val % 2=1→pc (s.val - p2 k.val)+1=pc s.val:=by decide +kernel
theorem pc_less {s k:Nat} (hs:s<64) (hk:k<6) (h:s / p2 k % 2=1):pc (s - p2 k)+1=pc s:=pc_fin ⟨s,hs⟩ ⟨k,hk⟩ h
theorem pc_0:∀ s:Fin 64,pc s.val=0→s.val=0:=by decide +kernel
theorem pow7 {l:Nat} (h:1≤l):6*7 ^ (l - 1)+7 ^ (l - 1)=7 ^ l:=by
 obtain ⟨k,rfl⟩:∃ k,l=k+1:=⟨l - 1,by omega⟩;simp only [Nat.add_sub_cancel,Nat.pow_succ];omega
theorem pow7_pos (l:Nat):1≤7 ^ l:=Nat.pow_pos (by omega)
theorem way_bd:∀ l s,s<64→pc s=l→way ok s≤7 ^ l
 | 0,s,hs,h=>by
  obtain rfl:s=0:=pc_0 ⟨s,hs⟩ h;cases hk:ok 0
  ·rw [way_no hk]; omega
  ·rw [way_yes hk]
   have h1:sumK (way ok) 0 6=0:=by simp [sumK]
   rw [h1,if_pos rfl]; decide
 | l+1,s,hs,h=>by
  cases hk:ok s
  ·rw [way_no hk]; exact Nat.zero_le _
  ·rw [way_yes hk]
   have h1:=sumK_le (f:=way ok) (s:=s) (B:=7 ^ l) 6 (fun j hj hb=>by
    have hp:=pc_less hs hj hb;have hl:=(p2_in hb).2;exact way_bd l (s - p2 j) (by omega) (by omega))
   have h2:=pow7 (l:=l+1) (by omega);have h3:=pow7_pos l;rw [Nat.add_sub_cancel] at h2;split <;> omega
theorem way_le {s:Nat} (hs:s<64):way ok s≤117649:=by
 have h1:=way_bd (ok:=ok) (pc s) s hs rfl;have h2:7 ^ pc s≤7 ^ 6:=Nat.pow_le_pow_right (by omega) (pc_le s);omega
theorem sumK_way {s k:Nat} (hs:s<64):sumK (way ok) s k≤k*117649 :=
 sumK_le k (fun j _ hb=>way_le (by have:=(p2_in hb).2; omega))
def sumN (f:Nat→Nat) (s:Nat) (xs:List Int):Nat→Nat
 | 0=>0
 | i+1=>sumN f s xs i+f (s - p2 (nth xs i).toNat)
theorem sumN_app (f:Nat→Nat) (s:Nat) (xs:List Int) (x:Int):∀ i,i≤xs.length→sumN f s (xs ++ [x]) i=sumN f s xs i
 | 0,_=>rfl
 | i+1,h=>by
  simp only [sumN];rw [sumN_app f s xs x i (by omega),nth_get (xs ++ [x]) i (by simp; omega),nth_get xs i (by omega),List.getElem_append_left (by omega)]
theorem sumN_all (f:Nat→Nat) (s:Nat):∀ k,sumN f s (setL s k) (setL s k).length=sumK f s k
 | 0=>rfl
 | k+1=>by
  have ih:=sumN_all f s k;by_cases hb:s / p2 k % 2=1
  ·rw [setL_yes hb,sumK_yes hb,List.length_append]
   simp only [List.length_singleton,sumN];rw [sumN_app f s _ _ _ (Nat.le_refl _),ih,nth_get _ _ (by simp)];simp
  ·rw [setL_no hb,sumK_no hb,ih]
theorem setL_hit {s:Nat}:∀ {k i:Nat},i<(setL s k).length→∃ j,j<k∧nth (setL s k) i=(j:Int)∧s / p2 j % 2=1
 | 0,i,h=>by simp [setL] at h
 | k+1,i,h=>by
  by_cases hb:s / p2 k % 2=1
  ·rw [setL_yes hb] at h ⊢
   by_cases hi:i<(setL s k).length
   ·obtain ⟨j,h1,h2,h3⟩:=setL_hit hi
    refine ⟨j,by omega,?_,h3⟩;rw [nth_get _ i h,List.getElem_append_left hi,← nth_get _ i hi];exact h2
   ·have e:i=(setL s k).length:=by simp at h; omega
    refine ⟨k,by omega,?_,hb⟩;subst e;rw [nth_get _ _ h];simp
  ·rw [setL_no hb] at h ⊢
   obtain ⟨j,h1,h2,h3⟩:=setL_hit h;exact ⟨j,by omega,h2,h3⟩
theorem setL_6 {s m:Nat} (hm:m≤6) (h:s<p2 m):setL s m=setL s 6:=by
 obtain ⟨j,hj⟩:=Nat.exists_eq_add_of_le hm;have:=setL_far h j;rw [← hj] at this;exact this.symm
end
theorem p2_6 {m:Nat} (h:m≤6):p2 m≤64:=Nat.pow_le_pow_right (by omega) h
theorem andNot_fin:∀ (s:Fin 64) (k:Fin 6),s.val / p2 k.val % 2=1→bits .andNot .u64 (s.val:Int) ((p2 k.val:Nat):Int)=((s.val - p2 k.val:Nat):Int):=by decide +kernel
theorem andNot_at {s k:Nat} (hs:s<64) (hk:k<6) (h:s / p2 k % 2=1):bits .andNot .u64 (s:Int) ((p2 k:Nat):Int)=((s - p2 k:Nat):Int):=andNot_fin ⟨s,hs⟩ ⟨k,hk⟩ h
def keyU (s:Nat):Lit := .int .u64 s
theorem keyU_ne {s t:Nat} (h:s ≠ t):keyU s ≠ keyU t:=fun e=>h (by simp [keyU] at e; omega)
theorem keyU_is (s:Nat):WideAt.IsKeyLit (keyU s):=by trivial
def Memo (ok:Nat→Bool) (D:DataW Unit):Prop:=∀ s:Nat,has D (keyU s)=true→∀ z,D.atKey (keyU s) z = .lit (.int .i64 (way ok s:Nat))
theorem memo_0 (ok:Nat→Bool):Memo ok (.map []):=fun s h=>by simp [has] at h
theorem Memo.put {ok:Nat→Bool} {D:DataW Unit} (h:Memo ok D) (hD:IsMap D) (s:Nat):Memo ok (D.put (keyU s) (.lit (.int .i64 (way ok s:Nat)))):=by
 intro t ht z;by_cases e:t=s
 ·subst e
  exact atKey_put_same hD (keyU_is _) _ _
 ·rw [has_put_other (keyU_ne e)] at ht
  rw [atKey_put_other (keyU_ne e)];exact h t ht z
end
section
open Go.RowKit
def FlagsAt (w:World) (A:Option Addr) (m:Nat) (f:Nat→Bool):Prop :=
 1≤m→∃ b off,A=some ⟨b,off,none⟩∧b<w.heap.size∧∀ i,i<m→w.cell? ⟨b,off+i,none⟩=some (.bool (f i))
theorem FlagsAt.below {w w':World} {A:Option Addr} {m:Nat} {f:Nat→Bool} (h:FlagsAt w A m f) (hb:Below w.heap.size w w'):FlagsAt w' A m f:=by
 intro hm;obtain ⟨b,off,rfl,hlt,hc⟩:=h hm;have hs:=hb.size;exact ⟨b,off,rfl,by omega,fun i hi=>(hb.cell hlt).trans (hc i hi)⟩
def flagL (f:Nat→Bool):Nat→List Value
 | 0 => []
 | k+1=>flagL f k ++ [.bool (f k)]
theorem flagL_len (f:Nat→Bool):∀ k,(flagL f k).length=k
 | 0=>rfl
 | k+1=>by simp [flagL,flagL_len f k]
theorem flagL_at (f:Nat→Bool):∀ k i,i<k→(flagL f k)[i]?=some (.bool (f i))
 | 0,i,h=>by omega
 | k+1,i,h=>by
  unfold flagL;by_cases e:i=k
  ·subst e
   rw [List.getElem?_append_right (by rw [flagL_len]; omega),flagL_len]; simp
  ·rw [List.getElem?_append_left (by rw [flagL_len]; omega)]
   exact flagL_at f k i (by omega)
def OwnBl (w:World) (base:Nat) (E:TypeId) (v:Value) (f:Nat→Bool) (m:Nat):Prop:=w.ownsRow base E 1 v m (flagL f m)
section
variable {w w' : World} {base : Nat} {E : TypeId} {v : Value} {f : Nat → Bool} {m : Nat}
theorem OwnBl.newB (w:World) (E:TypeId) (B:Nat) (f:Nat→Bool) (hB:B≤w.heap.size):OwnBl (w.alloc (.cells #[] E)) B E (.slice (some ⟨w.heap.size,0,none⟩) 0 0) f 0 :=
 World.ownsRow_lit (base:=B) (e:=E) (size:=1) w #[] 0 hB (by simp [maxLen]) (by simp)
theorem OwnBl.alloc (h:OwnBl w base E v f m) (o:Obj):OwnBl (w.alloc o) base E v f m:=World.ownsRow.alloc h o
theorem OwnBl.drew (h:OwnBl w base E v f m):OwnBl w.drew base E v f m:=h
theorem OwnBl.below (h:OwnBl w base E v f m) (hb:Below w.heap.size w w'):OwnBl w' base E v f m:=by
 refine ⟨h.1,?_⟩;rcases h.2 with h2 | ⟨g,cap,cur,h1,h2,h3,hr⟩
 ·exact .inl h2
 ·refine .inr ⟨g,cap,cur,h1,h2,(hb.block g ?_).trans h3,hr⟩
  exact (Array.getElem?_eq_some_iff.1 h3).1
theorem OwnBl.slice (h:OwnBl w base E v f m):∃ A c,v = .slice A m c∧FlagsAt w A m f:=by
 rcases h.2 with ⟨h1,h2⟩ | ⟨g,cap,cur,h1,h2,h3,h4,h5,h6,h7⟩
 ·subst h2; exact ⟨_,_,h1,fun h=>by simp at h⟩
 ·refine ⟨_,_,h1,fun _=>⟨g,0,rfl,(Array.getElem?_eq_some_iff.1 h3).1,fun i hi => ?_⟩⟩
  have e:(cur.toList.take (m*1))[i]?=(flagL f m)[i]?:=by rw [h7]
  rw [List.getElem?_take,if_pos (by omega),flagL_at f m i hi] at e;have e2:cur[i]?=some (.bool (f i)):=by simpa using e
  simp [World.cell?,h3,e2]
theorem OwnBl.ownLt (h:OwnBl w base E v f m):∀ k,v.ownBlock=some k→base≤k:=fun k hk=>(World.ownsRow.lt h k hk).1
end
theorem step_appBl {P:Program} {ops:Array Oper} {o:Oper} {a:Act} {w:World} {K:Act→World→Prop} {Q:Exit→Act→World→Prop} {F:Prop} (hgd:o.guard=none) (s x:Operand) (t:TypeId)
  (ho:o.op = .call { callee := .builtin .append,args := #[s,x],argTypes := #[t,t] })
  (base:Nat) (E:TypeId) (z:Value) (ht:P.underlying t=some (.slice E)) (hinfo:(P.info? E).map (fun i=>(i.zero,i.size,i.bytes))=some (some z,1,1)) (hz:z.cells.size=1)
  (v:Value) (f:Nat→Bool) (m:Nat) (hs:a.eval s=v) (hown:OwnBl w base E v f m) (g c:Nat) (hx:a.eval x = .slice (some ⟨g,0,none⟩) 1 c)
  (hg0:w.cell? ⟨g,0,none⟩=some (.bool (f m))) (hn:m+1≤1048576) (B:Nat) (w0:World) (hb:Below B w0 w) (hB:B≤base) (hbase:base≤w.heap.size)
  (h:∀ v' w',OwnBl w' base E v' f (m+1)→Below B w0 w'→K (a.put o.dst v') w'):if Region.wanted o (yielded ops a.tmps)=true then Oper.wp P o a w K Q else F:=by
 have hw:Region.wanted o (yielded ops a.tmps)=true:=by simp [Region.wanted,hgd]
 rw [if_pos hw];obtain ⟨i0,hi0,hz0,hz1,hz2⟩:=info_parts hinfo;refine wp_append_own (P:=P) w s x t ho base E i0 z 1 1 ht hi0 hz0 hz1 hz2 hz (by omega) v m _ hs hown ⟨g,0,none⟩ 1 c [.bool (f m)] hx rfl ?_ ?_ (by unfold maxLen; omega) (by omega) hbase ?_
 ·intro i u hi
  rw [Go.WideShapes.add_plain,Nat.zero_add];match i,hi with
  | 0,hi=>simp at hi; subst hi; exact hg0
  | k+1,hi=>simp at hi
 ·intro u hu
  simp at hu;subst hu; rfl
 ·intro v' w' hown' hgr _
  exact h v' w' hown' (hb.grown hgr (by omega) (fun k hk=>by have:=hown.ownLt k hk; omega))
end
namespace X
open Go.RowKit
def stgC (zs:List Int) (n:Nat):Nat:=if 1≤cstN zs n∧cstN zs n≤6 then p2 (cstN zs n) else 0
theorem stgC_64 (zs:List Int) (n:Nat):stgC zs n≤64:=by
 unfold stgC;split
 ·rename_i h; exact p2_6 h.2
 ·omega
def strN (zs:List Int) (n:Nat):Nat:=if 1≤cstN zs n∧cstN zs n≤6 then way (setB zs n) (p2 (cstN zs n) - 1) else 0
theorem str_0 {zs:List Int} {n:Nat} (h:stgC zs n=0):strN zs n=0:=by
 unfold stgC at h;unfold strN;split
 ·rename_i h1
  rw [if_pos h1] at h;have:=p2_pos (cstN zs n); omega
 ·rfl
theorem str_way {zs:List Int} {n:Nat} (h:stgC zs n ≠ 0):strN zs n=way (setB zs n) (stgC zs n - 1):=by
 unfold stgC at h ⊢;unfold strN;split
 ·rfl
 ·rename_i h1; rw [if_neg h1] at h; exact absurd rfl h
def StgPost (w:World) (N:Nat) (ok:Nat→Bool) (e:Ending) (w':World):Prop:=∃ A' c',e = .returned (.slice A' N c')∧FlagsAt w' A' N ok∧Below w.heap.size w w'
section
variable (A : Option Addr) (n c : Nat) (zs : List Int) (w : World) (h : RecsAt w w.heap.size 4 A n zs) (hn : n ≤ 1048576)
include h hn
theorem sSetStands (m:Nat) (hm:cstN zs n=m) (S:Nat) (B:Option Addr) (q d:Nat) (hi:IntsAt w w.heap.size B q (setL S m)) (hq:q=(setL S m).length):Calls Tryzx.prog 31 #[.agg #[.slice A n c],.slice B q d] w fun e w'=>e = .returned (.bool (setB zs n S))∧Below w.heap.size w w':=by
 subst hm hq;have:=setL_len S (cstN zs n);have:=cstN_le zs n;exact sStageStands_any A n c zs B _ d (setL S (cstN zs n)) w h hn hi (by omega)
theorem iSetStands (m:Nat) (hm:cstN zs n=m) (S:Nat) (B:Option Addr) (q d:Nat) (hi:IntsAt w w.heap.size B q (setL S m)) (hq:q=(setL S m).length):Calls Tryzx.prog 33 #[.agg #[.slice A n c],.slice B q d] w fun e w'=>e = .returned (.bool (setB zs n S))∧Below w.heap.size w w':=by
 subst hm hq;have:=setL_len S (cstN zs n);have:=cstN_le zs n;exact iStageStands_any A n c zs B _ d (setL S (cstN zs n)) w h hn hi (by omega)
set_option maxRecDepth 100000 in
set_option maxHeartbeats 3200000 in
theorem sStgL_any:Calls Tryzx.prog 137 #[.agg #[.slice A n c]] w (StgPost w (stgC zs n) (setB zs n)):=by
 have b0:Below w.heap.size w (w.alloc (.cells #[.slice A n c] 26)):=(Below.refl _ _).alloc (Nat.le_refl _) _;have HX:Hid (Box (w.alloc (.cells #[.slice A n c] 26)) w.heap.size (.slice A n c)):=Lib.hid (Box.new _ _ _);have HH:=Lib.hid h;have h1:=h.after b0;have cx0:=HX.out.1;have hm7:=cstN_le zs n;have HN:Hid (stgC zs n=if 1≤cstN zs n∧cstN zs n≤6 then p2 (cstN zs n) else 0):=Lib.hid rfl;obtain ⟨m,hm⟩:∃ m,cstN zs n=m:=⟨_,rfl⟩;rw [hm] at HN hm7;have HM:=Lib.hid hm;have hsh:=wrap_p2 m (by omega);have hp7:=p2_7 hm7;have hp1:=p2_pos m;by_cases hin:1≤m∧m≤6
 ·have HNN:Hid (stgC zs n=p2 m):=Lib.hid (by rw [HN.out,if_pos hin])
  have hp:inB (m:Int) 1 6=true:=inB_iff.2 (by omega);obtain ⟨hm1,hm6⟩:=hin;go_enter Tryzx.func137,Tryz.ntmps137;go_wp2_with fail
  refine (sCst_any _ _ _ zs _ (by exact h1) hn).mono ?_;rw [hm];rintro e w1 ⟨rfl,hb1⟩;have HB1:=Lib.hid ((below_then b0 hb1).alloc (below_then b0 hb1).size (.cells #[] 4));have HX1:=Lib.hid (HX.out.after (hb1.trans ((Below.refl w1.heap.size w1).alloc (Nat.le_refl _) (.cells #[] 4) |>.mono hb1.size)));have HO1:Hid (OwnBl (w1.alloc (.cells #[] 4)) (w.heap.size+1) 4 (.slice (some ⟨w1.heap.size,0,none⟩) 0 0) (setB zs n) 0):=Lib.hid (OwnBl.newB w1 4 (w.heap.size+1) (setB zs n) (by have:=hb1.size; simp at this; omega))
  clear hb1 b0 h h1 cx0 HX HN hm;go_wp2;go_loopw [4,5] (fun v4 v5 wr=>∃ S:Nat,v5 = .int .i64 S∧S≤p2 m∧Hid (OwnBl wr (w.heap.size+1) 4 v4 (setB zs n) S)∧Hid (Below w.heap.size w wr)∧Hid (Box wr w.heap.size (.slice A n c))) (fun _ v5 _=>p2 m - (intOf v5).toNat)
  case atStart=>exact ⟨0,rfl,Nat.zero_le _,HO1,HB1,HX1⟩
  case round =>
   clear HB1 HX1 HO1;obtain ⟨S,rfl,hS,HO,HB,HX⟩:=hrel;by_cases hlt:S<p2 m
   ·have i1:IntKind.i64.wrap ((S:Int)+1)=(S:Int)+1:=IntWalk.i64_in _ (by omega)
    have hz:w.heap.size+1≤wr.heap.size:=HX.out.2;have ik:(S:Int)<((p2 m:Nat):Int):=by omega
    have cx1:=HX.out.1;go_wp2_with (go_at_call 126; refine (l01In_any _ _ _ _).mono ?_; rw [hp]; rintro e w' ⟨rfl,rfl⟩);refine wp_region_held_drew (S:=fun w'=>w'.cell? ⟨w.heap.size,0,none⟩=some (.slice A n c)) (by kernel_rfl) (by exact cx1) (fun hHeld => ?_);refine take_heldS (i:=0) (d:=19) rfl rfl ?_;try simp only [Act.put,ly3]
    refine take_heldS (i:=1) (d:=20) rfl rfl ?_;try simp only [Act.put,ly3]
    refine take_heldS (i:=2) (d:=21) rfl rfl ?_;try simp only [Act.put,ly3]
    refine take_heldS (i:=3) (d:=22) rfl rfl ?_;try simp only [Act.put,ly3]
    refine wpAnyH_ready (rs := [4]) (by kernel_rfl) (by simp) ?_;refine AllReadyH.cons rfl (fun K hK => ?_) AllReadyH.nil;go_simp
    (with_reducible refine (sSet_any S m (by omega) hm7 _).mono ?_); rintro e w2 ⟨v2,rfl,ho2,hbx⟩; have hb2:=below_undrew hbx; obtain ⟨A2,q2,d2,rfl⟩:=ho2.sliceN; have HB2:=Lib.hid (below_then HB.out hb2); have HX2:=Lib.hid (HX.out.after hb2); have HO2:=Lib.hid (HO.out.below hb2); obtain rfl:=ho2.len; have l2:=Lib.hid ho2.intsAt;refine hK.out _ _ (by exact HX2.out.1) (fun hHeld => ?_);clear hK K;try simp only [Act.put,ly3]
    refine wpAnyH_ready (rs := [5]) (by kernel_rfl) (by simp) ?_;refine AllReadyH.cons rfl (fun K hK => ?_) AllReadyH.nil;go_simp
    (with_reducible refine (sSetStands _ _ _ zs _ (by exact HH.out.after HB2.out) hn m HM.out S _ _ _ (by exact l2.out) rfl).mono ?_); rintro e w3 ⟨rfl,hb3⟩; have HB3:=Lib.hid (below_then HB2.out hb3); have HX3:=Lib.hid (HX2.out.after hb3); have HO3:=Lib.hid (HO2.out.below hb3); have hz3:w.heap.size+1≤w3.heap.size:=HX3.out.2; have cx3:=HX3.out.1;refine hK.out _ _ (by exact HX3.out.1) (fun hHeld => ?_);clear hK K;try simp only [Act.put,ly3]
    refine wpAnyH_ready (rs := [6]) (by kernel_rfl) (by simp) ?_;refine AllReadyH.cons rfl (fun K hK => ?_) AllReadyH.nil;go_simp
    skip
    refine hK.out _ _ (by exact (World.cell?_alloc_lt w3 _ ⟨w.heap.size,0,none⟩ (by simp; omega)).trans cx3) (fun hHeld => ?_)
    clear hK K;try simp only [Act.put,ly3]
    refine wpAnyH_ready (rs := [7]) (by kernel_rfl) (by simp) ?_;refine AllReadyH.cons rfl (fun K hK => ?_) AllReadyH.nil;refine step_appBl rfl (.tmp 19) (.tmp 25) 164 rfl (w.heap.size+1) 4 (.bool false) Tryzx.underlying164 infoBool rfl _ (setB zs n) S rfl (by exact HO3.out.alloc _) w3.heap.size 1 rfl (by exact cell_new1 w3 _ _) (by omega) (w.heap.size+1) w3 (by exact (Below.refl _ _).alloc hz3 _) (Nat.le_refl _) (by simp; omega) ?_; intro v' w4 hown4 hb4; have cx4:=(hb4.cell (p:=⟨w.heap.size,0,none⟩) (by simp)).trans cx3; have HB4:=Lib.hid (HB3.out.trans (hb4.mono (by omega))); have HO4:=Lib.hid hown4; have hz4:=hb4.size;refine hK.out _ _ (by exact cx4) (fun hHeld => ?_);clear hK K;try simp only [Act.put,ly3]
    refine take_heldS (i:=8) (d:=4) rfl rfl ?_;try simp only [Act.put,ly3]
    refine wpAnyH_done (by kernel_rfl) ?_ _;have HX4:Hid (Box w4 w.heap.size (.slice A n c)):=Lib.hid ⟨cx4,by omega⟩;clear hown4 hb4 cx1 cx3 cx4 hb2 hb3 hbx ho2 l2 HX HX2 HX3 HO HO2 HO3 HB HB2 HB3;go_wp2;go_roundw
    case rel=>exact ⟨S+1,by go_num,by omega,HO4,HB4,HX4⟩
    case measure=>simp [intOf]; omega
   ·obtain rfl:S=p2 m:=by omega
    have ik:¬ ((p2 m:Nat):Int)<((p2 m:Nat):Int):=by omega
    obtain ⟨A7,c7,rfl,h7⟩:=HO.out.slice;have H7:=Lib.hid h7;clear h7;go_wp2;go_ret;exact ⟨A7,c7,by rw [HNN.out]; rfl,by rw [HNN.out]; exact H7.out,HB.out⟩
 ·have HNN:Hid (stgC zs n=0):=Lib.hid (by rw [HN.out,if_neg hin])
  have hp:inB (m:Int) 1 6=false:=by
   cases e:inB (m:Int) 1 6
   ·rfl
   ·exact absurd (by have:=inB_iff.1 e; omega) hin
  have ik:(0:Int)<((p2 m:Nat):Int):=by omega
  go_enter Tryzx.func137,Tryz.ntmps137;go_wp2_with fail
  refine (sCst_any _ _ _ zs _ (by exact h1) hn).mono ?_;rw [hm];rintro e w1 ⟨rfl,hb1⟩;have HB1:=Lib.hid ((below_then b0 hb1).alloc (below_then b0 hb1).size (.cells #[] 4));clear hb1 b0 h h1 cx0 HX HN hm hin;go_wp2;go_loopw [4,5] (fun v4 v5 wr=>v5 = .int .i64 0∧v4 = .slice (some ⟨w1.heap.size,0,none⟩) 0 0∧wr=w1.alloc (.cells #[] 4)) (fun _ _ _=>0)
  case atStart=>exact ⟨rfl,rfl,rfl⟩
  case round =>
   obtain ⟨rfl,rfl,rfl⟩:=hrel;go_wp2_with (go_at_call 126; refine (l01In_any _ _ _ _).mono ?_; rw [hp]; rintro e w' ⟨rfl,rfl⟩);go_ret;exact ⟨some ⟨w1.heap.size,0,none⟩,0,by rw [HNN.out]; rfl,fun h=>absurd h (by rw [HNN.out]; omega),HB1.out⟩
end
end X
namespace X
open Go.RowKit Go.Maps
theorem keyedU:Keyed Tryzx.prog 98:=int_keyed Tryzx.underlying98
theorem zeroI (w:World):(zeroValue 3).run Tryzx.prog w = .ok (.int .i64 0) w:=by kernel_rfl
theorem below_grownR {w w':World} (hb:Below w.heap.size w w') (row:Option Nat):w.grownBy w' row:=⟨hb.os,hb.tape,hb.output,hb.size,fun i hi _=>hb.block i hi⟩
theorem keyU_of {S:Nat} (h:S<64):keyOf Tryzx.prog 98 (.int .u64 S)=some (keyU S) :=
 keyOf_int_mk Tryzx.underlying98 (by simp [Lit.wf,IntKind.min,IntKind.max,IntKind.signed,IntKind.bits]; omega)
structure StkIn (ok:Nat→Bool) (A:Option Addr) (n:Nat) (zs:List Int) (w:World) (mb k:Nat) (D:DataW Unit):Prop where
 own:w.ownsMap Tryzx.prog 98 (plainElem Tryzx.prog 3) mb k D
 memo:Memo ok D
 recs:RecsAt w mb 4 A n zs
section
variable {ok : Nat → Bool} {A : Option Addr} {n : Nat} {zs : List Int} {w w' : World} {mb k : Nat} {D : DataW Unit}
theorem recs_grown (h:RecsAt w mb 4 A n zs) (hg:w.grownBy w' (some mb)) (hm:mb≤w.heap.size):RecsAt w' mb 4 A n zs:=by
 refine ⟨h.1,fun hn => ?_⟩;obtain ⟨b,off,rfl,hb,hc⟩:=h.2 hn;exact ⟨b,off,rfl,hb,fun i hi=>hg.cell (hc i hi) (by simp; omega)⟩
theorem StkIn.lt (h:StkIn ok A n zs w mb k D):mb<w.heap.size:=h.own.lt
theorem StkIn.now (h:StkIn ok A n zs w mb k D):RecsAt w w.heap.size 4 A n zs:=h.recs.mono (by have:=h.lt; omega)
theorem StkIn.below (h:StkIn ok A n zs w mb k D) (hb:Below w.heap.size w w'):StkIn ok A n zs w' mb k D :=
 ⟨h.own.kept (below_grownR hb none) (by simp),h.memo,recs_grown h.recs (below_grownR hb _) (by have:=h.lt; omega)⟩
theorem StkIn.put {S:Nat} (h:StkIn ok A n zs w mb k D) (ho:w'.ownsMap Tryzx.prog 98 (plainElem Tryzx.prog 3) mb (k+1) (D.put (keyU S) (.lit (.int .i64 (way ok S:Nat))))) (hg:w.grownBy w' (some mb)):StkIn ok A n zs w' mb (k+1) (D.put (keyU S) (.lit (.int .i64 (way ok S:Nat)))) :=
 ⟨ho,h.memo.put h.own.isMap S,recs_grown h.recs hg (by have:=h.lt; omega)⟩
end
structure StkAt (w wr:World) (mb:Nat) (va:Value) (A:Option Addr) (L:List Int):Prop where
 gr:w.grownBy wr (some mb)
 c0:wr.cell? ⟨w.heap.size,0,none⟩=some va
 c1:wr.cell? ⟨w.heap.size,1,none⟩=some (.map (some mb))
 lt:w.heap.size<wr.heap.size
 li:∀ i,i<L.length→∃ b off,A=some ⟨b,off,none⟩∧b ≠ mb∧wr.cell? ⟨b,off+i,none⟩=some (.int .i64 (nth L i))
theorem StkAt.after {w wr w':World} {mb:Nat} {va:Value} {A:Option Addr} {L:List Int} (h:StkAt w wr mb va A L) (hm:mb<w.heap.size) (hg:wr.grownBy w' (some mb)):StkAt w w' mb va A L :=
 ⟨h.gr.trans hg,hg.cell h.c0 (by simp; omega),hg.cell h.c1 (by simp; omega),Nat.lt_of_lt_of_le h.lt hg.size,fun i hi=>by
  obtain ⟨b,off,e,hb,hc⟩:=h.li i hi;exact ⟨b,off,e,hb,hg.cell hc (by simp; omega)⟩⟩
theorem box_two (w:World) (a b:Value) (T:TypeId):(w.alloc (.cells #[a,b] T)).cell? ⟨w.heap.size,0,none⟩=some a∧(w.alloc (.cells #[a,b] T)).cell? ⟨w.heap.size,1,none⟩=some b:=by
 have h:=World.rowIs_alloc w #[a,b] T (fun i=>if i=0 then a else b) (fun i hi=>by simp at hi; match i,hi with | 0,_=>rfl | 1,_=>rfl)
 exact ⟨World.rowIs.cell h (by simp),World.rowIs.cell h (by simp)⟩
def stV (ok:Nat→Bool) (S m i:Nat):Nat:=(if S=0 then 1 else 0)+sumN (way ok) S (setL S m) i
theorem stV_le {ok:Nat→Bool} {S m:Nat} (hs:S<64):∀ i,i≤(setL S m).length→stV ok S m i≤1+i*117649
 | 0,_=>by unfold stV sumN; split <;> omega
 | i+1,h=>by
  have ih:=stV_le (ok:=ok) (m:=m) hs i (by omega);have hw:=way_le (ok:=ok) (s:=S - p2 (nth (setL S m) i).toNat) (by omega);simp only [stV,sumN] at *
  omega
theorem stV_all {ok:Nat→Bool} {S m:Nat} (hk:ok S=true) (hm:m≤6) (h:S<p2 m):stV ok S m (setL S m).length=way ok S:=by
 rw [setL_6 hm h,way_yes hk];unfold stV;rw [setL_6 hm h,sumN_all]
def CntPost (A:Option Addr) (n:Nat) (zs:List Int) (mb K S:Nat) (w:World) (e:Ending) (w':World):Prop :=
 e = .returned (.int .i64 (way (setB zs n) S:Nat))∧∃ k' D',StkIn (setB zs n) A n zs w' mb k' D'∧k'≤K∧w.grownBy w' (some mb)
theorem plainI {a b:Int} (h:a=b) (hb : -9223372036854775808≤b∧b≤9223372036854775807):plainElem (H:=Unit) Tryzx.prog 3 (.int .i64 a)=some (.lit (.int .i64 b),[]):=by
 subst h;exact plainElem_int Tryzx.underlying3 (by simp [Lit.wf,IntKind.min,IntKind.max,IntKind.signed,IntKind.bits]; omega)
theorem StkIn.drew {ok:Nat→Bool} {A:Option Addr} {n:Nat} {zs:List Int} {w:World} {mb k:Nat} {D:DataW Unit} (h:StkIn ok A n zs w mb k D):StkIn ok A n zs w.drew mb k D:=⟨h.own.drew,h.memo,h.recs⟩
theorem grown_undrew {w w':World} {row:Option Nat} (h:w.drew.grownBy w' row):w.grownBy w' row:=⟨h.os,h.tape,h.output,h.size,h.block⟩
theorem own_li {w:World} {base mb q d:Nat} {E:TypeId} {A:Option Addr} {L:List Int} (h:OwnV w base E (.slice A q d) L) (hm:mb<base):∀ i,i<L.length→∃ b off,A=some ⟨b,off,none⟩∧b ≠ mb∧w.cell? ⟨b,off+i,none⟩=some (.int .i64 (nth L i)):=by
 intro i hi;obtain ⟨b,off,rfl,hb,hc⟩:=h.intsAt.2 (by rw [h.len]; omega)
 refine ⟨b,off,rfl,?_,hc i (by rw [h.len]; omega)⟩
 have:=h.ownLt b rfl;omega
section
variable (A : Option Addr) (n c : Nat) (zs : List Int) (hn : n ≤ 1048576) (m : Nat) (hm : cstN zs n = m) (hm1 : 1 ≤ m) (hm6 : m ≤ 6)
include hn hm hm1 hm6
set_option maxRecDepth 100000 in
set_option maxHeartbeats 6400000 in
theorem count_step (mb l S:Nat) (w:World) (k:Nat) (D:DataW Unit) (hS:S<p2 m) (hl:pc S=l) (hin:StkIn (setB zs n) A n zs w mb k D) (hk:k+7 ^ l≤10000000)
  (hih:∀ (T:Nat) (w1:World) (k1:Nat) (D1:DataW Unit),pc T+1=l→T<p2 m→StkIn (setB zs n) A n zs w1 mb k1 D1→k1+7 ^ (l - 1)≤10000000 →
   Calls Tryzx.prog 99 #[.agg #[.slice A n c,.map (some mb)],.int .u64 T] w1 (CntPost A n zs mb (k1+7 ^ (l - 1)) T w1)) :
  Calls Tryzx.prog 99 #[.agg #[.slice A n c,.map (some mb)],.int .u64 S] w (CntPost A n zs mb (k+7 ^ l) S w):=by
 have h64:S<64:=Nat.lt_of_lt_of_le hS (p2_6 hm6);have hpow:=pow7_pos l;have hlt:=hin.lt;have HM:=Lib.hid hm;have HIH:=Lib.hid hih;have hbx:=box_two w (.slice A n c) (.map (some mb)) 114;have c0:=hbx.1;have c1:=hbx.2;have HG0:=Lib.hid (World.grownBy_alloc w (.cells #[.slice A n c,.map (some mb)] 114) (some mb));have HA0:Hid (StkAt w (w.alloc (.cells #[.slice A n c,.map (some mb)] 114)) mb (.slice A n c) none []):=Lib.hid ⟨HG0.out,c0,c1,by simp,fun i hi=>absurd hi (by simp)⟩;have HI0:Hid (StkIn (setB zs n) A n zs (w.alloc (.cells #[.slice A n c,.map (some mb)] 114)) mb k D):=Lib.hid (hin.below ((Below.refl _ _).alloc (Nat.le_refl _) _));have hkey:=keyU_of h64;have hwl:=way_le (ok:=setB zs n) h64;clear hin hbx hm hih;cases hh:has D (keyU S)
 ·cases hy:setB zs n S
  ·have HW:Hid (way (setB zs n) S=0):=Lib.hid (way_no hy)
   go_enter Tryzx.func99,Tryz.ntmps99;go_wp2_with (at_lookup; refine wpList_lookup_own_ok_int _ rfl _ _ 112 rfl 98 3 .i64 keyedU Tryzx.underlying112 Tryzx.underlying3 (zeroI _) mb k D rfl (by exact HI0.out.own) _ (keyU S) rfl hkey ?_; intro cL hat hwc; rw [hh]);go_wp2_with fail
   go_region_held3 (fun w'=>w'.cell? ⟨w.heap.size,0,none⟩=some (.slice A n c)) (first | exact c0 | exact HA3.out.c0 | exact HA4.out.c0) ((first | (go_at_call 86; refine (iSet_any S m hS (by omega) _).mono ?_; rintro e w3 ⟨v3,rfl,ho3,hbx⟩; have hb3:=below_undrew hbx; obtain ⟨A3,q3,d3,rfl⟩:=ho3.sliceN; have HI3:=Lib.hid (HI0.out.below hb3); have HA3:=Lib.hid (HA0.out.after hlt (below_grownR hb3 _)); obtain rfl:=ho3.len; have l3:=ho3.intsAt) | (go_at_call 33; refine (iSetStands A n c zs _ (by exact HI3.out.now) hn m HM.out S _ _ _ (by exact l3) rfl).mono ?_; rw [hy]; rintro e w4 ⟨rfl,hb4⟩; have HI4:=Lib.hid (HI3.out.below hb4); have HA4:=Lib.hid (HA3.out.after hlt (below_grownR hb4 _)))));clear hb3 hbx hb4 ho3 l3 HI3 HA3 HI0 HA0 c0 c1 hat hwc;have c1:=HA4.out.c1;go_wp2_with (at_mapUpdate; refine wpList_mapUpdate_own _ rfl _ _ _ 112 rfl 98 3 keyedU Tryzx.underlying112 _ mb k D rfl (by exact HI4.out.own) (by unfold maxLen; omega) _ _ (keyU S) rfl rfl hkey (.lit (.int .i64 (way (setB zs n) S:Nat))) [] (plainI (by rw [HW.out]; rfl) (by omega)) ?_; intro w9 hown9 hgr9);go_wp2;go_ret;exact ⟨by rw [HW.out]; rfl,k+1,_,HI4.out.put hown9 hgr9,by omega,HA4.out.gr.trans hgr9⟩
  ·have HY:=Lib.hid hy
   have HW:Hid (stV (setB zs n) S m (setL S m).length=way (setB zs n) S):=Lib.hid (stV_all hy hm6 hS);obtain ⟨sz,hsz⟩:∃ sz,((S:Int) == 0)=sz:=⟨_,rfl⟩;have HV0:Hid (stV (setB zs n) S m 0=if sz=true then 1 else 0):=Lib.hid (by
    unfold stV sumN;cases sz
    ·rw [if_neg (by simpa using hsz)]; rfl
    ·rw [if_pos (by simpa using hsz)]; rfl)
   have hlen:=setL_len S m;cases sz;all_goals
    go_enter Tryzx.func99,Tryz.ntmps99;go_wp2_with (at_lookup; refine wpList_lookup_own_ok_int _ rfl _ _ 112 rfl 98 3 .i64 keyedU Tryzx.underlying112 Tryzx.underlying3 (zeroI _) mb k D rfl (by exact HI0.out.own) _ (keyU S) rfl hkey ?_; intro cL hat hwc; rw [hh]);go_wp2_with fail
    go_region_held3 (fun w'=>w'.cell? ⟨w.heap.size,0,none⟩=some (.slice A n c)) (first | exact c0 | exact HA3.out.c0 | exact HA4.out.c0) ((first | (go_at_call 86; refine (iSet_any S m hS (by omega) _).mono ?_; rintro e w3 ⟨v3,rfl,ho3,hbx⟩; have hb3:=below_undrew hbx; obtain ⟨A3,q3,d3,rfl⟩:=ho3.sliceN; have HI3:=Lib.hid (HI0.out.below hb3); have HA3:=Lib.hid (HA0.out.after hlt (below_grownR hb3 _)); obtain rfl:=ho3.len; have l3:=ho3.intsAt) | (go_at_call 33; refine (iSetStands A n c zs _ (by exact HI3.out.now) hn m HM.out S _ _ _ (by exact l3) rfl).mono ?_; rw [hy]; rintro e w4 ⟨rfl,hb4⟩; have HI4:=Lib.hid (HI3.out.below hb4); have HA4:=Lib.hid (HA3.out.after hlt (below_grownR hb4 _)))));clear hb3 hbx hb4 ho3 l3 HI3 HA3 HI0 HA0 c0 c1 hat hwc;go_wp2_with fail
    refine (iSet_any S m hS (by omega) _).mono ?_;rintro e w5 ⟨v5,rfl,ho5,hb5⟩;obtain ⟨A5,q5,d5,rfl⟩:=ho5.sliceN;have hq5:=ho5.len;subst hq5;have HI5:=Lib.hid (HI4.out.below hb5);have HA5:Hid (StkAt w w5 mb (.slice A n c) A5 (setL S m)):=Lib.hid (by
     have h0:=HA4.out.after hlt (below_grownR hb5 _);exact ⟨h0.gr,h0.c0,h0.c1,h0.lt,own_li ho5 (by have:=HA4.out.lt; omega)⟩)
    clear hb5 ho5 HI4 HA4;go_wp2;go_loopw [7,29] (fun v7 v29 wr=>∃ (i k1:Nat) (D1:DataW Unit),v29 = .int .i64 i∧i≤(setL S m).length∧v7 = .int .i64 (stV (setB zs n) S m i:Nat)∧k1≤k+i*7 ^ (l - 1)∧Hid (StkIn (setB zs n) A n zs wr mb k1 D1)∧Hid (StkAt w wr mb (.slice A n c) A5 (setL S m))) (fun _ v29 _=>(setL S m).length - (intOf v29).toNat)
    case atStart=>exact ⟨0,k,D,rfl,Nat.zero_le _,by rw [HV0.out]; rfl,by omega,HI5,HA5⟩
    case round =>
     clear HI5 HA5 HV0;obtain ⟨i,k1,D1,rfl,hi,rfl,hk1,HI,HA⟩:=hrel;by_cases hlt2:i<(setL S m).length
     ·have ii:(i:Int)<((setL S m).length:Int):=by omega
      have i0:(0:Int)≤(i:Int):=by omega
      have i1:IntKind.i64.wrap ((i:Int)+1)=(i:Int)+1:=IntWalk.i64_in _ (by omega);obtain ⟨j,hj,hnj,hbit⟩:=setL_hit hlt2;obtain ⟨b,off,rfl,hbm,hcz⟩:=HA.out.li i hlt2;rw [hnj] at hcz;have hp:=p2_in hbit;have hpc:=pc_less h64 (show j<6 by omega) hbit;have handn:=andNot_at h64 (show j<6 by omega) hbit;have hshj:=uwrap_p2 j (by omega);have j0:(0:Int)≤(j:Int):=by omega
      have hmul:(i+1)*7 ^ (l - 1)≤6*7 ^ (l - 1):=Nat.mul_le_mul_right _ (by omega);have hp7:=pow7 (l:=l) (by omega);rw [Nat.succ_mul] at hmul;obtain ⟨T,hT⟩:∃ T,S - p2 j=T:=⟨_,rfl⟩;have hsl:=stV_le (ok:=setB zs n) (m:=m) h64 (i+1) (by omega);have HU:Hid (stV (setB zs n) S m (i+1)=stV (setB zs n) S m i+way (setB zs n) T):=Lib.hid (by
       unfold stV;rw [sumN,hnj];simp only [Int.toNat_natCast,hT]
       omega)
      have i3:IntKind.i64.wrap (((stV (setB zs n) S m i:Nat):Int)+((way (setB zs n) T:Nat):Int))=((stV (setB zs n) S m (i+1):Nat):Int):=by have:=HU.out; rw [IntWalk.i64_in _ (by omega)]; omega
      rw [hT] at handn hpc;have hTm:T<p2 m:=by omega
      have hbd:k1+7 ^ (l - 1)≤10000000:=by omega
      have HPC:Hid (pc T+1=l):=Lib.hid (by omega);have HK:Hid (∀ k2,k2≤k1+7 ^ (l - 1)→k2≤k+(i+1)*7 ^ (l - 1)):=Lib.hid (fun k2 h=>by rw [Nat.succ_mul]; omega)
      have c0:=HA.out.c0;have c1:=HA.out.c1;clear hbit hnj hpc hmul hp7;go_wp2_with fail
      go_region_held3 (fun w'=>w'.cell? ⟨w.heap.size,0,none⟩=some (.slice A n c)∧w'.cell? ⟨w.heap.size,1,none⟩=some (.map (some mb))) (first | exact ⟨c0,c1⟩ | exact ⟨HA6.out.c0,HA6.out.c1⟩) ((go_at_call 99; refine (HIH.out T _ k1 D1 HPC.out hTm (by exact HI.out.drew) hbd).mono ?_; rintro e w6 ⟨rfl,k2,D2,hi6,hk6,hgx⟩; have hg6:=grown_undrew hgx; have HI6:=Lib.hid hi6; have HA6:=Lib.hid (HA.out.after hlt hg6)));clear hgx hg6 hi6 c0 c1 hcz handn hshj;go_wp2;go_roundw
      case rel=>exact ⟨i+1,k2,D2,by go_num,by omega,rfl,HK.out _ hk6,HI6,HA6⟩
      case measure=>simp [intOf]; omega
     ·obtain rfl:i=(setL S m).length:=by omega
      have ii:¬ (((setL S m).length:Nat):Int)<(((setL S m).length:Nat):Int):=by omega
      have c1:=HA.out.c1;have hkk:k1+1≤k+7 ^ l:=by
       rcases Nat.eq_zero_or_pos l with e | e
       ·subst e
        have hz:(setL S m).length=0:=by rw [setL_6 hm6 hS]; exact hl
        rw [hz] at hk1;omega
       ·have h1:(setL S m).length*7 ^ (l - 1)≤6*7 ^ (l - 1):=Nat.mul_le_mul_right _ (by omega)
        have h2:=pow7 (l:=l) e;have h3:=pow7_pos (l - 1);omega
      go_wp2_with (at_mapUpdate; refine wpList_mapUpdate_own _ rfl _ _ _ 112 rfl 98 3 keyedU Tryzx.underlying112 _ mb k1 D1 rfl (by exact HI.out.own) (by unfold maxLen; omega) _ _ (keyU S) rfl rfl hkey (.lit (.int .i64 (way (setB zs n) S:Nat))) [] (plainI (by rw [HW.out]) (by omega)) ?_; intro w9 hown9 hgr9);go_wp2;go_ret;exact ⟨by rw [HW.out]; rfl,k1+1,_,HI.out.put hown9 hgr9,hkk,HA.out.gr.trans hgr9⟩
 ·have HAT:=Lib.hid (HI0.out.memo S hh)
  go_enter Tryzx.func99,Tryz.ntmps99;go_wp2_with (at_lookup; refine wpList_lookup_own_ok_int _ rfl _ _ 112 rfl 98 3 .i64 keyedU Tryzx.underlying112 Tryzx.underlying3 (zeroI _) mb k D rfl (by exact HI0.out.own) _ (keyU S) rfl hkey ?_; intro cL hat hwc; rw [hh]);have hcl:cL=((way (setB zs n) S:Nat):Int):=by
   rw [HAT.out] at hat;simp at hat;exact hat.symm
  subst hcl;go_wp2;go_ret;exact ⟨rfl,k,D,HI0.out,by omega,HG0.out⟩
theorem count_any (mb:Nat):∀ (l S:Nat) (w:World) (k:Nat) (D:DataW Unit),S<p2 m→pc S=l→StkIn (setB zs n) A n zs w mb k D→k+7 ^ l≤10000000 →
  Calls Tryzx.prog 99 #[.agg #[.slice A n c,.map (some mb)],.int .u64 S] w (CntPost A n zs mb (k+7 ^ l) S w)
 | 0,S,w,k,D,hS,hl,hin,hk=>count_step A n c zs hn m hm hm1 hm6 mb 0 S w k D hS hl hin hk (fun T w1 k1 D1 hT _ _ _=>absurd hT (by omega))
 | l+1,S,w,k,D,hS,hl,hin,hk=>count_step A n c zs hn m hm hm1 hm6 mb (l+1) S w k D hS hl hin hk (fun T w1 k1 D1 hT h2 h3 h4=>by
   simp only [Nat.add_sub_cancel] at h4 ⊢;exact count_any mb l T w1 k1 D1 h2 (by omega) h3 h4)
end
end X
namespace X
open Go.RowKit
def accN (ok:Nat→Bool) (S k:Nat):Nat:=if ok S=true then (if S=0 then 1 else 0)+sumK (way ok) S k else 0
section
variable {ok : Nat → Bool} {S k : Nat}
theorem acc_0 (h:ok S=true):accN ok S 0=if S=0 then 1 else 0:=by simp [accN,h,sumK]
theorem acc_yes (h:ok S=true) (hb:S / p2 k % 2=1):accN ok S (k+1)=accN ok S k+way ok (S - p2 k):=by simp only [accN,h,if_true,sumK_yes hb]; omega
theorem acc_non (h:ok S=true) (hb:¬ S / p2 k % 2=1):accN ok S (k+1)=accN ok S k:=by simp only [accN,h,if_true,sumK_no hb]
theorem acc_6 (h:ok S=true):accN ok S 6=way ok S:=by rw [way_yes h]; simp [accN,h]
theorem acc_le (hs:S<64) (hk:k≤6):accN ok S k≤705895:=by
 have:=sumK_way (ok:=ok) (s:=S) (k:=k) hs;have h2:k*117649≤6*117649:=Nat.mul_le_mul_right _ hk;unfold accN;split
 ·split <;> omega
 ·omega
theorem ways_facts (h:ok S=true) (hs:S<64) (hk:k<6) (hb:S / p2 k % 2=1):∃ T:Nat,IntKind.i64.wrap ((S:Int) - ((p2 k:Nat):Int))=(T:Int)∧T<S∧IntKind.i64.wrap (((accN ok S k:Nat):Int)+((way ok T:Nat):Int))=((accN ok S (k+1):Nat):Int):=by
 have hp:=p2_in hb;have h1:=acc_yes h hb;have h2:=acc_le (ok:=ok) (S:=S) (k:=k+1) hs (by omega);refine ⟨S - p2 k,?_,hp.2,?_⟩
 ·clear h1 h2
  rw [IntWalk.i64_in _ (by omega)]; omega
 ·generalize way ok (S - p2 k)=x at *
  generalize accN ok S k=y at *
  generalize accN ok S (k+1)=z at *
  clear hp;subst h1;rw [IntWalk.i64_in _ (by omega)]; omega
end
section
variable (A : Option Addr) (n c : Nat) (zs : List Int) (w : World) (h : RecsAt w w.heap.size 4 A n zs) (hn : n ≤ 1048576)
include h hn
set_option maxRecDepth 100000 in
set_option maxHeartbeats 6400000 in
theorem sWays_any:Calls Tryzx.prog 97 #[.agg #[.slice A n c]] w (SetPost w (wayL (setB zs n) (stgC zs n))):=by
 have b0:Below w.heap.size w (w.alloc (.cells #[.slice A n c] 26)):=(Below.refl _ _).alloc (Nat.le_refl _) _;have h1:=h.after b0;have HX:Hid (Box (w.alloc (.cells #[.slice A n c] 26)) w.heap.size (.slice A n c)):=Lib.hid (Box.new _ _ _);have cx0:=HX.out.1;have hN:=stgC_64 zs n;go_enter Tryzx.func97,Tryz.ntmps97;go_wp2_with fail
 refine (sStgL_any _ _ _ zs _ (by exact h1) hn).mono ?_;generalize stgC zs n=N at *
 generalize setB zs n=ok at *
 rintro e w1 ⟨A1,c1,rfl,hf1,hb1⟩;have hz1:w.heap.size≤w1.heap.size:=by have:=hb1.size; simp at this; omega
 have HBA:=Lib.hid (below_then b0 hb1);have HFA:=Lib.hid hf1;have HB1:=Lib.hid ((Below.refl w1.heap.size w1).alloc (Nat.le_refl _) (.cells #[] 3));have HO1:Hid (OwnV (w1.alloc (.cells #[] 3)) w1.heap.size 3 (.slice (some ⟨w1.heap.size,0,none⟩) 0 0) []):=Lib.hid (OwnI.new w1 3).toV;clear hb1 b0 h h1 cx0 hf1 HX;go_wp2;go_loopw [4,5] (fun v4 v5 wr=>∃ S:Nat,v5 = .int .i64 S∧S≤N∧Hid (OwnV wr w1.heap.size 3 v4 (wayL ok S))∧Hid (Below w1.heap.size w1 wr)) (fun _ v5 _=>N - (intOf v5).toNat)
 case atStart=>exact ⟨0,rfl,Nat.zero_le _,HO1,HB1⟩
 case round =>
  clear HB1 HO1;obtain ⟨S,rfl,hS,HO,HB⟩:=hrel;have hlen:=wayL_len (ok:=ok) S;by_cases hlt:S<N
  ·have i1:IntKind.i64.wrap ((S:Int)+1)=(S:Int)+1:=IntWalk.i64_in _ (by omega)
   have ik:(S:Int)<(N:Int):=by omega
   have hz:w1.heap.size≤wr.heap.size:=HB.out.size;have s0:(0:Int)≤(S:Int):=by omega
   have n0:(0:Int)<(N:Int):=by omega
   have HF0:=HFA.out.below HB.out;obtain ⟨fb,fo,rfl,hfb,hfc⟩:=HF0 (by omega);have f0:=hfc 0 (by omega);have fS:=hfc S hlt;rw [Nat.add_zero] at f0;obtain ⟨A4,q4,d4,rfl⟩:=HO.out.sliceN;have hq4:=HO.out.len;rw [hlen] at hq4;subst hq4;have HI4:=Lib.hid HO.out.intsAt;obtain ⟨y,hy⟩:∃ y,ok q4=y:=⟨_,rfl⟩;obtain ⟨sz,hsz⟩:∃ sz,((q4:Int) == 0)=sz:=⟨_,rfl⟩;rw [hy] at fS;have f0':sz=true→wr.cell? ⟨fb,fo,none⟩=some (.bool y):=fun e=>by
    rw [e] at hsz;have:q4=0:=by simpa using hsz
    subst this;rw [← hy]; exact f0
   clear f0 hfc;have HS:=Lib.hid (wayL_snoc (ok:=ok) q4);cases y
   ·have HW:Hid (way ok q4=0):=Lib.hid (way_no hy)
    clear hy;cases sz;all_goals
     (try (have f0:=f0' rfl))
     clear f0';go_wp2;go_loopw [6,7] (fun v6 v7 wx=>v6 = .int .i64 0∧v7 = .int .i64 0∧wx=wr) (fun _ _ _=>0)
     case atStart=>exact ⟨rfl,rfl,rfl⟩
     case round =>
      obtain ⟨rfl,rfl,rfl⟩:=hrel;go_wp2_with (at_builtin; refine wpList_append_int _ rfl (.tmp 48) (.tmp 50) 54 rfl w1.heap.size 3 Tryzx.underlying54 infoInt _ (wayL ok q4) rfl (by exact HO.out.alloc _) _ _ ((way ok q4:Nat):Int) rfl (by rw [HW.out]; exact cell_new1 _ _ _) (by omega) (by have:=HB.out.size; simp; omega) ?_; intro g' cap' w5 hown5 hgr5);have hb5:=Lib.hid (ownB_below HB.out HB.out.size HO.out (Nat.le_refl _) hgr5);have hv5:=hown5.toV;rw [List.length_append,← HS.out,hlen] at hv5;have HV5:=Lib.hid hv5;clear hown5 hgr5 hv5;go_wp2;go_roundw
      case rel=>exact ⟨q4+1,by go_num,by omega,HV5,hb5⟩
      case measure=>simp [intOf]; omega
   ·have HK:Hid (ok q4=true):=Lib.hid hy
    have h64:q4<64:=by omega
    have HA0:Hid (accN ok q4 0=if sz=true then 1 else 0):=Lib.hid (by
     rw [acc_0 hy];cases sz
     ·rw [if_neg (by simpa using hsz)]; rfl
     ·rw [if_pos (by simpa using hsz)]; rfl)
    clear hy;cases sz;all_goals
     (try (have f0:=f0' rfl))
     clear f0';go_wp2;go_loopw [6,7] (fun v6 v7 wx=>∃ k:Nat,v7 = .int .i64 k∧k≤6∧v6 = .int .i64 (accN ok q4 k:Nat)∧wx=wr) (fun _ v7 _=>6 - (intOf v7).toNat)
     case atStart=>exact ⟨0,rfl,Nat.zero_le _,by rw [HA0.out]; rfl,rfl⟩
     case round =>
      clear HA0;obtain ⟨k,rfl,hk,rfl,rfl⟩:=hrel;by_cases hk6:k<6
      ·have kk:(k:Int)<6:=by omega
       have i2:IntKind.i64.wrap ((k:Int)+1)=(k:Int)+1:=IntWalk.i64_in _ (by omega);have k0:(0:Int)≤(k:Int):=by omega
       have HBIT:=Lib.hid (bit_at q4 k (by omega));by_cases hbit:q4 / p2 k % 2=1
       ·have ht:(bits BinOp.and IntKind.i64 ((q4:Int) / 2 ^ k) 1 == 1)=true:=by rw [HBIT.out,hbit]; rfl
        have hsh:=wrap_p2 k (by omega);obtain ⟨T,hsub,hTq,i3⟩:=ways_facts HK.out h64 hk6 hbit;have t0:(0:Int)≤(T:Int):=by omega
        have t1:(T:Int)<(q4:Int):=by omega
        have HI:=HI4.out;obtain ⟨b,off,rfl,hbB,hc⟩:=HI.2 (by omega);have hcv:=hc T (by omega);rw [wayL_at q4 (by omega)] at hcv;clear hc hbit HI;go_wp2;go_roundw
        case rel=>exact ⟨k+1,by go_num,by omega,rfl,trivial⟩
        case measure=>simp [intOf]; omega
       ·have ho:q4 / p2 k % 2=0:=by omega
        have ht:(bits BinOp.and IntKind.i64 ((q4:Int) / 2 ^ k) 1 == 1)=false:=by rw [HBIT.out,ho]; rfl
        have HU:=Lib.hid (acc_non (k:=k) HK.out hbit);clear hbit ho;go_wp2;go_roundw
        case rel=>exact ⟨k+1,by go_num,by omega,by rw [HU.out],trivial⟩
        case measure=>simp [intOf]; omega
      ·obtain rfl:k=6:=by omega
       have HW:Hid (way ok q4=accN ok q4 6):=Lib.hid (acc_6 HK.out).symm;go_wp2_with (at_builtin; refine wpList_append_int _ rfl (.tmp 48) (.tmp 50) 54 rfl w1.heap.size 3 Tryzx.underlying54 infoInt _ (wayL ok q4) rfl (by exact HO.out.alloc _) _ _ ((way ok q4:Nat):Int) rfl (by rw [HW.out]; exact cell_new1 _ _ _) (by omega) (by have:=HB.out.size; simp; omega) ?_; intro g' cap' w5 hown5 hgr5);have hb5:=Lib.hid (ownB_below HB.out HB.out.size HO.out (Nat.le_refl _) hgr5);have hv5:=hown5.toV;rw [List.length_append,← HS.out,hlen] at hv5;have HV5:=Lib.hid hv5;clear hown5 hgr5 hv5;go_wp2;go_roundw
       case rel=>exact ⟨q4+1,by go_num,by omega,HV5,hb5⟩
       case measure=>simp [intOf]; omega
  ·obtain rfl:S=N:=by omega
   have ik:¬ (S:Int)<(S:Int):=by omega
   go_wp2;go_ret;exact ⟨_,rfl,HO.out.weakenN hz1,HBA.out.trans (HB.out.mono hz1)⟩
end
end X
namespace X
open Go.RowKit Go.Maps
theorem sub_p2 {m:Nat} (hm:m≤7):IntKind.u64.wrap (((p2 m:Nat):Int) - 1)=((p2 m - 1:Nat):Int):=by
 have:=p2_7 hm;have:=p2_pos m;rw [u64_in _ (by omega)]; omega
section
variable (A : Option Addr) (n c : Nat) (zs : List Int) (w : World) (h : RecsAt w w.heap.size 4 A n zs) (hn : n ≤ 1048576)
include h hn
set_option maxRecDepth 100000 in
set_option maxHeartbeats 3200000 in
theorem newStk_any (m:Nat) (hm:cstN zs n=m):Calls Tryzx.prog 98 #[.agg #[.slice A n c]] w fun e w'=>∃ mb,e = .returned (.tuple #[.agg #[.slice A n c,.map (some mb)],.int .u64 (p2 m - 1:Nat),.bool (inB (m:Int) 1 6)])∧StkIn (setB zs n) A n zs w' mb 0 (.map [])∧w.heap.size≤mb∧Below w.heap.size w w':=by
 have hmm := @run_makeMap Tryzx.prog;have b0:Below w.heap.size w ((w.alloc (.cells #[.slice A n c] 26)).alloc (.cells #[.slice none 0 0,.map none] 114)):=((Below.refl _ _).alloc (Nat.le_refl _) _).alloc (by simp) _;have h1:=h.after b0;have bx0:Box (w.alloc (.cells #[.slice A n c] 26)) w.heap.size (.slice A n c):=Box.new _ _ _;have bx1:=bx0.after ((Below.refl _ _).alloc (Nat.le_refl _) (.cells #[.slice none 0 0,.map none] 114));have HR0:Hid (RowF ((w.alloc (.cells #[.slice A n c] 26)).alloc (.cells #[.slice none 0 0,.map none] 114)) (w.heap.size+1) 114 2 (fun i=>if i=0 then .slice none 0 0 else .map none)):=Lib.hid (by
  have h:=RowF.of_row (World.rowIs_alloc (w.alloc (.cells #[.slice A n c] 26)) #[.slice none 0 0,.map none] 114 (fun i=>if i=0 then .slice none 0 0 else .map none) (fun i hi=>by simp at hi; match i,hi with | 0,_=>rfl | 1,_=>rfl))
  simpa using h)
 have cx0:=bx1.1;have HX:=Lib.hid bx1;have HB0:=Lib.hid b0;have HH:=Lib.hid h;have hm7:m≤7:=by have:=cstN_le zs n; omega
 have hsh:=uwrap_p2 m hm7;have hsub:=sub_p2 hm7;clear b0 bx0 bx1 h;go_enter Tryzx.func98,Tryz.ntmps98;go_wp2_with fail
 refine (iCst_any _ _ _ zs _ (by exact h1) hn).mono ?_;rw [hm];rintro e w1 ⟨rfl,hb1⟩;have HX1:=Lib.hid (HX.out.after hb1);have HB1:=Lib.hid (below_then HB0.out hb1);have HR1:=Lib.hid (HR0.out.after hb1);have cx1:=HX1.out.1;have r0:w1.cell? ⟨w.heap.size+1,0,none⟩=some (.slice none 0 0):=HR1.out.cell (i:=0) (by omega);have r1:w1.cell? ⟨w.heap.size+1,1,none⟩=some (.map none):=HR1.out.cell (i:=1) (by omega);have z0:=HR1.out.frozen 0;have z1:=HR1.out.frozen 1;have hl:=HR1.out.lt;have cxm:(w1.alloc (.map #[] 0)).cell? ⟨w.heap.size,0,none⟩=some (.slice A n c):=(World.cell?_alloc_lt w1 _ ⟨w.heap.size,0,none⟩ HX1.out.2).trans cx1;clear hb1 h1 cx0 HX HB0 HR0;go_wp2_with fail
 go_region_held3 (fun w'=>w'.cell? ⟨w.heap.size,0,none⟩=some (.slice A n c)) (first | exact cx1 | exact cxm | go_keep) ((go_at_call 112; refine (within_any _ _ _ _).mono ?_; rintro e w' ⟨rfl,rfl⟩));all_goals
  go_wp2;refine bodyPost_ret (v := .tuple #[.agg #[.slice A n c,.map (some w1.heap.size)],.int .u64 (p2 m - 1:Nat),.bool (inB (m:Int) 1 6)]) (by simp [results,Tryz.results98,go_sem, *]) rfl ?_;have hb9:=HB1.out.size;have hW:Below w.heap.size w ((w1.setCell ⟨w.heap.size+1,0,none⟩ (.slice A n c)).setCell ⟨w.heap.size+1,1,none⟩ (.map (some w1.heap.size))):=(HB1.out.setCell (by simp) _).setCell (by simp) _;have hM:=World.ownsMap_made (H:=Unit) ((w1.setCell ⟨w.heap.size+1,0,none⟩ (.slice A n c)).setCell ⟨w.heap.size+1,1,none⟩ (.map (some w1.heap.size))) Tryzx.prog 98 (plainElem Tryzx.prog 3);rw [show ((w1.setCell ⟨w.heap.size+1,0,none⟩ (.slice A n c)).setCell ⟨w.heap.size+1,1,none⟩ (.map (some w1.heap.size))).heap.size=w1.heap.size by simp] at hM;have hba:=below_dr (hW.alloc hW.size (.map #[] 0));exact ⟨w1.heap.size,rfl,⟨hM.drew,memo_0 _,(HH.out.below hba).mono hb9⟩,hb9,hba⟩
end
end X
section
open Go.RowKit Go.Maps
def hit (ok:Nat→Bool) (S k:Nat):Bool:=decide (S / p2 k % 2=1) && decide (0<way ok (S - p2 k))
def nxtF (p:Nat→Bool):Nat→Nat→Nat
 | 0,k=>k
 | t+1,k=>if p k=true then k else nxtF p t (k+1)
theorem nxtF_is {p:Nat→Bool} {x:Nat} (hx:p x=true):∀ t k,k≤x→x<k+t→(∀ j,k≤j→j<x→p j=false)→nxtF p t k=x
 | 0,k,h1,h2,_=>by omega
 | t+1,k,h1,h2,h3=>by
  unfold nxtF;by_cases e:k=x
  ·subst e; rw [if_pos hx]
  ·rw [if_neg (by rw [h3 k (Nat.le_refl _) (by omega)]; decide)]
   exact nxtF_is hx t (k+1) (by omega) (by omega) (fun j hj=>h3 j (by omega))
def nxt (ok:Nat→Bool) (S:Nat):Nat:=nxtF (hit ok S) 6 0
theorem nxt_is {ok:Nat→Bool} {S k:Nat} (hk:k<6) (h:hit ok S k=true) (h0:∀ j,j<k→hit ok S j=false):nxt ok S=k :=
 nxtF_is h 6 0 (Nat.zero_le _) (by omega) (fun j _ hj=>h0 j hj)
theorem hit_out {ok:Nat→Bool} {S k:Nat} (h:hit ok S k=true):S / p2 k % 2=1∧0<way ok (S - p2 k):=by simpa [hit] using h
theorem hit_t {ok:Nat→Bool} {S k:Nat} (h1:S / p2 k % 2=1) (h2:0<way ok (S - p2 k)):hit ok S k=true:=by simp [hit,h1,h2]
theorem hit_f1 {ok:Nat→Bool} {S k:Nat} (h1:¬ S / p2 k % 2=1):hit ok S k=false:=by simp [hit,h1]
theorem hit_f2 {ok:Nat→Bool} {S k:Nat} (h1:way ok (S - p2 k)=0):hit ok S k=false:=by simp [hit,h1]
theorem sum_hit {ok:Nat→Bool} {S:Nat}:∀ k,(∀ j,j<k→hit ok S j=false)→sumK (way ok) S k=0
 | 0,_=>rfl
 | k+1,h=>by
  have ih:=sum_hit k (fun j hj=>h j (by omega));have hk:=h k (by omega);by_cases hb:S / p2 k % 2=1
  ·rw [sumK_yes hb,ih]
   simp [hit,hb] at hk;omega
  ·rw [sumK_no hb,ih]
theorem hit_ex {ok:Nat→Bool} {S:Nat} (h:0<way ok S) (h0:S ≠ 0):¬ ∀ j,j<6→hit ok S j=false:=by
 intro hall;cases hk:ok S
 ·rw [way_no hk] at h; omega
 ·rw [way_yes hk,sum_hit 6 hall,if_neg h0] at h; omega
def stF (ok:Nat→Bool) (F:Nat):Nat→Nat
 | 0=>F
 | i+1=>stF ok F i - p2 (nxt ok (stF ok F i))
def pikL (ok:Nat→Bool) (F:Nat):Nat→List Int
 | 0 => []
 | i+1=>pikL ok F i ++ [(nxt ok (stF ok F i):Int)]
theorem pikL_len (ok:Nat→Bool) (F:Nat):∀ i,(pikL ok F i).length=i
 | 0=>rfl
 | i+1=>by simp [pikL,pikL_len ok F i]
structure FAt (ok:Nat→Bool) (F i S:Nat):Prop where
 st:stF ok F i=S
 on:0<way ok S
 num:pc S+i=pc F
 lt:S<64
theorem FAt.start {ok:Nat→Bool} {F:Nat} (h:0<way ok F) (hF:F<64):FAt ok F 0 F:=⟨rfl,h,rfl,hF⟩
theorem FAt.step {ok:Nat→Bool} {F i S k:Nat} (h:FAt ok F i S) (hk:k<6) (hh:hit ok S k=true) (h0:∀ j,j<k→hit ok S j=false):FAt ok F (i+1) (S - p2 k)∧pikL ok F (i+1)=pikL ok F i ++ [(k:Int)]:=by
 have hn:=nxt_is hk hh h0;have ho:=hit_out hh;have hp:=pc_less h.lt hk ho.1;have hi:=(p2_in ho.1).2;refine ⟨⟨by simp only [stF,h.st,hn],ho.2,by have:=h.num; omega,by have:=h.lt; omega⟩,by simp only [pikL,h.st,hn]⟩
def findL (ok:Nat→Bool) (F:Nat):List Int:=pikL ok F (pc F)
theorem FAt.done {ok:Nat→Bool} {F i:Nat} (h:FAt ok F i 0):pikL ok F i=findL ok F:=by
 have h0:pc 0=0:=by decide
 have:=h.num;rw [h0] at this;unfold findL;rw [← this,Nat.zero_add]
theorem setL_mono (S:Nat) (a:Nat):∀ d,(setL S a).length≤(setL S (a+d)).length
 | 0=>Nat.le_refl _
 | d+1=>by
  have ih:=setL_mono S a d;rw [← Nat.add_assoc];by_cases hb:S / p2 (a+d) % 2=1
  ·rw [setL_yes hb,List.length_append]; omega
  ·rw [setL_no hb]; exact ih
theorem setL_up {S a b:Nat} (h:a≤b):(setL S a).length≤(setL S b).length:=by
 obtain ⟨d,rfl⟩:=Nat.exists_eq_add_of_le h;exact setL_mono S a d
theorem setL_lt {S j b:Nat} (hj:j<b) (hb:S / p2 j % 2=1):(setL S j).length<(setL S b).length:=by
 have h:=setL_up (S:=S) (a:=j+1) (b:=b) hj;rw [setL_yes hb,List.length_append] at h;simp at h;omega
theorem setL_ix {S:Nat}:∀ {m j:Nat},j<m→S / p2 j % 2=1→nth (setL S m) (setL S j).length=(j:Int)
 | 0,j,h,_=>by omega
 | m+1,j,h,hb=>by
  by_cases e:j=m
  ·subst e
   rw [setL_yes hb,nth_get _ _ (by simp)];simp
  ·have ih:=setL_ix (S:=S) (m:=m) (j:=j) (by omega) hb
   have hl:=setL_lt (S:=S) (j:=j) (b:=m) (by omega) hb;by_cases hm:S / p2 m % 2=1
   ·rw [setL_yes hm,nth_get _ _ (by simp; omega),List.getElem_append_left hl,← nth_get _ _ hl]
    exact ih
   ·rw [setL_no hm]; exact ih
theorem setL_at {S:Nat}:∀ {m i:Nat},i<(setL S m).length→∃ j,j<m∧nth (setL S m) i=(j:Int)∧S / p2 j % 2=1∧(setL S j).length=i
 | 0,i,h=>by simp [setL] at h
 | m+1,i,h=>by
  by_cases hb:S / p2 m % 2=1
  ·by_cases hi:i<(setL S m).length
   ·obtain ⟨j,h1,h2,h3,h4⟩:=setL_at hi
    refine ⟨j,by omega,?_,h3,h4⟩;rw [setL_yes hb,nth_get _ i (by rw [← setL_yes hb]; exact h),List.getElem_append_left hi,← nth_get _ i hi];exact h2
   ·have e:i=(setL S m).length:=by rw [setL_yes hb] at h; simp at h; omega
    refine ⟨m,by omega,?_,hb,e.symm⟩;subst e;exact setL_ix (by omega) hb
  ·rw [setL_no hb] at h ⊢
   obtain ⟨j,h1,h2,h3,h4⟩:=setL_at h;exact ⟨j,by omega,h2,h3,h4⟩
def noneTo (ok:Nat→Bool) (S m i:Nat):Prop:=∀ j,j<m→(setL S j).length<i→S / p2 j % 2=1→way ok (S - p2 j)=0
theorem none_0 (ok:Nat→Bool) (S m:Nat):noneTo ok S m 0:=fun j _ h=>absurd h (by omega)
theorem none_step {ok:Nat→Bool} {S m i j:Nat} (h:noneTo ok S m i) (hj:(setL S j).length=i) (hjm:j<m) (hb:S / p2 j % 2=1) (hw:way ok (S - p2 j)=0):noneTo ok S m (i+1):=by
 intro x hx hl hbx;by_cases e:(setL S x).length=i
 ·have:x=j:=by
   rcases Nat.lt_trichotomy x j with h1 | h1 | h1
   ·have:=setL_lt h1 hbx; omega
   ·exact h1
   ·have:=setL_lt h1 hb; omega
  subst this; exact hw
 ·exact h x hx (by omega) hbx
theorem none_before {ok:Nat→Bool} {S m i j:Nat} (h:noneTo ok S m i) (hj:(setL S j).length=i) (hjm:j<m):∀ x,x<j→hit ok S x=false:=by
 intro x hx;by_cases hbx:S / p2 x % 2=1
 ·exact hit_f2 (h x (by omega) (by have:=setL_lt hx hbx; omega) hbx)
 ·exact hit_f1 hbx
theorem none_all {ok:Nat→Bool} {S m:Nat} (hS:S<p2 m) (h:noneTo ok S m (setL S m).length):∀ j,j<6→hit ok S j=false:=by
 intro j hj;by_cases hb:S / p2 j % 2=1
 ·have hjm:j<m:=by
   rcases Nat.lt_or_ge j m with e | e
   ·exact e
   ·have h1:=p2_in hb
    obtain ⟨d,rfl⟩:=Nat.exists_eq_add_of_le e;have:=p2_add m d;omega
  exact hit_f2 (h j hjm (setL_lt hjm hb) hb)
 ·exact hit_f1 hb
end
end Go.Proofs.YtbpnbhemdbgmjaaGreat
