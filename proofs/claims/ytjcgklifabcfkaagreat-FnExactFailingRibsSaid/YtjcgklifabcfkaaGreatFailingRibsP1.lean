/-
  Texts that the law stands on, part 1.
-/
import Derived.Test.YtjcgklifabcfkaaGreatN1
import Derived.Test.YtjcgklifabcfkaaGreatN10
import Derived.Test.YtjcgklifabcfkaaGreatN11
import Derived.Test.YtjcgklifabcfkaaGreatN15
import Derived.Test.YtjcgklifabcfkaaGreatN18
import Derived.Test.YtjcgklifabcfkaaGreatN20
import Derived.Test.YtjcgklifabcfkaaGreatN21
import Derived.Test.YtjcgklifabcfkaaGreatN9
import Derived.WalkKit
import Derived.ProofKit
import Derived.OpenShut
import Derived.SizedLaws
import Derived.ChangeSame
import Derived.Lib.Hide
import Derived.Deep.OwnRows
import Derived.Deep.Draws
import Derived.Deep.Slices
import Derived.OwnWalk
import Derived.ArgAppend
import Derived.Test.YtjcgklifabcfkaaGreatProg
import Derived.KernelRfl
import Derived.Outline
import Derived.Deep.QuietTactic
import Derived.BigQuiet
import Derived.Deep.DeepAppendRoom
set_option maxRecDepth 100000
set_option linter.unusedVariables false
set_option linter.unusedSimpArgs false
namespace Go.Proofs.YtjcgklifabcfkaaGreat
section
open Go.ChangeShapes Go.WideShapes Go.ChangeAt Go.RowKit
section
variable {H : Type} {enc : TypeId × Value → H} {P : Program}
end
theorem i64_bounds {n:Int} (h:(Lit.int .i64 n).wf=true) : -9223372036854775808≤n∧n≤9223372036854775807:=by
 simp [Lit.wf,IntKind.min,IntKind.max,IntKind.signed,IntKind.bits] at h;omega
section
variable {w w' : World} {B B' n : Nat} {A : Option Addr} {zs : List Int}
end
theorem list_ext_nth {xs ys:List Int} (hl:xs.length=ys.length) (h:∀ k,k<xs.length→nth xs k=nth ys k):xs=ys:=by
 refine List.ext_getElem hl fun k h1 h2 => ?_
 have:=h k h1;rwa [nth_get _ _ h1,nth_get _ _ h2] at this
end
section
open Go.ChangeShapes Go.WideShapes Go.ChangeAt Go.RowKit
def Flat (P:Program) (t:TypeId) (K:Nat):Prop :=
 P.cellsOf t=K∧∀ (H:Type) (enc:TypeId × Value→H) (w:World) (base:Nat) (spare:Nat→Bool) (held:Bool) (fuel:Nat) (cs:List Value) (x:DataW H × List MemPlace),
  DataW.trod enc P w base spare held fuel t cs=some x→∃ zs:List Int,zs.length=K∧cs=zs.map (Value.int .i64)∧∀ z ∈ zs,-9223372036854775808≤z∧z≤9223372036854775807
theorem flat_struct2 {P:Program} {t:TypeId} {f0 f1:Field} {k0 k1:Nat} (ht:P.underlying t=some (.struct #[f0,f1])) (h0:Flat P f0.type k0) (h1:Flat P f1.type k1)
  (o0:f0.offset=0) (o1:f1.offset=k0) (hc:P.cellsOf t=k0+k1):Flat P t (k0+k1):=by
 refine ⟨hc,fun H enc w base spare held fuel cs x h => ?_⟩;obtain ⟨xs,n,_,_,hl,hxl,hf⟩:=DataW.trod_struct ht h;have g0:=hf 0 f0 rfl;have g1:=hf 1 f1 rfl;have hx:xs.length=2:=hxl;rw [List.getElem?_eq_getElem (by omega),o0,h0.1] at g0;rw [List.getElem?_eq_getElem (by omega),o1,h1.1] at g1;obtain ⟨z0,l0,e0,b0⟩:=h0.2 H enc w base spare held n _ _ g0;obtain ⟨z1,l1,e1,b1⟩:=h1.2 H enc w base spare held n _ _ g1;rw [hc] at hl;have e1':cs.drop k0=z1.map (Value.int .i64):=by
  rw [← e1,List.take_of_length_le (by simp; omega)]
 refine ⟨z0 ++ z1,by simp [l0,l1],?_,fun z hz => ?_⟩
 ·rw [List.map_append,← e0,← e1',List.drop_zero,List.take_append_drop]
 ·rcases List.mem_append.1 hz with hz | hz
  ·exact b0 z hz
  ·exact b1 z hz
theorem flat_ints {P:Program} {t i:TypeId} {fs:Array Field} {K:Nat} (ht:P.underlying t=some (.struct fs)) (hi:P.underlying i=some (.int .i64)) (hci:P.cellsOf i=1)
  (hfs:∀ j,j<K→∃ f,fs[j]?=some f∧f.type=i∧f.offset=j) (hK:fs.size=K) (hc:P.cellsOf t=K):Flat P t K:=by
 refine ⟨hc,fun H enc w base spare held fuel cs x h => ?_⟩;obtain ⟨xs,n,_,_,hl,hxl,hf⟩:=DataW.trod_struct ht h;rw [hc] at hl;have each:∀ j,j<K→∃ z:Int,cs[j]?=some (.int .i64 z) ∧ -9223372036854775808≤z∧z≤9223372036854775807:=by
  intro j hj;obtain ⟨f,hfj,hft,hfo⟩:=hfs j hj;have g:=hf j f hfj;rw [List.getElem?_eq_getElem (by omega),hft,hfo,hci] at g;obtain ⟨z,e,_,hw⟩:=DataW.trod_int hi g;refine ⟨z,?_,i64_bounds hw⟩;have h1:((cs.drop j).take 1)[0]?=some (Value.int .i64 z):=by rw [e]; rfl
  simpa using h1
 let g:Value→Int:=fun v=>match v with | .int _ z=>z | _=>0
 refine ⟨cs.map g,by simpa using hl,?_,fun z hz => ?_⟩
 ·refine List.ext_getElem (by simp) (fun j h1 h2 => ?_)
  obtain ⟨z,e,_⟩:=each j (by omega);have e':cs[j] = .int .i64 z:=by
   have:=List.getElem?_eq_getElem h1;rw [e] at this;exact (Option.some.inj this).symm
  simp [e',g]
 ·obtain ⟨v,hv,rfl⟩:=List.mem_map.1 hz
  obtain ⟨j,hj,rfl⟩:=List.getElem_of_mem hv;obtain ⟨z,e,hb⟩:=each j (by omega);have e':cs[j] = .int .i64 z:=by
   have:=List.getElem?_eq_getElem hj;rw [e] at this;exact (Option.some.inj this).symm
  rw [e'];exact hb
section
variable {w w' : World} {B B' K n : Nat} {A : Option Addr} {zs : List Int}
theorem recsAt_row {g:Nat} {t:TypeId} {f:Nat→Value} (h:w.rowIs g t (n*K) f) (hz:zs.length=n*K) (hf:∀ k,k<n*K→f k = .int .i64 (nth zs k)):RecsAt w w.heap.size K (some ⟨g,0,none⟩) n zs :=
 ⟨hz,fun _=>⟨g,0,rfl,h.lt,fun k hk=>by rw [Nat.zero_add,h.cell hk,hf k hk]⟩⟩
end
theorem open_recs_cell {H:Type} {enc:TypeId × Value→H} {P:Program} {W:World} {t e:TypeId} {K fuel:Nat} {v:Value} {x:DataW H × List MemPlace} (ht:P.underlying t=some (.slice e)) (hfl:Flat P e K) (hK:0<K)
  (h:DataW.trod enc P W 0 (fun _=>true) true fuel t [v]=some x) (hlt:∀ p ∈ x.2,p.block<W.heap.size) :
  ∃ (A:Option Addr) (n c:Nat) (zs:List Int),v = .slice A n c∧RecsAt W W.heap.size K A n zs∧n≤c∧c≤maxLen∧∀ i,-9223372036854775808≤nth zs i∧nth zs i≤9223372036854775807:=by
 rcases Deep.open_slice ht h with ⟨h0,_⟩ | ⟨a,len,cap,m,n,D,Pl,hcs,_,hl,hm,hmm,hx,hi⟩
 ·simp at h0
  subst h0;exact ⟨none,0,0,[],rfl,RecsAt.nil,Nat.le_refl _,by simp [maxLen],fun i=>by simp [nth]⟩
 ·simp at hcs
  subst hcs;simp only [if_true] at hmm;subst hmm;have each:∀ i,i<len*K→∃ z:Int,W.cell? (a.add i)=some (.int .i64 z) ∧ -9223372036854775808≤z∧z≤9223372036854775807:=by
   intro i hil;have hq:i / K<len:=Nat.div_lt_of_lt_mul (by rw [Nat.mul_comm]; exact hil);have hr:i % K<K:=Nat.mod_lt _ hK;obtain ⟨cs',hc,ht'⟩:=hi (i / K) (by omega);rw [hfl.1] at hc;obtain ⟨_,hcl,hat⟩:=World.cells?_some hc;obtain ⟨zs,hzl,hze,hzb⟩:=hfl.2 H enc W 0 _ _ _ _ _ ht';have hcell:=hat (i % K) hr;rw [Deep.add_add,Nat.div_add_mod' i K,hze,List.getElem?_map,List.getElem?_eq_getElem (by omega)] at hcell;exact ⟨_,hcell,hzb _ (List.getElem_mem (by omega))⟩
  let f:Nat→Int:=fun i=>match W.cell? (a.add i) with | some (.int _ z)=>z | _=>0
  have hf:∀ i,i<len*K→W.cell? (a.add i)=some (.int .i64 (f i)):=by
   intro i hil;obtain ⟨z,hz,_⟩:=each i hil;simp only [f,hz]
  have hn:∀ i,i<len*K→nth ((List.range (len*K)).map f) i=f i:=by
   intro i hil;rw [nth_get _ _ (by simpa using hil)];simp
  refine ⟨some a,len,m,(List.range (len*K)).map f,rfl,⟨by simp,fun hlen => ?_⟩,hl,hm,fun i => ?_⟩
  ·have h0:0<len*K:=Nat.mul_pos hlen hK
   obtain ⟨b,off,spot⟩:=a;have hspot:spot=none:=by simpa [Addr.add] using World.cell?_spot (hf 0 h0)
   subst hspot;refine ⟨b,off,rfl,?_,fun i hil => ?_⟩
   ·have hp:MemPlace.cell b off ∈ x.2:=by
     rw [hx];simp only [List.mem_append];left;have:0<m*P.cellsOf e:=by rw [hfl.1]; exact Nat.mul_pos (by omega) hK
     simp [MemPlace.row];omega
    exact hlt _ hp
   ·rw [hn i hil,← Go.WideShapes.add_plain]
    exact hf i hil
  ·by_cases hil:i<len*K
   ·obtain ⟨z,hz,hb⟩:=each i hil
    rw [hn i hil];simp only [f,hz];exact hb
   ·rw [nth,List.getD,List.getElem?_eq_none (by simp; omega)]
    simp
end
section
open Go.ChangeShapes Go.WideShapes Go.ChangeAt Go.RowKit
def Holds1 (P:Program) (e:TypeId) (K:Nat):Prop :=
 P.cellsOf e=1∧∀ (H:Type) (enc:TypeId × Value→H) (w:World) (fuel:Nat) (v:Value) (x:DataW H × List MemPlace),
  DataW.trod enc P w 0 (fun _=>true) true fuel e [v]=some x→(∀ p ∈ x.2,p.block<w.heap.size) →
   ∃ (A:Option Addr) (n c:Nat) (zs:List Int),v = .slice A n c∧RecsAt w w.heap.size K A n zs∧n≤c∧c≤maxLen∧∀ i,-9223372036854775808≤nth zs i∧nth zs i≤9223372036854775807
theorem holds1_slice {P:Program} {t e:TypeId} {K:Nat} (ht:P.underlying t=some (.slice e)) (hfl:Flat P e K) (hK:0<K) (hc:P.cellsOf t=1):Holds1 P t K :=
 ⟨hc,fun _ _ _ _ _ _ h hlt=>open_recs_cell ht hfl hK h hlt⟩
theorem holds1_struct {P:Program} {t:TypeId} {f:Field} {K:Nat} (ht:P.underlying t=some (.struct #[f])) (h1:Holds1 P f.type K) (ho:f.offset=0) (hc:P.cellsOf t=1):Holds1 P t K:=by
 refine ⟨hc,fun H enc w fuel v x h hlt => ?_⟩;obtain ⟨y0,n,rfl,_,hy⟩:=trod_struct1 ht h;rw [ho,h1.1] at hy;exact h1.2 H enc w n v y0 (by simpa using hy) (by simpa using hlt)
section
variable {w w' : World} {B B' K n : Nat} {A : Option Addr} {L : List (Nat × List Int)}
theorem nestAt_row {g:Nat} {t:TypeId} {f:Nat→Value} (h:w.rowIs g t n f) (hL:L.length=n) (hf:∀ i,i<n→∃ (Ai:Option Addr) (ci:Nat),f i = .slice Ai (rowN L i) ci∧RecsAt w w.heap.size K Ai (rowN L i) (rowZ L i)∧rowN L i≤ci∧ci≤maxLen):NestAt w w.heap.size K (some ⟨g,0,none⟩) n L :=
 ⟨hL,fun _=>⟨g,0,rfl,h.lt,fun i hi=>by
  obtain ⟨Ai,ci,h1,h2⟩:=hf i hi;exact ⟨Ai,ci,by rw [Nat.zero_add,h.cell hi,h1],h2⟩⟩⟩
end
theorem open_nest_cell {H:Type} {enc:TypeId × Value→H} {P:Program} {W:World} {t e:TypeId} {K fuel:Nat} {v:Value} {x:DataW H × List MemPlace} (ht:P.underlying t=some (.slice e)) (h1:Holds1 P e K)
  (h:DataW.trod enc P W 0 (fun _=>true) true fuel t [v]=some x) (hlt:∀ p ∈ x.2,p.block<W.heap.size) :
  ∃ (A:Option Addr) (n c:Nat) (L:List (Nat × List Int)),v = .slice A n c∧NestAt W W.heap.size K A n L∧n≤c∧c≤maxLen∧∀ i j,-9223372036854775808≤nth (rowZ L i) j∧nth (rowZ L i) j≤9223372036854775807:=by
 rcases Deep.open_slice1 ht h1.1 h with ⟨h0,_⟩ | ⟨a,len,cap,m,n,V,D,Pl,hcs,_,hl,hm,hmm,hx,hi⟩
 ·simp at h0
  subst h0;exact ⟨none,0,0,[],rfl,NestAt.nil,Nat.le_refl _,by simp [maxLen],fun i j=>by simp [nth,rowZ]⟩
 ·simp at hcs
  subst hcs;simp only [if_true] at hmm;subst hmm;have each:∀ i,i<len→∃ q:Nat × List Int,∃ (A:Option Addr) (c:Nat),V i = .slice A q.1 c∧RecsAt W W.heap.size K A q.1 q.2∧q.1≤c∧c≤maxLen∧∀ i,-9223372036854775808≤nth q.2 i∧nth q.2 i≤9223372036854775807:=by
   intro i hil;obtain ⟨_,hd⟩:=hi i (by omega);obtain ⟨A,n',c,zs,e1,e2,e3⟩:=h1.2 H enc W n (V i) _ hd (fun p hp=>hlt p (by
    rw [hx];simp only [List.mem_append,List.mem_flatMap];exact .inr ⟨i,by simp; omega,hp⟩))
   exact ⟨(n',zs),A,c,e1,e2,e3⟩
  obtain ⟨Q,hQ⟩:=Deep.choose_lt each;have hg:∀ i,i<len→(((List.range len).map Q).getD i (0,[]))=Q i:=by
   intro i hil;simp [List.getD,hil]
  refine ⟨some a,len,m,(List.range len).map Q,rfl,⟨by simp,fun hlen => ?_⟩,hl,hm,fun i j => ?_⟩
  ·obtain ⟨b,off,spot⟩:=a
   have h00:=(hi 0 (by omega)).1;have hspot:spot=none:=by simpa [Addr.add] using World.cell?_spot h00
   subst hspot;refine ⟨b,off,rfl,?_,fun i hil => ?_⟩
   ·have hp:MemPlace.cell b off ∈ x.2:=by
     rw [hx];simp only [List.mem_append];left;simp [MemPlace.row];omega
    exact hlt _ hp
   ·obtain ⟨A,c,e1,e2,e3,e4,_⟩:=hQ i hil
    refine ⟨A,c,?_,?_,?_,e4⟩
    ·rw [rowN,hg i hil,← e1,← Go.WideShapes.add_plain]
     exact (hi i (by omega)).1
    ·rw [rowN,rowZ,hg i hil]
     exact e2
    ·rw [rowN,hg i hil]
     exact e3
  ·by_cases hil:i<len
   ·obtain ⟨A,c,e1,e2,e3,e4,e5⟩:=hQ i hil
    rw [rowZ,hg i hil];exact e5 j
   ·have:((List.range len).map Q).getD i (0,[])=(0,[]):=by
     rw [List.getD,List.getElem?_eq_none (by simp; omega)]
     rfl
    rw [rowZ,this];simp [nth]
end
section
open Go.RowKit
section
variable {w w' : World} {base : Nat} {E : TypeId} {g cap : Nat} {v : Value} {xs : List Int}
theorem OwnI.intsAt (h:OwnI w base E g cap xs):IntsAt w w.heap.size (some ⟨g,0,none⟩) xs.length xs :=
 ⟨rfl,fun _=>⟨g,0,rfl,h.blk.2,fun k hk=>by rw [Nat.zero_add]; exact h.cell hk⟩⟩
theorem OwnV.intsAt {A:Option Addr} {n c:Nat} (h:OwnV w base E (.slice A n c) xs):IntsAt w w.heap.size A n xs:=by
 rcases h.2 with ⟨h1,h2⟩ | ⟨g,cap,cur,h1,hr⟩
 ·simp at h1
  obtain ⟨rfl,rfl,rfl⟩:=h1;have:xs = []:=List.eq_nil_of_length_eq_zero h2;subst this;exact IntsAt.nil
 ·simp at h1
  obtain ⟨rfl,rfl,rfl⟩:=h1;exact OwnI.intsAt h
end
end
section
open Go.RowKit
section
variable {g : Nat} {w w' w'' : World}
theorem below_row {B:Nat} {g':Nat} {t:TypeId} {n:Nat} {f:Nat→Value} (h:Below B w w') (hr:w.rowIs g' t n f) (hg:g'<B):w'.rowIs g' t n f:=hr.of_block (h.block g' hg)
end
theorem fill_at (zs:List Int) {k j:Nat} (h:k≤j):fill zs k j = .int .i64 0:=by simp [fill]; omega
theorem fill_step3 (zs:List Int) (i j:Nat):(if j=i+2 then Value.int .i64 (nth zs (i+2)) else if j=i+1 then Value.int .i64 (nth zs (i+1)) else if j=i then Value.int .i64 (nth zs i) else fill zs i j)=fill zs (i+3) j:=by
 unfold fill;by_cases h2:j=i+2
 ·subst h2; simp
 ·by_cases h1:j=i+1
  ·subst h1; simp
  ·by_cases h0:j=i
   ·subst h0; simp
   ·by_cases h:j<i
    ·simp [h2,h1,h0,h,show j<i+3 by omega]
    ·simp [h2,h1,h0,h,show ¬ j<i+3 by omega]
theorem fill_step4 (zs:List Int) (i j:Nat):(if j=i+3 then Value.int .i64 (nth zs (i+3)) else if j=i+2 then Value.int .i64 (nth zs (i+2)) else if j=i+1 then Value.int .i64 (nth zs (i+1)) else if j=i then Value.int .i64 (nth zs i) else fill zs i j)=fill zs (i+4) j:=by
 unfold fill;by_cases h3:j=i+3
 ·subst h3; simp
 ·by_cases h2:j=i+2
  ·subst h2; simp
  ·by_cases h1:j=i+1
   ·subst h1; simp
   ·by_cases h0:j=i
    ·subst h0; simp
    ·by_cases h:j<i
     ·simp [h3,h2,h1,h0,h,show j<i+4 by omega]
     ·simp [h3,h2,h1,h0,h,show ¬ j<i+4 by omega]
def marks (f:Nat→Value) (k0:Int) (m j:Nat):Value:=if j<m then .int .i64 (k0+j) else f j
theorem marks_0 (f:Nat→Value) (k0:Int) (j:Nat):marks f k0 0 j=f j:=by simp [marks]
theorem marks_step (f:Nat→Value) (k0:Int) (m j:Nat):(if j=m then Value.int .i64 (k0+(m:Int)) else marks f k0 m j)=marks f k0 (m+1) j:=by
 unfold marks;by_cases h:j=m
 ·subst h; simp
 ·by_cases h':j<m
  ·simp [h,h',show j<m+1 by omega]
  ·simp [h,h',show ¬ j<m+1 by omega]
def IntRow (f:Nat→Value):Prop:=∀ j,∃ z:Int,f j = .int .i64 z
theorem intRow_ints (zs:List Int):IntRow (ints zs):=fun _=>⟨_,rfl⟩
end
end Go.Proofs.YtjcgklifabcfkaaGreat
section
namespace Go.Proofs.Tryzx
theorem func5:prog.funcs[5]?=some Tryz.f5:=by kernel_rfl
theorem func7:prog.funcs[7]?=some Tryz.f7:=by kernel_rfl
theorem func9:prog.funcs[9]?=some Tryz.f9:=by kernel_rfl
theorem func11:prog.funcs[11]?=some Tryz.f11:=by kernel_rfl
theorem func23:prog.funcs[23]?=some Tryz.f23:=by kernel_rfl
theorem func24:prog.funcs[24]?=some Tryz.f24:=by kernel_rfl
theorem func25:prog.funcs[25]?=some Tryz.f25:=by kernel_rfl
theorem func26:prog.funcs[26]?=some Tryz.f26:=by kernel_rfl
theorem func28:prog.funcs[28]?=some Tryz.f28:=by kernel_rfl
theorem func29:prog.funcs[29]?=some Tryz.f29:=by kernel_rfl
theorem func31:prog.funcs[31]?=some Tryz.f31:=by kernel_rfl
theorem func32:prog.funcs[32]?=some Tryz.f32:=by kernel_rfl
theorem func33:prog.funcs[33]?=some Tryz.f33:=by kernel_rfl
theorem func34:prog.funcs[34]?=some Tryz.f34:=by kernel_rfl
theorem func47:prog.funcs[47]?=some Tryz.f47:=by kernel_rfl
theorem func48:prog.funcs[48]?=some Tryz.f48:=by kernel_rfl
theorem func50:prog.funcs[50]?=some Tryz.f50:=by kernel_rfl
theorem func51:prog.funcs[51]?=some Tryz.f51:=by kernel_rfl
theorem func54:prog.funcs[54]?=some Tryz.f54:=by kernel_rfl
theorem func55:prog.funcs[55]?=some Tryz.f55:=by kernel_rfl
theorem func56:prog.funcs[56]?=some Tryz.f56:=by kernel_rfl
theorem func57:prog.funcs[57]?=some Tryz.f57:=by kernel_rfl
theorem func75:prog.funcs[75]?=some Tryz.f75:=by kernel_rfl
theorem func76:prog.funcs[76]?=some Tryz.f76:=by kernel_rfl
theorem func78:prog.funcs[78]?=some Tryz.f78:=by kernel_rfl
theorem func80:prog.funcs[80]?=some Tryz.f80:=by kernel_rfl
theorem func81:prog.funcs[81]?=some Tryz.f81:=by kernel_rfl
theorem func82:prog.funcs[82]?=some Tryz.f82:=by kernel_rfl
theorem func83:prog.funcs[83]?=some Tryz.f83:=by kernel_rfl
theorem func102:prog.funcs[102]?=some Tryz.f102:=by kernel_rfl
theorem func103:prog.funcs[103]?=some Tryz.f103:=by kernel_rfl
theorem func122:prog.funcs[122]?=some Tryz.f122:=by kernel_rfl
theorem func123:prog.funcs[123]?=some Tryz.f123:=by kernel_rfl
@[simp] theorem call5 (args w):Sem.run prog (callFunc 5 args) w = .ok (.enter 5 args) w:=call_x 5 args w func5
@[simp] theorem call7 (args w):Sem.run prog (callFunc 7 args) w = .ok (.enter 7 args) w:=call_x 7 args w func7
@[simp] theorem call9 (args w):Sem.run prog (callFunc 9 args) w = .ok (.enter 9 args) w:=call_x 9 args w func9
@[simp] theorem call11 (args w):Sem.run prog (callFunc 11 args) w = .ok (.enter 11 args) w:=call_x 11 args w func11
@[simp] theorem call23 (args w):Sem.run prog (callFunc 23 args) w = .ok (.enter 23 args) w:=call_x 23 args w func23
@[simp] theorem call24 (args w):Sem.run prog (callFunc 24 args) w = .ok (.enter 24 args) w:=call_x 24 args w func24
@[simp] theorem call25 (args w):Sem.run prog (callFunc 25 args) w = .ok (.enter 25 args) w:=call_x 25 args w func25
@[simp] theorem call26 (args w):Sem.run prog (callFunc 26 args) w = .ok (.enter 26 args) w:=call_x 26 args w func26
@[simp] theorem call28 (args w):Sem.run prog (callFunc 28 args) w = .ok (.enter 28 args) w:=call_x 28 args w func28
@[simp] theorem call29 (args w):Sem.run prog (callFunc 29 args) w = .ok (.enter 29 args) w:=call_x 29 args w func29
@[simp] theorem call31 (args w):Sem.run prog (callFunc 31 args) w = .ok (.enter 31 args) w:=call_x 31 args w func31
@[simp] theorem call32 (args w):Sem.run prog (callFunc 32 args) w = .ok (.enter 32 args) w:=call_x 32 args w func32
@[simp] theorem call33 (args w):Sem.run prog (callFunc 33 args) w = .ok (.enter 33 args) w:=call_x 33 args w func33
@[simp] theorem call34 (args w):Sem.run prog (callFunc 34 args) w = .ok (.enter 34 args) w:=call_x 34 args w func34
@[simp] theorem call47 (args w):Sem.run prog (callFunc 47 args) w = .ok (.enter 47 args) w:=call_x 47 args w func47
@[simp] theorem call48 (args w):Sem.run prog (callFunc 48 args) w = .ok (.enter 48 args) w:=call_x 48 args w func48
@[simp] theorem call50 (args w):Sem.run prog (callFunc 50 args) w = .ok (.enter 50 args) w:=call_x 50 args w func50
@[simp] theorem call51 (args w):Sem.run prog (callFunc 51 args) w = .ok (.enter 51 args) w:=call_x 51 args w func51
@[simp] theorem call54 (args w):Sem.run prog (callFunc 54 args) w = .ok (.enter 54 args) w:=call_x 54 args w func54
@[simp] theorem call55 (args w):Sem.run prog (callFunc 55 args) w = .ok (.enter 55 args) w:=call_x 55 args w func55
@[simp] theorem call56 (args w):Sem.run prog (callFunc 56 args) w = .ok (.enter 56 args) w:=call_x 56 args w func56
@[simp] theorem call57 (args w):Sem.run prog (callFunc 57 args) w = .ok (.enter 57 args) w:=call_x 57 args w func57
@[simp] theorem call75 (args w):Sem.run prog (callFunc 75 args) w = .ok (.enter 75 args) w:=call_x 75 args w func75
@[simp] theorem call76 (args w):Sem.run prog (callFunc 76 args) w = .ok (.enter 76 args) w:=call_x 76 args w func76
@[simp] theorem call78 (args w):Sem.run prog (callFunc 78 args) w = .ok (.enter 78 args) w:=call_x 78 args w func78
@[simp] theorem call80 (args w):Sem.run prog (callFunc 80 args) w = .ok (.enter 80 args) w:=call_x 80 args w func80
@[simp] theorem call81 (args w):Sem.run prog (callFunc 81 args) w = .ok (.enter 81 args) w:=call_x 81 args w func81
@[simp] theorem call82 (args w):Sem.run prog (callFunc 82 args) w = .ok (.enter 82 args) w:=call_x 82 args w func82
@[simp] theorem call83 (args w):Sem.run prog (callFunc 83 args) w = .ok (.enter 83 args) w:=call_x 83 args w func83
@[simp] theorem call102 (args w):Sem.run prog (callFunc 102 args) w = .ok (.enter 102 args) w:=call_x 102 args w func102
@[simp] theorem call103 (args w):Sem.run prog (callFunc 103 args) w = .ok (.enter 103 args) w:=call_x 103 args w func103
@[simp] theorem call122 (args w):Sem.run prog (callFunc 122 args) w = .ok (.enter 122 args) w:=call_x 122 args w func122
@[simp] theorem call123 (args w):Sem.run prog (callFunc 123 args) w = .ok (.enter 123 args) w:=call_x 123 args w func123
end Go.Proofs.Tryzx
end
namespace Go.Proofs.YtjcgklifabcfkaaGreat
namespace X
open Go.RowKit
def agree (xs ys:List Int) (k:Nat):Prop:=∀ j,j<k→nth xs j=nth ys j
theorem agree_step {xs ys:List Int} {k:Nat} (h:agree xs ys k) (e:nth xs k=nth ys k):agree xs ys (k+1):=by
 intro j hj;by_cases hjk:j=k
 ·subst hjk; exact e
 ·exact h j (by omega)
def eqL (xs ys:List Int):Bool:=decide (xs=ys)
theorem eqL_refl (xs:List Int):eqL xs xs=true:=by simp [eqL]
set_option maxHeartbeats 400000 in
theorem eqIntS_any (A A':Option Addr) (n n' c c':Nat) (xs ys:List Int) (w:World) (hx:IntsAt w w.heap.size A n xs) (hy:IntsAt w w.heap.size A' n' ys) (hn:n≤1048576) (hn':n'≤1048576) :
  Calls Tryzx.prog 23 #[.slice A n c,.slice A' n' c'] w fun e w'=>e = .returned (.bool (eqL xs ys))∧Below w.heap.size w w':=by
 by_cases hl:n=n'
 ·subst hl
  have HX:=Lib.hid hx;have HY:=Lib.hid hy;clear hx hy;have ht:((n:Int) != (n:Int))=false:=by simp
  go_enter Tryzx.func23,Tryz.ntmps23;go_wp2;go_loopw [5] (fun i wr=>∃ k:Nat,k≤n∧i = .int .i64 k∧agree xs ys k∧Below w.heap.size w wr) (fun i _=>n - (intOf i).toNat)
  case atStart=>exact ⟨0,Nat.zero_le _,rfl,fun j hj=>absurd hj (by omega),Below.refl _ _⟩
  case round =>
   obtain ⟨k,hk,rfl,hag,hb⟩:=hrel;have HB:=Lib.hid hb;by_cases hlt:k<n
   ·obtain ⟨b,off,rfl,hbB,hc⟩:=HX.out.2 (by omega)
    obtain ⟨b',off',rfl,hbB',hc'⟩:=HY.out.2 (by omega);have hcx:wr.cell? ⟨b,off+k,none⟩=some (.int .i64 (nth xs k)):=(hb.cell (by exact hbB)).trans (hc k hlt);have hcy:wr.cell? ⟨b',off'+k,none⟩=some (.int .i64 (nth ys k)):=(hb.cell (by exact hbB')).trans (hc' k hlt);have hki:(k:Int)<(n:Int):=by omega
    have hk0:(0:Int)≤(k:Int):=by omega
    clear hc hc' hb;by_cases he:nth xs k=nth ys k
    ·have hne:(nth xs k != nth ys k)=false:=by simp [he]
     have HE:=Lib.hid he;clear he;go_wp2;go_quiet (fail)
     go_wp2;go_roundw
     case rel=>exact ⟨k+1,by omega,by go_num,agree_step hag HE.out,below_drewN HB.out _⟩
     case measure=>simp [intOf]; omega
    ·have hne:(nth xs k != nth ys k)=true:=by simp [he]
     have HE:=Lib.hid he;clear he;go_wp2;go_quiet (fail)
     go_wp2;go_ret;refine ⟨ret_bool ?_,below_drewN HB.out _⟩;have:xs ≠ ys:=fun e=>HE.out (by rw [e])
     simp [eqL,this]
   ·have hkn:k=n:=by omega
    subst hkn;clear hb;go_wp2;go_ret;refine ⟨ret_bool ?_,HB.out⟩;have:xs=ys:=list_ext_nth (by rw [HX.out.1,HY.out.1]) (fun j hj=>hag j (by rw [HX.out.1] at hj; exact hj));simp [eqL,this]
 ·have H:=Lib.hid (show xs ≠ ys from fun e=>hl (by rw [← hx.1,← hy.1,e]))
  have ht:((n:Int) != (n':Int))=true:=by simp; omega
  clear hx hy;go_enter Tryzx.func23,Tryz.ntmps23;go_wp2;go_ret;exact ⟨ret_bool (by simp [eqL,H.out]),Below.refl _ _⟩
end X
namespace X
open Go.RowKit
section
variable {w w1 w2 : World}
end
theorem calls_below {P:Program} {f:FuncId} {args:Array Value} {w:World} {e0:Ending} (h:Calls P f args w fun e w'=>e=e0∧w=w'):Calls P f args w fun e w'=>e=e0∧Below w.heap.size w w' :=
 h.mono fun _ _ ⟨he,hw⟩=>⟨he,by subst hw; exact Below.refl _ _⟩
end X
namespace Rn
open Go.Conc Go.WideShapes
section
variable {P : Program} {w : World} {r : Reach} {base : Nat} {t e u : TypeId} {fs : Array Field} {A : Option Addr} {n c : Nat}
end
section
variable {noT : TypeId} {ws : List Win} {v : World} {B K n i : Nat} {A : Option Addr} {zs : List Int}
theorem winOf_ok (hat:AtCells v A) (h:RecsAt v B K A n zs):WinOk noT ws v (winOf .i64 A (n*K) zs):=by
 cases A with
 | none=>intro hl; cases hl
 | some a =>
  intro _;obtain ⟨hs,c,t,z,hh⟩:=hat a rfl;refine ⟨c,t,z,hh,fun k u hu => ?_⟩;have hk:k<n*K:=by
   have:=(Array.getElem?_eq_some_iff.1 hu).1;simpa [winOf] using this
  have hn:0<n:=by
   rcases Nat.eq_zero_or_pos n with e | e
   ·rw [e,Nat.zero_mul] at hk; omega
   ·exact e
  have hu':u = .int .i64 (nth zs k):=by
   simp [winOf,hk] at hu;exact hu.symm
  subst hu';obtain ⟨b,off,e,_,hc⟩:=h.2 hn;cases e;have:=hc k hk;simp only [World.cell?,hh,Option.isSome_none,Bool.false_eq_true,if_false] at this;exact ⟨_,by rw [Nat.add_comm]; exact this,.int _ _⟩
theorem lone_recs (h:RecsAt v B K A n zs) (hi:ws[i]?=some (winOf .i64 A (n*K) zs)) (t:Tp) (d:Nat):RecsAt ((lworld noT ws v).tp t d) ((lworld noT ws v).tp t d).heap.size K (lA A i) n zs:=by
 refine ⟨h.1,fun hn => ?_⟩;obtain ⟨b,off,rfl,_,_⟩:=h.2 hn;refine ⟨Tryz.prog.globals.size+i,0,rfl,?_,fun k hk => ?_⟩
 ·show _<(lworld noT ws v).heap.size
  rw [l_size];have:=(List.getElem?_eq_some_iff.1 hi).1;omega
 ·show (match (lworld noT ws v).heap[Tryz.prog.globals.size+i]? with | some (.cells c _ _)=>c[0+k]? | _=>none)=_
  rw [l_at hi];simp [winOf,hk]
end
end Rn
namespace Rn
open Go.Conc Go.WideShapes Go.ChangeShapes Go.ChangeAt
theorem pair_atCells {P:Program} {w:World} {r:Reach} {base:Nat} {t u u' e e':TypeId} {fs:Array Field} {A B:Option Addr} {n c q d:Nat} (ht:P.underlying t=some (.struct fs)) (hc:P.cellTypes P.depth t=some [u,u']) (hu:P.underlying u=some (.slice e)) (hu':P.underlying u'=some (.slice e')) (h:Value.okWide P w r base t (.agg #[.slice A n c,.slice B q d])):AtCells w A∧AtCells w B:=by
 simp only [Value.okWide,ht] at h;obtain ⟨cs,e1,_,ts,h2,_,h3⟩:=h;cases e1;rw [hc] at h2; cases h2;obtain ⟨v,hv,h4⟩:=h3 0 _ rfl;obtain ⟨v',hv',h5⟩:=h3 1 _ rfl;simp at hv hv';subst hv;subst hv';exact ⟨cell_atCells hu h4,cell_atCells hu' h5⟩
def AtRoom (w:World) (A:Option Addr) (c:Nat):Prop:=c=0 ∨ AtCells w A
theorem cell_block {w:World} {p:Addr} {u:Value} (h:w.cell? p=some u):p.spot=none∧∃ c t z,w.heap[p.block]?=some (.cells c t z):=by
 have hs:=World.cell?_spot h;refine ⟨hs,?_⟩;cases hb:w.heap[p.block]? with
 | none=>simp [World.cell?,hb] at h
 | some o =>
  cases o with
  | cells c t z=>exact ⟨c,t,z,rfl⟩
  | _=>simp [World.cell?,hb] at h
def Room1 (P:Program) (e:TypeId):Prop:=P.cellsOf e=1∧∀ (H:Type) (enc:TypeId × Value→H) (w:World) (fuel:Nat) (v:Value) (x:DataW H × List MemPlace),
 DataW.trod enc P w 0 (fun _=>true) true fuel e [v]=some x→∀ (A:Option Addr) (n c:Nat),v = .slice A n c→AtRoom w A c
theorem room1_slice {P:Program} {t e:TypeId} {K:Nat} (ht:P.underlying t=some (.slice e)) (hfl:Flat P e K) (hK:0<K) (hc:P.cellsOf t=1):Room1 P t:=by
 refine ⟨hc,fun H enc W fuel v x h => ?_⟩;rcases Deep.open_slice ht h with ⟨h0,_⟩ | ⟨a,len,cap,m,n,D,Pl,hcs,_,hl,hm,hmm,hx,hi⟩
 ·simp at h0
  subst h0;intro A n c e;cases e;exact .inl rfl
 ·simp at hcs
  subst hcs;simp only [if_true] at hmm;subst hmm;intro A n' c e;simp only [Value.slice.injEq] at e;obtain ⟨rfl,rfl,rfl⟩:=e;by_cases h0:m=0
  ·exact .inl h0
  ·refine .inr fun a' ea => ?_
   cases ea;obtain ⟨cs',hc',ht'⟩:=hi 0 (by omega);rw [hfl.1] at hc';obtain ⟨_,hcl,hat⟩:=World.cells?_some hc';have hcell:=hat 0 hK;have hcs0:0<cs'.length:=by omega
   rw [List.getElem?_eq_getElem hcs0] at hcell;obtain ⟨h1,h2⟩:=cell_block hcell;exact ⟨by simpa [Addr.add] using h1,by simpa [Addr.add] using h2⟩
theorem room1_struct {P:Program} {t:TypeId} {f:Field} (ht:P.underlying t=some (.struct #[f])) (h1:Room1 P f.type) (ho:f.offset=0) (hc:P.cellsOf t=1):Room1 P t:=by
 refine ⟨hc,fun H enc w fuel v x h => ?_⟩;obtain ⟨y0,n,rfl,_,hy⟩:=trod_struct1 ht h;rw [ho,h1.1] at hy;exact h1.2 H enc w n v y0 (by simpa using hy)
def InnerOk (v:World) (A:Option Addr) (n:Nat):Prop:=∀ i,i<n→∀ b off,A=some ⟨b,off,none⟩→∀ Ai ni ci,v.cell? ⟨b,off+i,none⟩=some (.slice Ai ni ci)→AtRoom v Ai ci
theorem open_inner {H:Type} {enc:TypeId × Value→H} {P:Program} {W:World} {t e:TypeId} {fuel:Nat} {A:Option Addr} {n c:Nat} {x:DataW H × List MemPlace} (ht:P.underlying t=some (.slice e)) (h1:Room1 P e)
  (h:DataW.trod enc P W 0 (fun _=>true) true fuel t [.slice A n c]=some x):InnerOk W A n:=by
 rcases Deep.open_slice1 ht h1.1 h with ⟨h0,_⟩ | ⟨a,len,cap,m,k,V,D,Pl,hcs,_,hl,hm,hmm,hx,hi⟩
 ·simp at h0
  obtain ⟨rfl,rfl,rfl⟩:=h0;intro i hi;omega
 ·simp at hcs
  obtain ⟨rfl,rfl,rfl⟩:=hcs;simp only [if_true] at hmm;intro i hin b off ea Ai ni ci hcell;cases ea;obtain ⟨hv,hd⟩:=hi i (by omega);rw [Go.WideShapes.add_plain] at hv;rw [hcell] at hv;exact h1.2 H enc W k (V i) _ hd Ai ni ci (Option.some.inj hv).symm
noncomputable def innV (v:World) (A:Option Addr) (i:Nat):Value:=match A with
 | some a=>(v.cell? ⟨a.block,a.off+i,none⟩).getD undef
 | none=>undef
def inA:Value→Option Addr
 | .slice A _ _=>A
 | _=>none
def inC:Value→Nat
 | .slice _ _ c=>c
 | _=>0
noncomputable def inWin (K:Nat) (v:World) (A:Option Addr) (L:List (Nat × List Int)) (i:Nat):Win:=if inC (innV v A i)=0 then ⟨false,0,0,#[]⟩ else winOf .i64 (inA (innV v A i)) (rowN L i*K) (rowZ L i)
noncomputable def inVal (base:Nat) (v:World) (A:Option Addr) (L:List (Nat × List Int)) (i:Nat):Value:=if inC (innV v A i)=0 then .slice (inA (innV v A i)) 0 0 else .slice (lA (inA (innV v A i)) (base+i)) (rowN L i) (inC (innV v A i))
noncomputable def outWin (base:Nat) (v:World) (A:Option Addr) (n:Nat) (L:List (Nat × List Int)):Win:=match A with
 | none=>⟨false,0,0,#[]⟩
 | some a=>⟨true,a.block,a.off,((List.range n).map fun i=>inVal base v A L i).toArray⟩
section
variable {noT : TypeId} {ws : List Win} {v : World} {B K n c i base o : Nat} {A : Option Addr} {L : List (Nat × List Int)}
theorem inner_is (h:NestAt v B K A n L) (hin:InnerOk v A n) (hi:i<n):∃ b off Ai ci,A=some ⟨b,off,none⟩∧v.cell? ⟨b,off+i,none⟩=some (.slice Ai (rowN L i) ci)∧innV v A i = .slice Ai (rowN L i) ci∧RecsAt v B K Ai (rowN L i) (rowZ L i)∧rowN L i≤ci∧ci≤maxLen∧AtRoom v Ai ci:=by
 obtain ⟨b,off,rfl,hb,hc⟩:=h.2 (by omega);obtain ⟨Ai,ci,h1,h2,h3,h4⟩:=hc i hi;exact ⟨b,off,Ai,ci,rfl,h1,by simp [innV,h1],h2,h3,h4,hin i hi b off rfl Ai _ ci h1⟩
theorem inWin_ok (h:NestAt v B K A n L) (hin:InnerOk v A n) (hi:i<n):WinOk noT ws v (inWin K v A L i):=by
 obtain ⟨b,off,Ai,ci,rfl,h1,h2,h3,h4,h5,h6⟩:=inner_is h hin hi;unfold inWin;rw [h2];by_cases e:ci=0
 ·rw [if_pos (show inC (.slice Ai (rowN L i) ci)=0 from e)]
  intro hl;cases hl
 ·rw [if_neg (show ¬ inC (.slice Ai (rowN L i) ci)=0 from e)]
  exact winOf_ok (h6.resolve_left e) h3
theorem vr_inner (h:NestAt v B K A n L) (hin:InnerOk v A n) (hws:∀ i,i<n→ws[base+i]?=some (inWin K v A L i)) (hi:i<n):VR (gctx noT ws) (lR ws) (inVal base v A L i) (innV v A i):=by
 obtain ⟨b,off,Ai,ci,rfl,h1,h2,h3,h4,h5,h6⟩:=inner_is h hin hi;have hw:=hws i hi;unfold inWin at hw;unfold inVal;rw [h2] at hw ⊢;by_cases e:ci=0
 ·rw [if_pos (show inC (.slice Ai (rowN L i) ci)=0 from e)]
  have e2:rowN L i=0:=by omega
  rw [e2,e];show VR _ _ (.slice Ai 0 0) (.slice Ai 0 0)
  cases Ai with
  | none=>exact .sl0 0 0
  | some a=>exact .slE a a
 ·rw [if_neg (show ¬ inC (.slice Ai (rowN L i) ci)=0 from e)] at hw ⊢
  exact vr_slice (h6.resolve_left e) hw
theorem outWin_ok (hat:AtCells v A) (h:NestAt v B K A n L) (hin:InnerOk v A n) (hws:∀ i,i<n→ws[base+i]?=some (inWin K v A L i)):WinOk noT ws v (outWin base v A n L):=by
 cases A with
 | none=>intro hl; cases hl
 | some a =>
  intro _;obtain ⟨hs,cc,t,z,hh⟩:=hat a rfl;refine ⟨cc,t,z,hh,fun k u hu => ?_⟩;have hk:k<n:=by
   have:=(Array.getElem?_eq_some_iff.1 hu).1;simpa [outWin] using this
  have hu':u=inVal base v (some a) L k:=by
   simp [outWin,hk] at hu;exact hu.symm
  subst hu';obtain ⟨b,off,Ai,ci,ea,h1,h2,_⟩:=inner_is h hin hk;cases ea;have h1':=h1;simp only [World.cell?,hh,Option.isSome_none,Bool.false_eq_true,if_false] at h1';refine ⟨_,by rw [Nat.add_comm]; exact h1',?_⟩;rw [← h2];exact vr_inner h hin hws hk
theorem vr_out (hat:AtCells v A) (hi:ws[o]?=some (outWin base v A n L)):VR (gctx noT ws) (lR ws) (.slice (lA A o) n c) (.slice A n c):=by
 cases A with
 | none=>exact .sl0 _ _
 | some a =>
  refine .sl _ _ ⟨⟨o,_,hi,rfl,rfl,rfl⟩,?_,(hat a rfl).1⟩;have hlt:=(List.getElem?_eq_some_iff.1 hi).1;show a.off=0+(if Tryz.prog.globals.size≤Tryz.prog.globals.size+o∧Tryz.prog.globals.size+o<Tryz.prog.globals.size+ws.length then ((ws[Tryz.prog.globals.size+o - Tryz.prog.globals.size]?).map (·.off)).getD 0 else 0)
  rw [if_pos ⟨by omega,by omega⟩,Nat.add_sub_cancel_left,hi];simp [outWin]
theorem lone_nest (h:NestAt v B K A n L) (hin:InnerOk v A n) (ho:ws[o]?=some (outWin base v A n L)) (hws:∀ i,i<n→ws[base+i]?=some (inWin K v A L i)) (t:Tp) (d:Nat) :
  NestAt ((lworld noT ws v).tp t d) ((lworld noT ws v).tp t d).heap.size K (lA A o) n L:=by
 refine ⟨h.1,fun hn => ?_⟩;obtain ⟨b,off,rfl,_,_⟩:=h.2 hn;refine ⟨Tryz.prog.globals.size+o,0,rfl,?_,fun i hi => ?_⟩
 ·show _<(lworld noT ws v).heap.size
  rw [l_size];have:=(List.getElem?_eq_some_iff.1 ho).1;omega
 ·obtain ⟨b',off',Ai,ci,ea,h1,h2,h3,h4,h5,h6⟩:=inner_is h hin hi
  have hcell:((lworld noT ws v).tp t d).cell? ⟨Tryz.prog.globals.size+o,0+i,none⟩=some (inVal base v (some ⟨b,off,none⟩) L i):=by
   show (match (lworld noT ws v).heap[Tryz.prog.globals.size+o]? with | some (.cells c _ _)=>c[0+i]? | _=>none)=_
   rw [l_at ho];simp [outWin,hi]
  have hw:=hws i hi;rw [hcell];unfold inWin at hw;unfold inVal;rw [h2] at hw ⊢;by_cases e:ci=0
  ·rw [if_pos (show inC (.slice Ai (rowN L i) ci)=0 from e)]
   have e2:rowN L i=0:=by omega
   rw [e2];refine ⟨Ai,0,rfl,⟨by have:=h3.1; rw [e2] at this; exact this,fun h0=>absurd h0 (by omega)⟩,Nat.le_refl _,Nat.zero_le _⟩
  ·rw [if_neg (show ¬ inC (.slice Ai (rowN L i) ci)=0 from e)] at hw ⊢
   exact ⟨_,_,rfl,lone_recs h3 hw t d,h4,h5⟩
end
noncomputable def vWins (v:World) (A:Option Addr) (n:Nat) (L:List (Nat × List Int)) (B:Option Addr) (q:Nat) (M:List (Nat × List Int)):List Win :=
 outWin 2 v A n L :: outWin (2+n) v B q M :: ((List.range n).map (inWin 4 v A L) ++ (List.range q).map (inWin 3 v B M))
section
variable {noT : TypeId} {v : World} {A B : Option Addr} {n q C : Nat} {L M : List (Nat × List Int)}
theorem vWins_in {i:Nat} (hi:i<n):(vWins v A n L B q M)[2+i]?=some (inWin 4 v A L i):=by
 unfold vWins;rw [show 2+i=i+1+1 by omega,List.getElem?_cons_succ,List.getElem?_cons_succ,List.getElem?_append_left (by simpa using hi)];simp [hi]
theorem vWins_in2 {j:Nat} (hj:j<q):(vWins v A n L B q M)[2+n+j]?=some (inWin 3 v B M j):=by
 unfold vWins;rw [show 2+n+j=(n+j)+1+1 by omega,List.getElem?_cons_succ,List.getElem?_cons_succ,List.getElem?_append_right (by simp)];simp [hj]
theorem vWins_ok (ha:AtCells v A) (hb:AtCells v B) (h:NestAt v C 4 A n L) (hin:InnerOk v A n) (h':NestAt v C 3 B q M) (hin':InnerOk v B q):WinsOk noT (vWins v A n L B q M) v:=by
 refine winsOk_nil.2 fun x hx => ?_
 unfold vWins at hx;simp only [List.mem_cons,List.mem_append,List.mem_map,List.mem_range] at hx;rcases hx with rfl | rfl | ⟨i,hi,rfl⟩ | ⟨i,hi,rfl⟩
 ·exact outWin_ok ha h hin fun i hi=>vWins_in hi
 ·exact outWin_ok hb h' hin' fun i hi=>vWins_in2 hi
 ·exact inWin_ok h hin hi
 ·exact inWin_ok h' hin' hi
end
end Rn
end Go.Proofs.YtjcgklifabcfkaaGreat
section
namespace Go.Proofs.Tryzx
theorem ntmps5:Tryz.f5.ntmps=69:=Tryz.ntmps5
theorem ntmps7:Tryz.f7.ntmps=18:=Tryz.ntmps7
theorem ntmps9:Tryz.f9.ntmps=13:=Tryz.ntmps9
theorem ntmps11:Tryz.f11.ntmps=17:=Tryz.ntmps11
theorem ntmps24:Tryz.f24.ntmps=14:=Tryz.ntmps24
theorem ntmps28:Tryz.f28.ntmps=27:=Tryz.ntmps28
theorem ntmps29:Tryz.f29.ntmps=27:=Tryz.ntmps29
theorem ntmps31:Tryz.f31.ntmps=23:=Tryz.ntmps31
theorem ntmps32:Tryz.f32.ntmps=23:=Tryz.ntmps32
theorem ntmps33:Tryz.f33.ntmps=27:=Tryz.ntmps33
theorem ntmps34:Tryz.f34.ntmps=27:=Tryz.ntmps34
theorem ntmps47:Tryz.f47.ntmps=20:=Tryz.ntmps47
theorem ntmps48:Tryz.f48.ntmps=19:=Tryz.ntmps48
theorem ntmps50:Tryz.f50.ntmps=12:=Tryz.ntmps50
theorem ntmps51:Tryz.f51.ntmps=12:=Tryz.ntmps51
theorem ntmps54:Tryz.f54.ntmps=9:=Tryz.ntmps54
theorem ntmps55:Tryz.f55.ntmps=23:=Tryz.ntmps55
theorem ntmps56:Tryz.f56.ntmps=11:=Tryz.ntmps56
theorem ntmps57:Tryz.f57.ntmps=27:=Tryz.ntmps57
theorem ntmps75:Tryz.f75.ntmps=45:=Tryz.ntmps75
theorem ntmps76:Tryz.f76.ntmps=34:=Tryz.ntmps76
theorem ntmps78:Tryz.f78.ntmps=12:=Tryz.ntmps78
theorem ntmps80:Tryz.f80.ntmps=23:=Tryz.ntmps80
theorem ntmps81:Tryz.f81.ntmps=14:=Tryz.ntmps81
theorem ntmps82:Tryz.f82.ntmps=27:=Tryz.ntmps82
theorem ntmps83:Tryz.f83.ntmps=20:=Tryz.ntmps83
theorem ntmps102:Tryz.f102.ntmps=13:=Tryz.ntmps102
theorem ntmps103:Tryz.f103.ntmps=17:=Tryz.ntmps103
theorem ntmps122:Tryz.f122.ntmps=11:=Tryz.ntmps122
theorem ntmps123:Tryz.f123.ntmps=15:=Tryz.ntmps123
end Go.Proofs.Tryzx
end
namespace Go.Proofs.YtjcgklifabcfkaaGreat
section
open Go.RowKit
theorem OwnV.slice {w:World} {base:Nat} {E:TypeId} {v:Value} {xs:List Int} (h:OwnV w base E v xs):∃ A k c,v = .slice A k c:=by
 rcases h.form with ⟨e,_⟩ | ⟨g,cap,e,_⟩
 ·exact ⟨_,_,_,e⟩
 ·exact ⟨_,_,_,e⟩
end
section
open Go.RowKit
def OwnC (w:World) (base:Nat) (E:TypeId) (v:Value) (n:Nat) (cs:List Value):Prop:=w.ownsRow base E 1 v n cs∧cs.length=n
section
variable {w w' : World} {base : Nat} {E : TypeId} {n : Nat} {v : Value} {cs : List Value}
theorem OwnC.alloc (h:OwnC w base E v n cs) (o:Obj):OwnC (w.alloc o) base E v n cs:=⟨World.ownsRow.alloc h.1 o,h.2⟩
theorem OwnC.ownLt (h:OwnC w base E v n cs):∀ k,v.ownBlock=some k→base≤k:=fun k hk=>(World.ownsRow.lt h.1 k hk).1
theorem OwnC.below (h:OwnC w base E v n cs) (hb:Below w.heap.size w w'):OwnC w' base E v n cs:=by
 refine ⟨⟨h.1.1,?_⟩,h.2⟩;rcases h.1.2 with h2 | ⟨g,cap,cur,h1,h2,h3,hr⟩
 ·exact .inl h2
 ·refine .inr ⟨g,cap,cur,h1,h2,(hb.block g ?_).trans h3,hr⟩
  exact (Array.getElem?_eq_some_iff.1 h3).1
theorem OwnC.new (w:World) (E:TypeId):OwnC (w.alloc (.cells #[] E)) w.heap.size E (.slice (some ⟨w.heap.size,0,none⟩) 0 0) 0 [] :=
 ⟨World.ownsRow_lit (base:=w.heap.size) (e:=E) (size:=1) w #[] 0 (Nat.le_refl _) (by simp [maxLen]) (by simp),by simp⟩
theorem OwnC.form (h:OwnC w base E v n cs):(v = .slice none 0 0∧n=0∧cs = []) ∨ ∃ g cap,v = .slice (some ⟨g,0,none⟩) n cap∧base≤g∧n≤cap∧g<w.heap.size∧∀ i,i<n→w.cell? ⟨g,i,none⟩=cs[i]?:=by
 rcases h.1.2 with ⟨h1,h2⟩ | ⟨g,cap,cur,h1,h2,h3,h4,h5,h6,h7⟩
 ·exact .inl ⟨h1,h2,List.eq_nil_of_length_eq_zero (by rw [h.2,h2])⟩
 ·refine .inr ⟨g,cap,h1,h2,h4,(Array.getElem?_eq_some_iff.1 h3).1,fun i hi => ?_⟩
  have e:(cur.toList.take (n*1))[i]?=cs[i]?:=by rw [h7]
  rw [List.getElem?_take,if_pos (by omega)] at e;rw [← e];simp [World.cell?,h3]
theorem OwnC.slice (h:OwnC w base E v n cs):∃ A c,v = .slice A n c∧n≤c:=by
 rcases h.form with ⟨rfl,rfl,_⟩ | ⟨g,cap,rfl,_,hc,_⟩
 ·exact ⟨_,_,rfl,Nat.le_refl _⟩
 ·exact ⟨_,_,rfl,hc⟩
end
end
section
open Go.RowKit
theorem OwnC.ofBlock {w w':World} {base:Nat} {E:TypeId} {n:Nat} {v:Value} {cs:List Value} (h:OwnC w base E v n cs) (e:∀ g,v.ownBlock=some g→w'.heap[g]?=w.heap[g]?):OwnC w' base E v n cs:=by
 refine ⟨⟨h.1.1,?_⟩,h.2⟩;rcases h.1.2 with h2 | ⟨g,cap,cur,h1,h2,h3,hr⟩
 ·exact .inl h2
 ·exact .inr ⟨g,cap,cur,h1,h2,(e g (by rw [h1]; simp [Value.ownBlock])).trans h3,hr⟩
theorem OwnV.apart {w:World} {base base':Nat} {E E':TypeId} {n:Nat} {v u:Value} {xs:List Int} {cs:List Value} (h:OwnV w base E v xs) (h':OwnC w base' E' u n cs) (hE:E' ≠ E) (g:Nat) (hv:v.ownBlock=some g):u.ownBlock ≠ some g:=fun hu=>by
 rcases h'.1.2 with ⟨h1,_⟩ | ⟨g0,cap,cur,h1,_,h3,_⟩
 ·rw [h1] at hu; simp [Value.ownBlock] at hu
 ·rw [h1] at hu
  simp [Value.ownBlock] at hu;subst hu;rcases h.2 with ⟨h1',_⟩ | ⟨g1,cap',cur',h1',_,h3',_⟩
  ·rw [h1'] at hv; simp [Value.ownBlock] at hv
  ·rw [h1'] at hv
   simp [Value.ownBlock] at hv;subst hv;rw [h3] at h3';simp at h3';exact hE h3'.2
end
section
open Go.RowKit
def StayBut (v:Value) (w w':World):Prop:=∀ g,g<w.heap.size→v.ownBlock ≠ some g→w'.heap[g]?=w.heap[g]?
theorem StayBut.below {v:Value} {w w':World} (h:w.grownBy w' v.ownBlock) {base:Nat} (hb:base≤w.heap.size) (ho:∀ g,v.ownBlock=some g→base≤g):Below base w w' :=
 (Below.refl base w).grown h hb ho
structure AppRes (w w':World) (base:Nat) (v v':Value):Prop where
 below:Below base w w'
 stay:StayBut v w w'
 where_:∀ g,v'.ownBlock=some g→v.ownBlock=some g ∨ w.heap.size≤g
 size:w.heap.size≤w'.heap.size
theorem OwnR.ofBlock {w w':World} {base:Nat} {E:TypeId} {K n:Nat} {v:Value} {xs:List Int} (h:OwnR w base E K v n xs) (e:∀ g,v.ownBlock=some g→w'.heap[g]?=w.heap[g]?):OwnR w' base E K v n xs:=by
 refine ⟨⟨h.1.1,?_⟩,h.2⟩;rcases h.1.2 with h2 | ⟨g,cap,cur,h1,h2,h3,hr⟩
 ·exact .inl h2
 ·exact .inr ⟨g,cap,cur,h1,h2,(e g (by rw [h1]; simp [Value.ownBlock])).trans h3,hr⟩
theorem OwnR.typeAt {w:World} {base:Nat} {E:TypeId} {K n:Nat} {v:Value} {xs:List Int} (h:OwnR w base E K v n xs) (g:Nat) (hg:v.ownBlock=some g):∃ c,w.heap[g]?=some (.cells c E):=by
 rcases h.1.2 with ⟨h1,_⟩ | ⟨g0,cap,cur,h1,_,h3,_⟩
 ·rw [h1] at hg; simp [Value.ownBlock] at hg
 ·rw [h1] at hg
  simp [Value.ownBlock] at hg;subst hg;exact ⟨_,h3⟩
theorem OwnC.typeAt {w:World} {base:Nat} {E:TypeId} {n:Nat} {v:Value} {cs:List Value} (h:OwnC w base E v n cs) (g:Nat) (hg:v.ownBlock=some g):∃ c,w.heap[g]?=some (.cells c E):=by
 rcases h.1.2 with ⟨h1,_⟩ | ⟨g0,cap,cur,h1,_,h3,_⟩
 ·rw [h1] at hg; simp [Value.ownBlock] at hg
 ·rw [h1] at hg
  simp [Value.ownBlock] at hg;subst hg;exact ⟨_,h3⟩
structure GN (w:World) (base:Nat) (T E:TypeId) (K:Nat) (v:Value) (n:Nat) (cs:List Value) (L:List (Nat × List Int)):Prop where
 cells:OwnC w base T v n cs
 row:∀ i,i<n→∃ g c,cs[i]?=some (.slice (some ⟨g,0,none⟩) (rowN L i) c)∧OwnR w base E K (.slice (some ⟨g,0,none⟩) (rowN L i) c) (rowN L i) (rowZ L i)
 apart:∀ i j,i<n→j<n→i ≠ j→∀ g,(cs[i]?).bind Value.ownBlock=some g→(cs[j]?).bind Value.ownBlock ≠ some g
section
variable {w w' : World} {base : Nat} {T E : TypeId} {K n : Nat} {v : Value} {cs : List Value} {L : List (Nat × List Int)}
theorem GN.nil:GN w base T E K (.slice none 0 0) 0 [] L:=⟨⟨World.ownsRow_nil _ _ _ _,rfl⟩,fun i hi=>absurd hi (by omega),fun i j hi=>absurd hi (by omega)⟩
theorem GN.keep (h:GN w base T E K v n cs L) (e:∀ g c X,w.heap[g]?=some (.cells c X)→base≤g→X=T ∨ X=E→w'.heap[g]?=w.heap[g]?):GN w' base T E K v n cs L:=by
 refine ⟨h.cells.ofBlock fun g hg => ?_,fun i hi => ?_,h.apart⟩
 ·obtain ⟨c,hc⟩:=h.cells.typeAt g hg
  exact e g c T hc (h.cells.ownLt g hg) (.inl rfl)
 ·obtain ⟨g,c,h1,h2⟩:=h.row i hi
  refine ⟨g,c,h1,h2.ofBlock fun g' hg' => ?_⟩;obtain ⟨c',hc'⟩:=h2.typeAt g' hg';exact e g' c' E hc' (h2.ownLt g' hg') (.inr rfl)
theorem GN.after (h:GN w base T E K v n cs L) (hb:Below w.heap.size w w'):GN w' base T E K v n cs L :=
 h.keep fun g _ _ hg _ _=>hb.block g (Array.getElem?_eq_some_iff.1 hg).1
theorem GN.mono {base':Nat} (h:GN w base T E K v n cs L) (hb:base'≤base):GN w base' T E K v n cs L:=by
 have key:∀ (X:TypeId) (k m:Nat) (u:Value) (xs:List Value),w.ownsRow base X k u m xs→w.ownsRow base' X k u m xs:=fun X k m u xs h=>by
  refine ⟨h.1,?_⟩;rcases h.2 with h2 | ⟨g,cap,cur,h1,h2,h3⟩
  ·exact .inl h2
  ·exact .inr ⟨g,cap,cur,h1,by omega,h3⟩
 refine ⟨⟨key _ _ _ _ _ h.cells.1,h.cells.2⟩,fun i hi => ?_,h.apart⟩;obtain ⟨g,c,h1,h2⟩:=h.row i hi;exact ⟨g,c,h1,key _ _ _ _ _ h2.1,h2.2⟩
theorem GN.nestAt {A:Option Addr} {c:Nat} (h:GN w base T E K (.slice A n c) n cs L) (hL:L.length=n):NestAt w w.heap.size K A n L:=by
 refine ⟨hL,fun hn => ?_⟩;rcases h.cells.form with ⟨_,h2,_⟩ | ⟨g,cap,e,_,_,hgl,hc⟩
 ·omega
 ·simp at e
  obtain ⟨rfl,rfl⟩:=e;refine ⟨g,0,rfl,hgl,fun i hi => ?_⟩;obtain ⟨gi,ci,h1,h2⟩:=h.row i hi;refine ⟨_,ci,by rw [Nat.zero_add,hc i hi,h1],h2.recs,?_⟩;rcases h2.1.2 with ⟨e,_⟩ | ⟨g0,cap0,cur,e,_,_,h4,h5,_⟩
  ·simp at e
  ·simp at e
   exact ⟨by omega,by omega⟩
theorem GN.push (h:GN w base T E K v n cs L) (hTE:T ≠ E) {g c:Nat} {v':Value} (hr:OwnR w base E K (.slice (some ⟨g,0,none⟩) (rowN L n) c) (rowN L n) (rowZ L n)) (hnew:∀ i,i<n→(cs[i]?).bind Value.ownBlock ≠ some g)
  (ho:OwnC w' base T v' (n+1) (cs ++ [.slice (some ⟨g,0,none⟩) (rowN L n) c])) (ha:AppRes w w' base v v'):GN w' base T E K v' (n+1) (cs ++ [.slice (some ⟨g,0,none⟩) (rowN L n) c]) L:=by
 have hl:=h.cells.2;have hkeep:∀ u (m:Nat) (xs:List Int),OwnR w base E K u m xs→OwnR w' base E K u m xs:=fun u m xs ho=>ho.ofBlock fun g' hg'=>by
  obtain ⟨c',hc'⟩:=ho.typeAt g' hg';refine ha.stay g' (Array.getElem?_eq_some_iff.1 hc').1 (fun e => ?_);obtain ⟨c2,hc2⟩:=h.cells.typeAt g' e;rw [hc'] at hc2;simp at hc2;exact hTE hc2.2.symm
 refine ⟨ho,fun i hi => ?_,fun i j hi hj hne g' => ?_⟩
 ·by_cases e:i=n
  ·subst e
   exact ⟨g,c,by rw [← hl]; simp,hkeep _ _ _ hr⟩
  ·obtain ⟨g1,c1,h1,h2⟩:=h.row i (by omega)
   exact ⟨g1,c1,by rw [List.getElem?_append_left (by omega)]; exact h1,hkeep _ _ _ h2⟩
 ·by_cases e1:i=n
  ·subst e1
   rw [List.getElem?_append_right (by omega),hl,Nat.sub_self,List.getElem?_append_left (by omega)];intro h1 h2;simp [Value.ownBlock] at h1;subst h1;exact hnew j (by omega) h2
  ·by_cases e2:j=n
   ·subst e2
    rw [List.getElem?_append_left (by omega),List.getElem?_append_right (by omega),hl,Nat.sub_self];intro h1 h2;simp [Value.ownBlock] at h2;subst h2;exact hnew i (by omega) h1
   ·rw [List.getElem?_append_left (by omega),List.getElem?_append_left (by omega)]
    exact h.apart i j (by omega) (by omega) hne g'
theorem GN.lt (h:GN w base T E K v n cs L) {i g:Nat} (hi:i<n) (hg:(cs[i]?).bind Value.ownBlock=some g):g<w.heap.size:=by
 obtain ⟨g1,c1,h1,h2⟩:=h.row i hi;rw [h1] at hg;obtain ⟨c',hc'⟩:=h2.typeAt g (by simpa using hg);exact (Array.getElem?_eq_some_iff.1 hc').1
end
end
section
open Go.RowKit
def iota (k0:Int) (n:Nat):List Int:=(List.range n).map (fun (i:Nat)=>k0+(i:Int))
theorem iota_length (k0:Int) (n:Nat):(iota k0 n).length=n:=by simp [iota]
theorem nth_iota {k0:Int} {n j:Nat} (hj:j<n):nth (iota k0 n) j=k0+j:=by
 rw [nth_get _ _ (by rw [iota_length]; exact hj)];simp [iota]
end
section
open Go.RowKit
def filled (w:World) (g:Nat) (E:TypeId) (K:Nat) (f:Nat→Value) (L:List (Nat × List Int)) (i:Nat):Prop :=
 ∃ gi,f i = .slice (some ⟨gi,0,none⟩) (rowN L i) (rowN L i)∧g<gi∧w.rowIs gi E (rowN L i*K) (ints (rowZ L i))
def NestRow (w:World) (g:Nat) (T E:TypeId) (K n:Nat) (L:List (Nat × List Int)):Prop:=∃ f,w.rowIs g T n f∧∀ i,i<n→filled w g E K f L i
def NestTo (w:World) (g:Nat) (T E:TypeId) (K n:Nat) (L:List (Nat × List Int)) (k:Nat):Prop:=∃ f,w.rowIs g T n f∧(∀ i,i<k→filled w g E K f L i)∧∀ i,k≤i→f i = .slice none 0 0
section
variable {w w' : World} {g : Nat} {T E : TypeId} {K n k : Nat} {L : List (Nat × List Int)} {f f' : Nat → Value} {i : Nat}
theorem filled.after (h:filled w g E K f L i) (hb:Below w.heap.size w w'):filled w' g E K f L i:=by
 obtain ⟨gi,h1,h2,h3⟩:=h;exact ⟨gi,h1,h2,h3.of_block (hb.block gi h3.lt)⟩
theorem NestTo.after (h:NestTo w g T E K n L k) (hb:Below w.heap.size w w'):NestTo w' g T E K n L k:=by
 obtain ⟨f,h1,h2,h3⟩:=h;exact ⟨f,h1.of_block (hb.block g h1.lt),fun i hi=>(h2 i hi).after hb,h3⟩
theorem NestRow.after (h:NestRow w g T E K n L) (hb:Below w.heap.size w w'):NestRow w' g T E K n L:=by
 obtain ⟨f,h1,h2⟩:=h;exact ⟨f,h1.of_block (hb.block g h1.lt),fun i hi=>(h2 i hi).after hb⟩
theorem NestRow.lt (h:NestRow w g T E K n L):g<w.heap.size:=by
 obtain ⟨f,h1,_⟩:=h;exact h1.lt
theorem NestTo.cell (h:NestTo w g T E K n L k) (hk:k<n):w.cell? ⟨g,k,none⟩=some (.slice none 0 0):=by
 obtain ⟨f,h1,_,h3⟩:=h;rw [h1.cell hk,h3 k (Nat.le_refl _)]
theorem NestTo.frozen (h:NestTo w g T E K n L k) (j:Nat):w.frozen? ⟨g,j,none⟩=false:=by
 obtain ⟨f,h1,_,_⟩:=h;exact h1.frozen j
theorem NestTo.start (w:World) (T E:TypeId) (K n:Nat) (L:List (Nat × List Int)):NestTo (w.alloc (.cells (madeCells #[.slice none 0 0] n) T)) w.heap.size T E K n L 0 :=
 ⟨_,World.rowIs_made w (.slice none 0 0) n T,fun i hi=>absurd hi (by omega),fun _ _=>rfl⟩
theorem NestTo.step {gi:Nat} (h:NestTo w g T E K n L k) (hg:g<gi) (hr:w.rowIs gi E (rowN L k*K) (ints (rowZ L k))):NestTo (w.setCell ⟨g,k,none⟩ (.slice (some ⟨gi,0,none⟩) (rowN L k) (rowN L k))) g T E K n L (k+1):=by
 obtain ⟨f,h1,h2,h3⟩:=h;refine ⟨_,h1.set k _,fun i hi => ?_,fun i hi => ?_⟩
 ·by_cases hik:i=k
  ·subst hik
   exact ⟨gi,by simp,hg,hr.of_block (Below.heap_setCell _ _ _ _ (by simp; omega))⟩
  ·obtain ⟨gj,e1,e2,e3⟩:=h2 i (by omega)
   exact ⟨gj,by simp [hik,e1],e2,e3.of_block (Below.heap_setCell _ _ _ _ (by simp; omega))⟩
 ·have:i ≠ k:=by omega
  simp [this,h3 i (by omega)]
theorem NestTo.done (h:NestTo w g T E K n L n):NestRow w g T E K n L:=by
 obtain ⟨f,h1,h2,_⟩:=h;exact ⟨f,h1,h2⟩
theorem NestRow.nestAt (h:NestRow w g T E K n L) (hL:L.length=n) (hl:∀ i,i<n→(rowZ L i).length=rowN L i*K) (hr:∀ i,i<n→rowN L i≤1048576):NestAt w w.heap.size K (some ⟨g,0,none⟩) n L:=by
 obtain ⟨f,h1,h2⟩:=h;refine nestAt_row h1 hL fun i hi => ?_
 obtain ⟨gi,e1,e2,e3⟩:=h2 i hi;exact ⟨_,_,e1,recsAt_row e3 (hl i hi) (fun k _=>rfl),Nat.le_refl _,by have:=hr i hi; unfold maxLen; omega⟩
theorem NestAt.lens {B:Nat} {A:Option Addr} (h:NestAt w B K A n L):∀ i,i<n→(rowZ L i).length=rowN L i*K:=by
 intro i hi;obtain ⟨b,off,_,_,hc⟩:=h.2 (by omega);obtain ⟨_,_,_,hr,_⟩:=hc i hi;exact hr.1
end
theorem NestRow.set_lt {w:World} {g:Nat} {T E:TypeId} {K n:Nat} {L:List (Nat × List Int)} (h:NestRow w g T E K n L) {p:Addr} (hp:p.block<g) (v:Value):NestRow (w.setCell p v) g T E K n L:=by
 obtain ⟨f,h1,h2⟩:=h;refine ⟨f,h1.of_block (Below.heap_setCell _ _ _ _ (by omega)),fun i hi => ?_⟩;obtain ⟨gi,e1,e2,e3⟩:=h2 i hi;exact ⟨gi,e1,e2,e3.of_block (Below.heap_setCell _ _ _ _ (by omega))⟩
def sumN (L:List (Nat × List Int)):Nat→Nat
 | 0=>0
 | k+1=>sumN L k+rowN L k
def SzPost (l:Int) (n:Nat) (L:List (Nat × List Int)) (w:World) (e:Ending) (w':World):Prop :=
 ∃ r:Int,e = .returned (.int .i64 r)∧Below w.heap.size w w'∧(r = -1 ∨ (0≤r∧r≤l∧(n:Int)≤l∧(∀ i,i<n→(rowN L i:Int)≤l)∧(sumN L n:Int)≤l))
theorem szPost_no {l:Int} {n:Nat} {L:List (Nat × List Int)} {w w':World} (hb:Below w.heap.size w w'):SzPost l n L w (.returned (.int .i64 (-1))) w':=⟨-1,rfl,hb,.inl rfl⟩
theorem szPost_ok {l r:Int} {n:Nat} {L:List (Nat × List Int)} {w w':World} (hb:Below w.heap.size w w') (h0:0≤r) (h1:r≤l) (h2:(n:Int)≤l) (h3:∀ i,i<n→(rowN L i:Int)≤l) (h4:(sumN L n:Int)≤l):SzPost l n L w (.returned (.int .i64 r)) w':=⟨r,rfl,hb,.inr ⟨h0,h1,h2,h3,h4⟩⟩
end
section
open Go.RowKit
structure Within (lo hi:Nat) (w w':World):Prop where
 os:w'.os=w.os
 tape:w'.tape=w.tape
 output:w'.output=w.output
 size:w'.heap.size=w.heap.size
 block:∀ k,k<lo ∨ hi≤k→w'.heap[k]?=w.heap[k]?
section
variable {lo hi : Nat} {w w' w'' : World}
theorem Within.refl (lo hi:Nat) (w:World):Within lo hi w w:=⟨rfl,rfl,rfl,rfl,fun _ _=>rfl⟩
theorem Within.trans (h:Within lo hi w w') (h':Within lo hi w' w''):Within lo hi w w'':=⟨h'.os.trans h.os,h'.tape.trans h.tape,h'.output.trans h.output,h'.size.trans h.size,fun k hk=>(h'.block k hk).trans (h.block k hk)⟩
theorem Within.of_only {g:Nat} (h:Only g w w') (h1:lo≤g) (h2:g<hi):Within lo hi w w':=⟨h.os,h.tape,h.output,h.size,fun k hk=>h.block k (by omega)⟩
theorem Within.below (h:Within lo hi w w'):Below lo w w':=⟨h.os,h.tape,h.output,Nat.le_of_eq h.size.symm,fun k hk=>h.block k (.inl hk)⟩
theorem Within.row {g:Nat} {t:TypeId} {n:Nat} {f:Nat→Value} (h:Within lo hi w w') (hr:w.rowIs g t n f) (hg:g<lo ∨ hi≤g):w'.rowIs g t n f:=hr.of_block (h.block g hg)
theorem Within.own {base:Nat} {E:TypeId} {v:Value} {xs:List Int} (h:Within lo hi w w') (ho:OwnV w base E v xs) (hb:hi≤base):OwnV w' base E v xs:=by
 rcases ho.form with ⟨rfl,rfl⟩ | ⟨g',cap,rfl,hi'⟩
 ·exact OwnV.nil _ _ _
 ·refine ⟨hi'.1,?_⟩
  rcases hi'.2 with h2 | ⟨g'',cap',cur,h1,h2,h3,hr⟩
  ·exact .inl h2
  ·simp at h1
   obtain ⟨rfl,rfl⟩:=h1;exact .inr ⟨g',cap,cur,rfl,h2,(h.block g' (.inr (by omega))).trans h3,hr⟩
theorem Within.cell (h:Within lo hi w w') {p:Addr} (hp:p.block<lo ∨ hi≤p.block):w'.cell? p=w.cell? p:=World.cell?_of_block (w:=w) (h.block _ hp)
theorem Within.box {b:Nat} {v:Value} (h:Within lo hi w w') (hb:w.cell? ⟨b,0,none⟩=some v∧b<w.heap.size) (hp:b<lo ∨ hi≤b):w'.cell? ⟨b,0,none⟩=some v∧b<w'.heap.size:=⟨(h.cell (p:=⟨b,0,none⟩) hp).trans hb.1,by rw [h.size]; exact hb.2⟩
end
theorem intRow_marks {f:Nat→Value} (h:IntRow f) (k0:Int) (m:Nat):IntRow (marks f k0 m):=by
 intro j;unfold marks;split
 ·exact ⟨_,rfl⟩
 ·exact h j
def RowI (w:World) (lo hi g:Nat) (E:TypeId) (m:Nat):Prop:=∃ f,w.rowIs g E m f∧IntRow f∧lo≤g∧g<hi
section
variable {w w' : World} {lo hi g : Nat} {E : TypeId} {m : Nat}
theorem RowI.of_row {f:Nat→Value} (h:w.rowIs g E m f) (hi':IntRow f) (h1:lo≤g) (h2:w.heap.size≤hi):RowI w lo hi g E m:=⟨f,h,hi',h1,Nat.lt_of_lt_of_le h.lt h2⟩
theorem RowI.after (h:RowI w lo hi g E m) (hb:Below w.heap.size w w'):RowI w' lo hi g E m:=by
 obtain ⟨f,h1,h2⟩:=h;exact ⟨f,h1.of_block (hb.block g h1.lt),h2⟩
end
def NestInts (w:World) (lo hi g:Nat) (T E:TypeId) (K n:Nat) (L:List (Nat × List Int)):Prop :=
 lo≤g∧∃ f,w.rowIs g T n f∧∀ i,i<n→∃ gi fi,f i = .slice (some ⟨gi,0,none⟩) (rowN L i) (rowN L i)∧g<gi∧gi<hi∧w.rowIs gi E (rowN L i*K) fi∧IntRow fi
section
variable {w w' : World} {lo hi g : Nat} {T E : TypeId} {K n : Nat} {L : List (Nat × List Int)}
theorem NestInts.low (h:NestInts w lo hi g T E K n L):lo≤g:=h.1
theorem NestInts.of_row (h:NestRow w g T E K n L) (h1:lo≤g) (h2:w.heap.size≤hi):NestInts w lo hi g T E K n L:=by
 obtain ⟨f,hr,hf⟩:=h;refine ⟨h1,f,hr,fun i hi' => ?_⟩;obtain ⟨gi,e1,e2,e3⟩:=hf i hi';exact ⟨gi,_,e1,e2,Nat.lt_of_lt_of_le e3.lt h2,e3,intRow_ints _⟩
theorem NestInts.after (h:NestInts w lo hi g T E K n L) (hb:Below w.heap.size w w'):NestInts w' lo hi g T E K n L:=by
 obtain ⟨h1,f,hr,hf⟩:=h;refine ⟨h1,f,hr.of_block (hb.block g hr.lt),fun i hi' => ?_⟩;obtain ⟨gi,fi,e1,e2,e3,e4,e5⟩:=hf i hi';exact ⟨gi,fi,e1,e2,e3,e4.of_block (hb.block gi e4.lt),e5⟩
theorem NestInts.get (h:NestInts w lo hi g T E K n L) {i:Nat} (hi':i<n):∃ gi fi,w.cell? ⟨g,i,none⟩=some (.slice (some ⟨gi,0,none⟩) (rowN L i) (rowN L i))∧g<gi∧gi<hi∧w.rowIs gi E (rowN L i*K) fi∧IntRow fi:=by
 obtain ⟨_,f,hr,hf⟩:=h;obtain ⟨gi,fi,e1,e2⟩:=hf i hi';exact ⟨gi,fi,by rw [hr.cell hi',e1],e2⟩
theorem rowIs_size {t:TypeId} {m m':Nat} {f f':Nat→Value} (h:w.rowIs g t m f) (h':w.rowIs g t m' f'):m=m':=by
 obtain ⟨c,hb,hn,_⟩:=h;obtain ⟨c',hb',hn',_⟩:=h';rw [hb] at hb';simp at hb';rw [← hn,← hn',hb']
theorem NestInts.only {gk m:Nat} {fk fk':Nat→Value} (h:NestInts w lo hi g T E K n L) (hg:g<gk) (ho:Only gk w w') (hr0:w.rowIs gk E m fk) (hr:w'.rowIs gk E m fk') (hk:IntRow fk'):NestInts w' lo hi g T E K n L:=by
 obtain ⟨h1,f,hrow,hf⟩:=h;refine ⟨h1,f,ho.row hrow (by omega),fun i hi' => ?_⟩;obtain ⟨gi,fi,e1,e2,e3,e4,e5⟩:=hf i hi';by_cases e:gi=gk
 ·subst e
  have:=rowIs_size e4 hr0;exact ⟨gi,fk',e1,e2,e3,by rw [this]; exact hr,hk⟩
 ·exact ⟨gi,fi,e1,e2,e3,ho.row e4 e,e5⟩
theorem sumN_mono (L : List (Nat × List Int)) {k n : Nat} (h : k ≤ n) : sumN L k ≤ sumN L n := by
  induction n with
  | zero => obtain rfl : k = 0 := by omega
            exact Nat.le_refl _
  | succ n ih =>
    by_cases e : k = n + 1
    · subst e; exact Nat.le_refl _
    · have := ih (by omega)
      simp only [sumN];omega
end
end
end Go.Proofs.YtjcgklifabcfkaaGreat
