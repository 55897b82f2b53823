/-
  Texts that the law stands on, part 1.
-/
import Derived.WalkKit
import Derived.ProofKit
import Derived.OpenShut
import Derived.SizedLaws
import Derived.ChangeSame
import Derived.Lib.Hide
import Derived.Deep.OwnRows
import Derived.Deep.Draws
import Derived.Deep.Slices
import Derived.Conc.Own
import Derived.Deep.RegionHeld3
import Derived.KernelRfl
set_option maxRecDepth 100000
set_option linter.unusedVariables false
set_option linter.unusedSimpArgs false
section
namespace Go.Proofs.YtjcgklifabcfkaaGreat
theorem ly3 : (∀ {α : Type} (l : List α) (i : Nat) (a : α), l.toArray.setIfInBounds i a = (l.set i a).toArray) ∧ (∀ {α : Type} (a b : α) (l : List α), (a :: l).set 0 b = b :: l) ∧ (∀ {α : Type} (a b : α) (l : List α) (n : Nat), (a :: l).set (n + 1) b = a :: l.set n b) :=
 ⟨fun _ _ _ => List.setIfInBounds_toArray .., fun _ _ _ => rfl, fun _ _ _ _ => rfl⟩
end Go.Proofs.YtjcgklifabcfkaaGreat
end
namespace Go.Proofs.YtjcgklifabcfkaaGreat
section
open Go.ChangeShapes Go.WideShapes Go.ChangeAt Go.RowKit
section
variable {H : Type} {enc : TypeId × Value → H} {P : Program}
theorem trodAll_keep (hl:laidOutB P=true) {W W':World} (hb:Below W.heap.size W W') :
  ∀ (ts:List TypeId) (vs:List Value) (ds:List (DataW H)) (ps:List MemPlace),(∀ t ∈ ts,P.readableRec t=true∧t<P.types.size) →
   DataW.TrodAll enc P W 0 (fun _=>true) true ts vs ds ps→(∀ x ∈ ps,x.block<W.heap.size)→DataW.TrodAll enc P W' 0 (fun b=>decide (b<W.heap.size)) true ts vs ds ps
 | [],vs,ds,ps,_,h,_=>by
  obtain ⟨rfl,rfl,rfl⟩:=trodAll_nil h;exact rfl
 | t :: ts,vs,ds,ps,ht,h,hlt=>by
  obtain ⟨v,vs',d,ds',p,q,rfl,rfl,rfl,h1,h2⟩:=trodAll_cons h;exact ⟨p,q,Below.trod hl (ht t (by simp)).1 (ht t (by simp)).2 h1 hb (fun x hx=>hlt x (by simp [hx])),trodAll_keep hl hb ts vs' ds' q (fun u hu=>ht u (by simp [hu])) h2 (fun x hx=>hlt x (by simp [hx])),rfl⟩
theorem law_post {f:Func} {s:ChangeSpec} {W W':World} {args:Array Value} {ds:List (DataW H)} {before:List MemPlace} {tb:TypeId}
  (hl:laidOutB P=true) (hr:f.params.toList.all (fun t=>P.readableRec t && decide (t<P.types.size))=true)
  (hW:DataW.Whole enc P f.params.toList s.vars false W args.toList ds [] before) (hv:s.vars = [])
  (hres:f.resultTypes = #[tb]) (htb:P.underlying tb=some .bool)
  (hsr:(s.fn H (ds ++ [])).results = [.lit (.bool true)]) (hsa:(s.fn H (ds ++ [])).args=ds) (hsv:(s.fn H (ds ++ [])).vars = [])
  (hb:Below W.heap.size W W'):s.post enc P f false true false false W args (.bool true) W':=by
 have hlt:∀ p ∈ before,p.block<W.heap.size:=fun p hp=>hW.lt p hp
 have hW':=hW;obtain ⟨p,q,hA,hV,rfl,_,_⟩:=hW';rw [hv] at hV;obtain ⟨_,rfl⟩:=trodVars_none hV;refine ⟨ds,[],p ++ [],[],p,[],hW,?_,?_,?_,hb.frame _,fun h=>by cases h⟩
 ·rw [hsr,hres]
  exact trodAll_mk1 (shut_bool htb _)
 ·rw [hsa]
  refine trodAll_keep hl hb _ _ _ _ (fun t ht => ?_) hA (fun x hx=>hlt x (by simp [hx]));have:=List.all_eq_true.1 hr t ht;simpa using this
 ·rw [hsv,hv]; exact rfl
end
theorem ret_int {k:IntKind} {a b:Int} (h:a=b):Ending.returned (.int k a) = .returned (.int k b):=by rw [h]
theorem ret_bool {a b:Bool} (h:a=b):Ending.returned (.bool a) = .returned (.bool b):=by rw [h]
def inB (x a b:Int):Bool:=decide (a≤x∧x≤b)
theorem inB_t {x a b:Int} (h:a≤x∧x≤b):inB x a b=true:=by simp [inB,h]
theorem inB_f {x a b:Int} (h:¬ (a≤x∧x≤b)):inB x a b=false:=by simpa [inB] using h
theorem inB_iff {x a b:Int}:inB x a b=true ↔ a≤x∧x≤b:=by simp [inB]
theorem below_drewN {B:Nat} {a w:World} (h:Below B a w) (n:Nat):Below B a (w.drewN n):=⟨h.os,h.tape,h.output,h.size,h.block⟩
theorem bcell {W w1:World} (hb:Below W.heap.size W w1):(∀ b o,b<W.heap.size→w1.cell? ⟨b,o,none⟩=W.cell? ⟨b,o,none⟩)∧(∀ b o,b<W.heap.size→w1.frozen? ⟨b,o,none⟩=W.frozen? ⟨b,o,none⟩) :=
 ⟨fun b o h=>hb.cell (p:=⟨b,o,none⟩) h,fun b o h=>hb.frozen (p:=⟨b,o,none⟩) h⟩
def nth (zs:List Int) (k:Nat):Int:=zs.getD k 0
theorem nth_get (zs:List Int) (k:Nat) (h:k<zs.length):nth zs k=zs[k]:=by simp [nth,List.getD,h]
def IntsAt (w:World) (B:Nat) (A:Option Addr) (n:Nat) (zs:List Int):Prop :=
 zs.length=n∧(0<n→∃ b off,A=some ⟨b,off,none⟩∧b<B∧∀ k,k<n→w.cell? ⟨b,off+k,none⟩=some (.int .i64 (nth zs k)))
section
variable {w w' : World} {B B' n : Nat} {A : Option Addr} {zs : List Int}
theorem IntsAt.len (h:IntsAt w B A n zs):zs.length=n:=h.1
theorem IntsAt.keep (h:IntsAt w B A n zs) (hk:∀ p:Addr,p.block<B→w'.cell? p=w.cell? p):IntsAt w' B A n zs :=
 ⟨h.1,fun hn=>by
  obtain ⟨b,off,e,hb,hc⟩:=h.2 hn;exact ⟨b,off,e,hb,fun k hk'=>(hk ⟨b,off+k,none⟩ hb).trans (hc k hk')⟩⟩
theorem IntsAt.mono (h:IntsAt w B A n zs) (hB:B≤B'):IntsAt w B' A n zs :=
 ⟨h.1,fun hn=>by
  obtain ⟨b,off,e,hb,hc⟩:=h.2 hn;exact ⟨b,off,e,by omega,hc⟩⟩
theorem IntsAt.below (h:IntsAt w B A n zs) (hb:Below B w w'):IntsAt w' B A n zs:=h.keep fun _ hp=>hb.cell hp
theorem IntsAt.alloc (h:IntsAt w B A n zs) (hB:B≤w.heap.size) (o:Obj):IntsAt (w.alloc o) B A n zs:=h.keep fun p hp=>World.cell?_alloc_lt w o p (by omega)
theorem IntsAt.drew (h:IntsAt w B A n zs):IntsAt w.drew B A n zs:=h
theorem IntsAt.nil:IntsAt w B A 0 []:=⟨rfl,fun h=>absurd h (by omega)⟩
theorem intsAt_row {g:Nat} {t:TypeId} {f:Nat→Value} (h:w.rowIs g t n f) (hz:zs.length=n) (hf:∀ k,k<n→f k = .int .i64 (nth zs k)):IntsAt w w.heap.size (some ⟨g,0,none⟩) n zs :=
 ⟨hz,fun _=>⟨g,0,rfl,h.lt,fun k hk=>by rw [Nat.zero_add,h.cell hk,hf k hk]⟩⟩
end
end
section
open Go.ChangeShapes Go.WideShapes Go.ChangeAt Go.RowKit
def RecsAt (w:World) (B K:Nat) (A:Option Addr) (n:Nat) (zs:List Int):Prop :=
 zs.length=n*K∧(0<n→∃ b off,A=some ⟨b,off,none⟩∧b<B∧∀ i,i<n*K→w.cell? ⟨b,off+i,none⟩=some (.int .i64 (nth zs i)))
section
variable {w w' : World} {B B' K n : Nat} {A : Option Addr} {zs : List Int}
theorem RecsAt.keep (h:RecsAt w B K A n zs) (hk:∀ p:Addr,p.block<B→w'.cell? p=w.cell? p):RecsAt w' B K A n zs :=
 ⟨h.1,fun hn=>by
  obtain ⟨b,off,e,hb,hc⟩:=h.2 hn;exact ⟨b,off,e,hb,fun k hk'=>(hk ⟨b,off+k,none⟩ hb).trans (hc k hk')⟩⟩
theorem RecsAt.mono (h:RecsAt w B K A n zs) (hB:B≤B'):RecsAt w B' K A n zs :=
 ⟨h.1,fun hn=>by
  obtain ⟨b,off,e,hb,hc⟩:=h.2 hn;exact ⟨b,off,e,by omega,hc⟩⟩
theorem RecsAt.below (h:RecsAt w B K A n zs) (hb:Below B w w'):RecsAt w' B K A n zs:=h.keep fun _ hp=>hb.cell hp
theorem RecsAt.after (h:RecsAt w w.heap.size K A n zs) (hb:Below w.heap.size w w'):RecsAt w' w'.heap.size K A n zs:=(h.below hb).mono hb.size
theorem RecsAt.alloc (h:RecsAt w B K A n zs) (hB:B≤w.heap.size) (o:Obj):RecsAt (w.alloc o) B K A n zs:=h.keep fun p hp=>World.cell?_alloc_lt w o p (by omega)
theorem RecsAt.drewN (h:RecsAt w B K A n zs) (k:Nat):RecsAt (w.drewN k) B K A n zs:=h
theorem RecsAt.nil:RecsAt w B K A 0 []:=⟨by simp,fun h=>absurd h (by omega)⟩
theorem recsAt_row {g:Nat} {t:TypeId} {f:Nat→Value} (h:w.rowIs g t (n*K) f) (hz:zs.length=n*K) (hf:∀ k,k<n*K→f k = .int .i64 (nth zs k)):RecsAt w w.heap.size K (some ⟨g,0,none⟩) n zs :=
 ⟨hz,fun _=>⟨g,0,rfl,h.lt,fun k hk=>by rw [Nat.zero_add,h.cell hk,hf k hk]⟩⟩
end
end
section
open Go.ChangeShapes Go.WideShapes Go.ChangeAt Go.RowKit
def rowN (L:List (Nat × List Int)) (i:Nat):Nat:=(L.getD i (0,[])).1
def rowZ (L:List (Nat × List Int)) (i:Nat):List Int:=(L.getD i (0,[])).2
def NestAt (w:World) (B K:Nat) (A:Option Addr) (n:Nat) (L:List (Nat × List Int)):Prop :=
 L.length=n∧(0<n→∃ b off,A=some ⟨b,off,none⟩∧b<B∧∀ i,i<n→∃ (Ai:Option Addr) (ci:Nat),w.cell? ⟨b,off+i,none⟩=some (.slice Ai (rowN L i) ci)∧RecsAt w B K Ai (rowN L i) (rowZ L i)∧rowN L i≤ci∧ci≤maxLen)
section
variable {w w' : World} {B B' K n : Nat} {A : Option Addr} {L : List (Nat × List Int)}
theorem NestAt.keep (h:NestAt w B K A n L) (hk:∀ p:Addr,p.block<B→w'.cell? p=w.cell? p):NestAt w' B K A n L :=
 ⟨h.1,fun hn=>by
  obtain ⟨b,off,e,hb,hc⟩:=h.2 hn;refine ⟨b,off,e,hb,fun i hi => ?_⟩;obtain ⟨Ai,ci,h1,h2,h3⟩:=hc i hi;exact ⟨Ai,ci,(hk ⟨b,off+i,none⟩ hb).trans h1,h2.keep hk,h3⟩⟩
theorem NestAt.mono (h:NestAt w B K A n L) (hB:B≤B'):NestAt w B' K A n L :=
 ⟨h.1,fun hn=>by
  obtain ⟨b,off,e,hb,hc⟩:=h.2 hn;refine ⟨b,off,e,by omega,fun i hi => ?_⟩;obtain ⟨Ai,ci,h1,h2,h3⟩:=hc i hi;exact ⟨Ai,ci,h1,h2.mono hB,h3⟩⟩
theorem NestAt.below (h:NestAt w B K A n L) (hb:Below B w w'):NestAt w' B K A n L:=h.keep fun _ hp=>hb.cell hp
theorem NestAt.after (h:NestAt w w.heap.size K A n L) (hb:Below w.heap.size w w'):NestAt w' w'.heap.size K A n L:=(h.below hb).mono hb.size
theorem NestAt.alloc (h:NestAt w B K A n L) (hB:B≤w.heap.size) (o:Obj):NestAt (w.alloc o) B K A n L:=h.keep fun p hp=>World.cell?_alloc_lt w o p (by omega)
theorem NestAt.drewN (h:NestAt w B K A n L) (k:Nat):NestAt (w.drewN k) B K A n L:=h
theorem NestAt.nil:NestAt w B K A 0 []:=⟨rfl,fun h=>absurd h (by omega)⟩
theorem nestAt_row {g:Nat} {t:TypeId} {f:Nat→Value} (h:w.rowIs g t n f) (hL:L.length=n) (hf:∀ i,i<n→∃ (Ai:Option Addr) (ci:Nat),f i = .slice Ai (rowN L i) ci∧RecsAt w w.heap.size K Ai (rowN L i) (rowZ L i)∧rowN L i≤ci∧ci≤maxLen):NestAt w w.heap.size K (some ⟨g,0,none⟩) n L :=
 ⟨hL,fun _=>⟨g,0,rfl,h.lt,fun i hi=>by
  obtain ⟨Ai,ci,h1,h2⟩:=hf i hi;exact ⟨Ai,ci,by rw [Nat.zero_add,h.cell hi,h1],h2⟩⟩⟩
end
end
namespace Rn
structure Ctx where
 tb:Tables
 fx:Array Func
 fs:Array Func
 F:Nat→Bool
 RO:Nat→Prop
 sh:Nat→Nat
 noT:TypeId
 suf:Code→List Item→Prop:=fun _ _=>False
 D:Nat→Nat→Bool:=fun _ _=>true
def Ctx.Px (C:Ctx):Program:=⟨C.tb,C.fx⟩
def Ctx.P (C:Ctx):Program:=⟨C.tb,C.fs⟩
def chanAt:Nat:=999999999
def Ctx.Ch (C:Ctx):Prop:=∃ k,C.D k chanAt=false
abbrev Ren:=Nat→Nat→Prop
def AR (C:Ctx) (r:Ren) (a b:Addr):Prop:=r a.block b.block∧b.off=a.off+C.sh a.block∧b.spot=a.spot
inductive VR (C:Ctx) (r:Ren):Value→Value→Prop
 | bool (b):VR C r (.bool b) (.bool b)
 | int (k n):VR C r (.int k n) (.int k n)
 | ptr0:VR C r (.pointer none) (.pointer none)
 | ptr {a b}:AR C r a b→VR C r (.pointer (some a)) (.pointer (some b))
 | sl0 (n c):VR C r (.slice none n c) (.slice none n c)
 | slE (a b:Addr):VR C r (.slice (some a) 0 0) (.slice (some b) 0 0)
 | sl {a b} (n c):AR C r a b→VR C r (.slice (some a) n c) (.slice (some b) n c)
 | ch0:VR C r (.chan none) (.chan none)
 | ch {a b}:r a b→¬ C.RO a→VR C r (.chan (some a)) (.chan (some b))
 | map0:VR C r (.map none) (.map none)
 | map {a b}:r a b→VR C r (.map (some a)) (.map (some b))
 | func {f xs ys xs' ys'}:C.F f=true→xs.size=ys.size→(∀ (i:Nat) x y,xs[i]?=some x→ys[i]?=some y→VR C r x y) →
   xs'.size=ys'.size→(∀ (i:Nat) x y,xs'[i]?=some x→ys'[i]?=some y→VR C r x y)→VR C r (.func (.func f) xs xs') (.func (.func f) ys ys')
 | nilFunc:VR C r .nilFunc .nilFunc
 | agg {xs ys}:xs.size=ys.size→(∀ (i:Nat) x y,xs[i]?=some x→ys[i]?=some y→VR C r x y)→VR C r (.agg xs) (.agg ys)
 | tuple {xs ys}:xs.size=ys.size→(∀ (i:Nat) x y,xs[i]?=some x→ys[i]?=some y→VR C r x y)→VR C r (.tuple xs) (.tuple ys)
structure VAll (C:Ctx) (r:Ren) (xs ys:Array Value):Prop where
 size:xs.size=ys.size
 get:∀ (i:Nat) x y,xs[i]?=some x→ys[i]?=some y→VR C r x y
def Sub (r s:Ren):Prop:=∀ a b,r a b→s a b
theorem Sub.refl (r:Ren):Sub r r:=fun _ _ h=>h
theorem Sub.trans {r s t:Ren} (h:Sub r s) (k:Sub s t):Sub r t:=fun _ _ x=>k _ _ (h _ _ x)
section
variable {C : Ctx} {r s : Ren}
theorem AR.mono (h:Sub r s) {a b:Addr} (x:AR C r a b):AR C s a b:=⟨h _ _ x.1,x.2⟩
theorem VR.mono (h:Sub r s) {v w:Value} (x:VR C r v w):VR C s v w:=by
 induction x with
 | bool b=>exact .bool b
 | int k n=>exact .int k n
 | ptr0=>exact .ptr0
 | ptr a=>exact .ptr (a.mono h)
 | sl0 n c=>exact .sl0 n c
 | slE a b=>exact .slE a b
 | sl n c a=>exact .sl n c (a.mono h)
 | ch0=>exact .ch0
 | ch a n=>exact .ch (h _ _ a) n
 | map0=>exact .map0
 | map a=>exact .map (h _ _ a)
 | func f e _ e' _ ih ih'=>exact .func f e ih e' ih'
 | nilFunc=>exact .nilFunc
 | agg e _ ih=>exact .agg e ih
 | tuple e _ ih=>exact .tuple e ih
theorem VAll.mono (h:Sub r s) {xs ys:Array Value} (x:VAll C r xs ys):VAll C s xs ys:=⟨x.size,fun i a b ha hb=>(x.get i a b ha hb).mono h⟩
theorem VR.aggA {xs ys:Array Value} (h:VAll C r xs ys):VR C r (.agg xs) (.agg ys) := .agg h.size h.get
theorem VR.tupleA {xs ys:Array Value} (h:VAll C r xs ys):VR C r (.tuple xs) (.tuple ys) := .tuple h.size h.get
theorem VAll.getD {xs ys:Array Value} (h:VAll C r xs ys) (i:Nat) {d d':Value} (hd:VR C r d d'):VR C r (xs.getD i d) (ys.getD i d'):=by
 rcases Nat.lt_or_ge i xs.size with hi | hi
 ·have hj:i<ys.size:=h.size ▸ hi
  simp only [Array.getD,hi,hj,dif_pos];exact h.get i _ _ (Array.getElem?_eq_getElem hi) (Array.getElem?_eq_getElem hj)
 ·have hj:¬ i<ys.size:=by rw [← h.size]; omega
  simp only [Array.getD,Nat.not_lt.2 hi,hj,dif_neg,not_false_eq_true];exact hd
theorem VAll.get? {xs ys:Array Value} (h:VAll C r xs ys) {i:Nat} {x:Value} (hx:xs[i]?=some x):∃ y,ys[i]?=some y∧VR C r x y:=by
 have hi:=(Array.getElem?_eq_some_iff.1 hx).1;have hj:i<ys.size:=h.size ▸ hi;exact ⟨ys[i],Array.getElem?_eq_getElem hj,h.get i _ _ hx (Array.getElem?_eq_getElem hj)⟩
theorem VAll.get?_none {xs ys:Array Value} (h:VAll C r xs ys) {i:Nat} (hx:xs[i]?=none):ys[i]?=none:=by
 rw [Array.getElem?_eq_none_iff] at hx ⊢;rw [← h.size]; exact hx
theorem VAll.nil:VAll C r #[] #[]:=⟨rfl,fun i x y hx=>by simp at hx⟩
theorem VAll.push {xs ys:Array Value} (h:VAll C r xs ys) {v w:Value} (hv:VR C r v w):VAll C r (xs.push v) (ys.push w):=by
 refine ⟨by simp [h.size],fun i x y hx hy => ?_⟩;rw [Array.getElem?_push] at hx hy;rw [h.size] at hx;split at hx
 ·simp_all
 ·rename_i hne
  rw [if_neg hne] at hy;exact h.get i x y hx hy
theorem VAll.set {xs ys:Array Value} (h:VAll C r xs ys) (i:Nat) {v w:Value} (hv:VR C r v w):VAll C r (xs.setIfInBounds i v) (ys.setIfInBounds i w):=by
 refine ⟨by simp [h.size],fun j x y hx hy => ?_⟩;rw [Array.getElem?_setIfInBounds] at hx hy;rw [h.size] at hx;split at hx
 ·rename_i e
  rw [if_pos e] at hy;split at hx
  ·rename_i hl
   rw [if_pos hl] at hy;cases hx; cases hy; exact hv
  ·cases hx
 ·rename_i e
  rw [if_neg e] at hy;exact h.get j x y hx hy
theorem VAll.append {xs ys xs' ys':Array Value} (h:VAll C r xs ys) (k:VAll C r xs' ys'):VAll C r (xs ++ xs') (ys ++ ys'):=by
 refine ⟨by simp [h.size,k.size],fun i x y hx hy => ?_⟩;rw [Array.getElem?_append] at hx hy;rw [h.size] at hx;split at hx
 ·rename_i hl
  rw [if_pos hl] at hy;exact h.get i x y hx hy
 ·rename_i hl
  rw [if_neg hl] at hy;exact k.get _ x y hx hy
theorem VAll.extract {xs ys:Array Value} (h:VAll C r xs ys) (a b:Nat):VAll C r (xs.extract a b) (ys.extract a b):=by
 refine ⟨by simp [h.size],fun i x y hx hy => ?_⟩;rw [Array.getElem?_extract] at hx hy;rw [h.size] at hx;split at hx
 ·rename_i hl
  rw [if_pos hl] at hy;exact h.get _ x y hx hy
 ·cases hx
theorem VAll.replicate (n:Nat) {v w:Value} (hv:VR C r v w):VAll C r (Array.replicate n v) (Array.replicate n w):=by
 refine ⟨by simp,fun i x y hx hy => ?_⟩;simp only [Array.getElem?_replicate] at hx hy;split at hx
 ·rename_i hl
  rw [if_pos hl] at hy;cases hx; cases hy; exact hv
 ·cases hx
theorem VAll.one {v w:Value} (hv:VR C r v w):VAll C r #[v] #[w]:=by
 have:=(VAll.nil (C:=C) (r:=r)).push hv;simpa using this
theorem VR.cells {v w:Value} (h:VR C r v w):VAll C r v.cells w.cells:=by
 cases h with
 | agg e k=>exact ⟨e,k⟩
 | func f e k e' k'=>exact VAll.one (.func f e k e' k')
 | tuple e k=>exact VAll.one (.tuple e k)
 | ptr a=>exact VAll.one (.ptr a)
 | slE a b=>exact VAll.one (.slE a b)
 | sl n c a=>exact VAll.one (.sl n c a)
 | ch a n=>exact VAll.one (.ch a n)
 | map a=>exact VAll.one (.map a)
 | _=>exact VAll.one (by constructor)
theorem VAll.ofFn {α:Type} (xs:Array α) (f g:α→Value) (h:∀ (i:Nat) (x:α),xs[i]?=some x→VR C r (f x) (g x)):VAll C r (xs.map f) (xs.map g):=by
 refine ⟨by simp,fun i x y hx hy => ?_⟩;rw [Array.getElem?_map] at hx hy;cases hz:xs[i]? with
 | none=>rw [hz] at hx; cases hx
 | some z=>rw [hz] at hx hy; cases hx; cases hy; exact h i z hz
end
mutual
def flatV : Value → Bool
 | .pointer (some _) | .slice (some _) _ _ | .map (some _) | .chan _ | .func _ _ _ | .float _ _ | .complex _ _ _ | .string _ | .iface _ _ | .nilIface => false
 | .agg ⟨cs⟩ => flatL cs
 | .tuple ⟨cs⟩ => flatL cs
 | _ => true
def flatL : List Value → Bool
 | [] => true
 | v :: r => flatV v && flatL r
end
mutual
theorem vr_flat {C : Ctx} {r : Ren} : ∀ {v : Value}, flatV v = true → VR C r v v
 | .bool b, _ => .bool b
 | .int k n, _ => .int k n
 | .pointer none, _ => .ptr0
 | .pointer (some _), h => by simp [flatV] at h
 | .slice none n c, _ => .sl0 n c
 | .slice (some _) _ _, h => by simp [flatV] at h
 | .map none, _ => .map0
 | .map (some _), h => by simp [flatV] at h
 | .chan _, h => by simp [flatV] at h
 | .func _ _ _, h => by simp [flatV] at h
 | .nilFunc, _ => .nilFunc
 | .float _ _, h | .complex _ _ _, h | .string _, h | .iface _ _, h | .nilIface, h => by simp [flatV] at h
 | .agg ⟨cs⟩, h => .agg rfl fun i x y hx hy => by
   have := vr_flatL (C := C) (r := r) (l := cs) (by simpa [flatV] using h) i x (by simpa using hx)
   rw [hx] at hy; cases hy; exact this
 | .tuple ⟨cs⟩, h => .tuple rfl fun i x y hx hy => by
   have := vr_flatL (C := C) (r := r) (l := cs) (by simpa [flatV] using h) i x (by simpa using hx)
   rw [hx] at hy; cases hy; exact this
theorem vr_flatL {C : Ctx} {r : Ren} : ∀ {l : List Value}, flatL l = true → ∀ (i : Nat) x, l[i]? = some x → VR C r x x
 | [], _, i, x, hx => by simp at hx
 | v :: l, h, 0, x, hx => by
   simp only [List.getElem?_cons_zero, Option.some.injEq] at hx
   subst hx
   exact vr_flat (by rw [flatL, Bool.and_eq_true] at h; exact h.1)
 | v :: l, h, i + 1, x, hx => vr_flatL (l := l) (by rw [flatL, Bool.and_eq_true] at h; exact h.2) i x (by simpa using hx)
end
end Rn
namespace Rn
structure ER (C:Ctx) (r:Ren) (e e':MapEntry):Prop where
 key:VR C r e.key e'.key
 val:VR C r e.val e'.val
 born:e'.born=e.born
structure EAll (C:Ctx) (r:Ren) (es es':Array MapEntry):Prop where
 size:es.size=es'.size
 get:∀ (i:Nat) e e',es[i]?=some e→es'[i]?=some e'→ER C r e e'
inductive OR (C:Ctx) (r:Ren):Option Obj→Option Obj→Prop
 | cells {c c' t z}:VAll C r c c'→OR C r (some (.cells c t z)) (some (.cells c' t z))
 | map {es es' k}:EAll C r es es'→OR C r (some (.map es k)) (some (.map es' k))
 | number {a b} (l:Bool):AR C r a b→OR C r (some (.number a l)) (some (.number b l))
 | chan {x y} (cap:Nat) (cl:Bool) (s q:Nat) (tm:Bool) (hc:C.Ch):VAll C r x y→OR C r (some (.chan cap x cl s q tm)) (some (.chan cap y cl s q tm))
def WinR (C:Ctx) (r:Ren) (a:Nat) (x y:Option Obj):Prop :=
 ∃ c hi c' t' z',x=some (.cells c C.noT (0,hi))∧c.size≤hi∧y=some (.cells c' t' z')∧∀ (i:Nat) u,c[i]?=some u→∃ u',c'[i+C.sh a]?=some u'∧VR C r u u'
structure WR (C:Ctx) (r:Ren) (w v:World):Prop where
 lt:∀ a b,r a b→a<w.heap.size∧b<v.heap.size
 fn:∀ a b b',r a b→r a b'→b=b'
 inj:∀ a a' b,r a b→r a' b→a=a' ∨ (C.RO a∧C.RO a')
 obj:∀ a b,r a b→¬ C.RO a→OR C r (w.heap[a]?) (v.heap[b]?)
 win:∀ a b,r a b→C.RO a→WinR C r a (w.heap[a]?) (v.heap[b]?)
 winG:∀ a b,r a b→C.RO a→C.tb.globals.size≤a
 glob:∀ a b,r a b→¬ C.RO a→a<C.tb.globals.size ∨ b<C.tb.globals.size→a=b
 big:C.tb.globals.size≤w.heap.size∧C.tb.globals.size≤v.heap.size
 shz:∀ a,¬ C.RO a→C.sh a=0
 roLt:∀ a,C.RO a→a<w.heap.size
 noInfo:C.tb.info? C.noT=none
def TE (w v:World):Prop:=∀ i q,w.tape (w.drawn+i) q=v.tape (v.drawn+i) q
def EvOk (C:Ctx) (r:Ren) (f:Event):Prop :=
 (f.sync=false∧((∃ q,f.loc = .cell q∧∃ a,r a q.block∧(f.write=true→¬ C.RO a)) ∨ (∃ b,f.loc = .obj b∧∃ a,r a b∧(f.write=true→¬ C.RO a)))) ∨ f = ⟨.mark .noRoom,false,true⟩ ∨ (C.Ch∧f.sync=true∧∃ b,f.loc = .obj b∧∃ a,r a b∧¬ C.RO a)
structure Ext (C:Ctx) (r:Ren) (w v:World) (r':Ren) (w' v':World):Prop where
 le:Sub r r'
 new:∀ a b,r' a b→r a b ∨ ∃ i,a=w.heap.size+i∧b=v.heap.size+i
 all:∀ i,w.heap.size+i<w'.heap.size→r' (w.heap.size+i) (v.heap.size+i)
 size:w'.heap.size+v.heap.size=v'.heap.size+w.heap.size
 sizeL:w.heap.size≤w'.heap.size
 drew:∃ d,w'.drawn=w.drawn+d∧v'.drawn=v.drawn+d
 keep:∀ b,b<v.heap.size→(∀ a,¬ r a b)→v'.heap[b]?=v.heap[b]?
 keepRO:∀ a b,r a b→C.RO a→v'.heap[b]?=v.heap[b]?
 tapeL:w'.tape=w.tape
 osL:w'.os=w.os
 outL:w'.output=w.output
 tape:v'.tape=v.tape
 os:v'.os=v.os
 output:v'.output=v.output
section
variable {C : Ctx} {r r' r'' : Ren} {w v w' v' w'' v'' : World}
theorem ER.mono (h:Sub r r') {e e':MapEntry} (x:ER C r e e'):ER C r' e e':=⟨x.key.mono h,x.val.mono h,x.born⟩
theorem EAll.mono (h:Sub r r') {e e':Array MapEntry} (x:EAll C r e e'):EAll C r' e e':=⟨x.size,fun i a b ha hb=>(x.get i a b ha hb).mono h⟩
theorem OR.mono (h:Sub r r') {x y:Option Obj} (k:OR C r x y):OR C r' x y:=by
 cases k with
 | cells a=>exact .cells (a.mono h)
 | map a=>exact .map (a.mono h)
 | number l a=>exact .number l (a.mono h)
 | chan cap cl s q tm hc a=>exact .chan cap cl s q tm hc (a.mono h)
theorem EvOk.mono (h:Sub r r') {f:Event} (x:EvOk C r f):EvOk C r' f:=by
 rcases x with ⟨s,⟨q,e,a,k,x⟩ | ⟨b,e,a,k,x⟩⟩ | x
 ·exact .inl ⟨s,.inl ⟨q,e,a,h _ _ k,x⟩⟩
 ·exact .inl ⟨s,.inr ⟨b,e,a,h _ _ k,x⟩⟩
 ·rcases x with x | ⟨hc,hs,b,e,a,k,hr⟩
  ·exact .inr (.inl x)
  ·exact .inr (.inr ⟨hc,hs,b,e,a,h _ _ k,hr⟩)
theorem Ext.refl (C:Ctx) (r:Ren) (w v:World):Ext C r w v r w v :=
 ⟨Sub.refl _,fun _ _ h => .inl h,fun i h=>absurd h (by omega),by omega,Nat.le_refl _,⟨0,rfl,rfl⟩,fun _ _ _=>rfl,fun _ _ _ _=>rfl,rfl,rfl,rfl,rfl,rfl,rfl⟩
theorem Ext.trans (h:Ext C r w v r' w' v') (k:Ext C r' w' v' r'' w'' v''):Ext C r w v r'' w'' v'':=by
 have s1:=h.size; have s2:=k.size; have l1:=h.sizeL; have l2:=k.sizeL;refine ⟨h.le.trans k.le,fun a b x => ?_,fun i hi => ?_,by omega,by omega,?_,fun b hb hn => ?_,fun a b hab ha => ?_,k.tapeL.trans h.tapeL,k.osL.trans h.osL,k.outL.trans h.outL,k.tape.trans h.tape,k.os.trans h.os,k.output.trans h.output⟩
 ·rcases k.new a b x with y | ⟨i,rfl,rfl⟩
  ·exact h.new a b y
  ·exact .inr ⟨w'.heap.size - w.heap.size+i,by omega,by omega⟩
 ·rcases Nat.lt_or_ge (w.heap.size+i) w'.heap.size with hlt | hge
  ·exact k.le _ _ (h.all i hlt)
  ·have:=k.all (w.heap.size+i - w'.heap.size) (by omega)
   rw [show w'.heap.size+(w.heap.size+i - w'.heap.size)=w.heap.size+i by omega,show v'.heap.size+(w.heap.size+i - w'.heap.size)=v.heap.size+i by omega] at this;exact this
 ·obtain ⟨d,a1,a2⟩:=h.drew
  obtain ⟨d',b1,b2⟩:=k.drew;exact ⟨d+d',by omega,by omega⟩
 ·rw [k.keep b (by omega) (fun a x => ?_),h.keep b hb hn]
  rcases h.new a b x with y | ⟨i,_,rfl⟩
  ·exact hn a y
  ·omega
 ·rw [k.keepRO a b (h.le _ _ hab) ha,h.keepRO a b hab ha]
theorem WinR.mono (h:Sub r r') {a:Nat} {x y:Option Obj} (k:WinR C r a x y):WinR C r' a x y:=by
 obtain ⟨c,hi,c',t',z',h1,h2,h3,h4⟩:=k;exact ⟨c,hi,c',t',z',h1,h2,h3,fun i u hu=>let ⟨u',k1,k2⟩:=h4 i u hu; ⟨u',k1,k2.mono h⟩⟩
theorem WR.cell (h:WR C r w v) {a b:Addr} (ab:AR C r a b) {x:Value} (hx:w.cell? a=some x):∃ y,v.cell? b=some y∧VR C r x y:=by
 obtain ⟨k,e1,e2⟩:=ab;by_cases hr:C.RO a.block
 ·obtain ⟨c,hi,c',t',z',h1,h2,h3,h4⟩:=h.win _ _ k hr
  simp only [World.cell?,h1] at hx;simp only [World.cell?,h3,e2];split at hx
  ·cases hx
  ·rename_i hs
   rw [if_neg hs,e1];exact h4 _ _ hx
 ·have ho:=h.obj _ _ k hr
  rw [h.shz _ hr,Nat.add_zero] at e1;unfold World.cell? at hx ⊢;cases hw:w.heap[a.block]? with
  | none=>rw [hw] at hx; cases hx
  | some o =>
   rw [hw] at ho hx;cases hv:v.heap[b.block]? with
   | none=>rw [hv] at ho; cases ho
   | some o' =>
    rw [hv] at ho;cases ho with
    | cells va =>
     simp only [e1,e2] at hx ⊢;split at hx
     ·cases hx
     ·obtain ⟨y,hy,r⟩:=va.get? hx
      rename_i hs
      rw [if_neg hs];exact ⟨y,hy,r⟩
    | map _=>cases hx
    | number _ _=>cases hx
    | chan _ _ _ _ _ _ _=>cases hx
theorem WR.frozen (h:WR C r w v) {a b:Addr} (ab:AR C r a b) (hr:¬ C.RO a.block) (hx:w.frozen? a=false):v.frozen? b=false:=by
 obtain ⟨k,e1,e2⟩:=ab;rw [h.shz _ hr,Nat.add_zero] at e1;have ho:=h.obj _ _ k hr;unfold World.frozen? at hx ⊢;cases hw:w.heap[a.block]? with
 | none=>rw [hw] at ho; cases ho
 | some o =>
  rw [hw] at ho hx;cases hv:v.heap[b.block]? with
  | none=>rfl
  | some o' =>
   rw [hv] at ho;cases ho with
   | @cells c c' t z va =>
    simp only at hx ⊢;rw [e1];exact hx
   | map _=>rfl
   | number _ _=>rfl
   | chan _ _ _ _ _ _ _=>rfl
theorem WR.kind (h:WR C r w v) {a b:Nat} (ab:r a b):(∃ c t z,w.heap[a]?=some (.cells c t z)) ∨ (∃ es k,w.heap[a]?=some (.map es k)) ∨ (∃ p l,w.heap[a]?=some (.number p l)) ∨ (∃ cap x cl s q tm,w.heap[a]?=some (.chan cap x cl s q tm)):=by
 by_cases hr:C.RO a
 ·obtain ⟨c,hi,c',t',z',h1,_⟩:=h.win _ _ ab hr
  exact .inl ⟨_,_,_,h1⟩
 ·have ho:=h.obj _ _ ab hr
  revert ho
  generalize w.heap[a]?=o1;generalize v.heap[b]?=o2;intro ho;cases ho with
  | cells va=>exact .inl ⟨_,_,_,rfl⟩
  | map _=>exact .inr (.inl ⟨_,_,rfl⟩)
  | number _ _=>exact .inr (.inr (.inl ⟨_,_,rfl⟩))
  | chan _ _ _ _ _ _ _=>exact .inr (.inr (.inr ⟨_,_,_,_,_,_,rfl⟩))
def putO (p:Addr) (z:Value):Obj→Obj
 | .cells c e f => .cells (if p.spot.isSome then c else c.setIfInBounds p.off z) e f
 | o=>o
theorem setCell_get (u:World) (p:Addr) (z:Value) (i:Nat):(u.setCell p z).heap[i]?=if p.block=i then (u.heap[i]?).map (putO p z) else u.heap[i]?:=by
 have e:(u.setCell p z).heap=u.heap.modify p.block (putO p z):=by
  unfold World.setCell;congr 1
 rw [e,Array.getElem?_modify]
theorem setCell_size (u:World) (p:Addr) (z:Value):(u.setCell p z).heap.size=u.heap.size:=by simp [World.setCell]
theorem WR.set (h:WR C r w v) {a b:Addr} (ab:AR C r a b) (hr:¬ C.RO a.block) {x y:Value} (hxy:VR C r x y):WR C r (w.setCell a x) (v.setCell b y):=by
 obtain ⟨k,e1,e2⟩:=ab;rw [h.shz _ hr,Nat.add_zero] at e1;have apart:∀ p q,r p q→a.block ≠ p→b.block ≠ q:=fun p q pq hp e=>by
  rcases h.inj _ _ _ k (by rw [e]; exact pq) with e' | ⟨e',_⟩
  ·exact hp e'
  ·exact hr e'
 refine ⟨fun p q hpq=>by rw [setCell_size,setCell_size]; exact h.lt p q hpq,h.fn,h.inj,fun p q hpq hpr => ?_,fun p q hpq hpr => ?_,h.winG,h.glob,by rw [setCell_size,setCell_size]; exact h.big,h.shz,fun p hp=>by rw [setCell_size]; exact h.roLt p hp,h.noInfo⟩
 ·rw [setCell_get,setCell_get]
  by_cases hp:a.block=p
  ·subst hp
   have:b.block=q:=h.fn _ _ _ k hpq;rw [if_pos rfl,if_pos this];have ho:=h.obj _ _ hpq hpr;revert ho
   generalize w.heap[a.block]?=o1;generalize v.heap[q]?=o2;intro ho;cases ho with
   | cells va =>
    simp only [Option.map_some,putO,e1,e2];split
    ·exact .cells va
    ·exact .cells (va.set _ hxy)
   | map e=>exact .map e
   | number l e=>exact .number l e
   | chan cap cl s q tm hc e=>exact .chan cap cl s q tm hc e
  ·rw [if_neg hp,if_neg (apart p q hpq hp)]
   exact h.obj p q hpq hpr
 ·have hp:a.block ≠ p:=fun e=>hr (by rw [e]; exact hpr)
  rw [setCell_get,setCell_get,if_neg hp,if_neg (apart p q hpq hp)];exact h.win p q hpq hpr
theorem WR.notRO (h:WR C r w v) {a b:Addr} (ab:AR C r a b) {x:Value} (hx:w.cell? a=some x) (hf:w.frozen? a=false):¬ C.RO a.block:=by
 intro hr;obtain ⟨c,hi,c',t',z',h1,h2,_⟩:=h.win _ _ ab.1 hr;simp only [World.cell?,h1] at hx;split at hx
 ·cases hx
 ·have:=(Array.getElem?_eq_some_iff.1 hx).1
  simp only [World.frozen?,h1,Bool.and_eq_false_imp,decide_eq_true_eq,decide_eq_false_iff_not] at hf;exact hf (Nat.zero_le _) (by omega)
def Ren.ext (r:Ren) (a b:Nat):Ren:=fun x y=>r x y ∨ (x=a∧y=b)
theorem Ren.sub_ext (r:Ren) (a b:Nat):Sub r (r.ext a b):=fun _ _ h => .inl h
theorem WR.push (h:WR C r w v) {o o':Obj} (ho:OR C (r.ext w.heap.size v.heap.size) (some o) (some o')) :
  WR C (r.ext w.heap.size v.heap.size) { w with heap:=w.heap.push o } { v with heap:=v.heap.push o' }:=by
 have hn:¬ C.RO w.heap.size:=fun e=>by have:=h.roLt _ e; omega
 refine ⟨fun a b k => ?_,fun a b b' k k' => ?_,fun a a' b k k' => ?_,fun a b k hr => ?_,fun a b k hr => ?_,fun a b k hr => ?_,fun a b k hr hg => ?_,by simp only [Array.size_push]; have:=h.big; omega,h.shz,fun a ha=>by simp only [Array.size_push]; have:=h.roLt a ha; omega,h.noInfo⟩
 ·simp only [Array.size_push]
  rcases k with k | ⟨rfl,rfl⟩
  ·have:=h.lt _ _ k; omega
  ·omega
 ·rcases k with k | ⟨e1,e2⟩ <;> rcases k' with k' | ⟨e1',e2'⟩
  ·exact h.fn _ _ _ k k'
  ·have:=(h.lt _ _ k).1; omega
  ·have:=(h.lt _ _ k').1; omega
  ·omega
 ·rcases k with k | ⟨e1,e2⟩ <;> rcases k' with k' | ⟨e1',e2'⟩
  ·exact h.inj _ _ _ k k'
  ·have:=(h.lt _ _ k).2; omega
  ·have:=(h.lt _ _ k').2; omega
  ·left; omega
 ·rcases k with k | ⟨rfl,rfl⟩
  ·have:=h.lt _ _ k
   simp only [Array.getElem?_push];rw [if_neg (by omega),if_neg (by omega)];exact (h.obj _ _ k hr).mono (Ren.sub_ext _ _ _)
  ·simpa using ho
 ·rcases k with k | ⟨rfl,rfl⟩
  ·have:=h.lt _ _ k
   simp only [Array.getElem?_push];rw [if_neg (by omega),if_neg (by omega)];exact (h.win _ _ k hr).mono (Ren.sub_ext _ _ _)
  ·exact absurd hr hn
 ·rcases k with k | ⟨rfl,rfl⟩
  ·exact h.winG _ _ k hr
  ·exact absurd hr hn
 ·rcases k with k | ⟨rfl,rfl⟩
  ·exact h.glob _ _ k hr hg
  ·have:=h.big; omega
theorem Ext.push (C:Ctx) {r:Ren} {w v:World} (hl:∀ a b,r a b→b<v.heap.size) (o o':Obj):Ext C r w v (r.ext w.heap.size v.heap.size) { w with heap:=w.heap.push o } { v with heap:=v.heap.push o' }:=by
 refine ⟨Ren.sub_ext _ _ _,fun a b k => ?_,fun i hi => ?_,by simp; omega,by simp,⟨0,rfl,rfl⟩,fun b hb _ => ?_,fun a b hab ha => ?_,rfl,rfl,rfl,rfl,rfl,rfl⟩
 ·rcases k with k | ⟨rfl,rfl⟩
  ·exact .inl k
  ·exact .inr ⟨0,rfl,rfl⟩
 ·simp only [Array.size_push] at hi
  obtain rfl:i=0:=by omega
  exact .inr ⟨rfl,rfl⟩
 ·simp only [Array.getElem?_push]; rw [if_neg (by omega)]
 ·have:=hl a b hab
  simp only [Array.getElem?_push]; rw [if_neg (by omega)]
end
end Rn
namespace Rn
open Go.Conc
abbrev Tp:=Nat→Question→Nat
def _root_.Go.World.tp (w:World) (t:Tp) (d:Nat):World := { w with tape:=t,drawn:=d }
def _root_.Go.Result.tp {α:Type} (R:Result α) (t:Tp) (d:Nat):Result α:=match R with
 | .ok a w => .ok a (w.tp t d)
 | .halt h w => .halt h (w.tp t d)
def Agree (n:Nat) (t:Tp) (d:Nat) (t':Tp) (d':Nat):Prop:=∀ i q,i<n→t (d+i) q=t' (d'+i) q
theorem Agree.left {t t':Tp} {d d' n m:Nat} (h:Agree (n+m) t d t' d'):Agree n t d t' d':=fun i q hi=>h i q (by omega)
theorem Agree.right {t t':Tp} {d d' n m:Nat} (h:Agree (n+m) t d t' d'):Agree m t (d+n) t' (d'+n):=fun i q hi=>by
 rw [Nat.add_assoc,Nat.add_assoc]; exact h _ q (by omega)
theorem Agree.one {t t':Tp} {d d' m:Nat} (h:Agree (m+1) t d t' d') (q:Question):t d q=t' d' q:=h 0 q (by omega)
theorem Agree.tail {t t':Tp} {d d' m:Nat} (h:Agree (m+1) t d t' d'):Agree m t (d+1) t' (d'+1):=by
 rw [Nat.add_comm] at h; exact h.right
theorem cell_tp (w:World) (t:Tp) (d:Nat) (a:Addr):(w.tp t d).cell? a=w.cell? a:=rfl
theorem frozen_tp (w:World) (t:Tp) (d:Nat) (a:Addr):(w.tp t d).frozen? a=w.frozen? a:=rfl
theorem heap_tp (w:World) (t:Tp) (d:Nat):(w.tp t d).heap=w.heap:=rfl
theorem freeze_tp (w:World) (t:Tp) (d:Nat) (a:Addr) (n:Nat):(w.tp t d).freeze a n=(w.freeze a n).tp t d:=by
 unfold World.freeze;split <;> rfl
theorem farLoad_tp (P:Program) (w:World) (t:Tp) (d:Nat) (a:Addr) (b:Bool):(w.tp t d).farLoad P a b=w.farLoad P a b:=rfl
theorem viewStore_tp (P:Program) (w:World) (t:Tp) (d:Nat) (a:Addr) (v:Value) (b:Bool) (at_:Addr) (u:TypeId):(w.tp t d).viewStore P at_ u a v b=(w.viewStore P at_ u a v b).map fun x=>(x.1.tp t d,x.2):=by
  unfold World.viewStore;have hs:(w.tp t d).seen P at_ u a b=w.seen P at_ u a b:=rfl;rw [hs];generalize w.seen P at_ u a b=S;by_cases h1:(!tight P P.depth u)=true
  ·simp only [h1,if_true]; rfl
  ·simp only [h1,Bool.false_eq_true,if_false]
   cases S with
   | error e=>rfl
   | ok x =>
    obtain ⟨c,e,fz,first,like,cells⟩:=x;simp only [bind,Except.bind,pure,Except.pure];cases v.bytes? with
    | none=>rfl
    | some bytes =>
     dsimp only;by_cases h2:some bytes.length ≠ Option.map (fun x=>x.length) like.bytes?
     ·rw [if_pos h2,if_pos h2]; rfl
     ·rw [if_neg h2,if_neg h2]
      generalize (List.foldlM (m:=Except String) _ c cells)=F;cases F <;> rfl
theorem farStore_tp (P:Program) (w:World) (t:Tp) (d:Nat) (a:Addr) (v:Value) (b:Bool):(w.tp t d).farStore P a v b=(w.farStore P a v b).map fun x=>(x.1.tp t d,x.2):=by
 have hv:∀ (at_:Addr) (u:TypeId),(w.tp t d).viewStore P at_ u a v b=(w.viewStore P at_ u a v b).map fun x=>(x.1.tp t d,x.2):=fun at_ u=>viewStore_tp P w t d a v b at_ u
 unfold World.farStore;rw [show (w.tp t d).heap=w.heap from rfl];cases w.heap[a.block]? with
 | none=>rfl
 | some o =>
  cases o with
  | view at_ u =>
   simp only [hv];cases w.viewStore P at_ u a v b <;> rfl
  | _=>rfl
def Loc (P:Program) {α:Type} (x:Sem α) (w:World) (t:Tp) (d:Nat) (es:Array Event):Prop :=
 ∃ (n:Nat) (R:Result α) (es':Array Event),x.runT P (w.tp t d) es=(R.tp t (d+n),es')∧∀ t' d',Agree n t d t' d'→x.runT P (w.tp t' d') es=(R.tp t' (d'+n),es')
theorem Loc.stop {P:Program} {α:Type} {x:Sem α} {w:World} {t:Tp} {d:Nat} {es:Array Event} (R:Result α) (es':Array Event) (h:∀ t d,x.runT P (w.tp t d) es=(R.tp t d,es')):Loc P x w t d es:=⟨0,R,es',h t d,fun t' d' _=>h t' d'⟩
theorem Loc.step {P:Program} {α:Type} {x y:Sem α} {w u:World} {t:Tp} {d:Nat} {es es1:Array Event} (h:∀ t d,x.runT P (w.tp t d) es=y.runT P (u.tp t d) es1) (hy:Loc P y u t d es1):Loc P x w t d es:=by
 obtain ⟨n,R,es',h1,h2⟩:=hy;exact ⟨n,R,es',(h t d).trans h1,fun t' d' ha=>(h t' d').trans (h2 t' d' ha)⟩
def NoSys {α:Type}:Sem α→Prop
 | .pure _ | .halt _=>True
 | .load _ _ k=>∀ v,NoSys (k v)
 | .store _ _ _ k=>NoSys k
 | .new _ k=>∀ b,NoSys (k b)
 | .shape _ k=>∀ b,NoSys (k b)
 | .freeze _ _ k=>NoSys k
 | .frozen _ k=>∀ b,NoSys (k b)
 | .getObj _ k=>∀ o,NoSys (k o)
 | .setObj _ _ k=>NoSys k
 | .choose _ k=>∀ n,NoSys (k n)
 | .sys _ _=>False
 | .program k=>∀ p,NoSys (k p)
 | .mark _ k=>NoSys k
theorem NoSys.bindS {α β:Type} {f:α→Sem β} (hf:∀ a,NoSys (f a)):∀ {x:Sem α},NoSys x→NoSys (x.bind f)
 | .pure a,_=>hf a
 | .halt _,_=>trivial
 | .load _ _ k,h=>fun v=>NoSys.bindS hf (h v)
 | .store _ _ _ k,h=>NoSys.bindS (x:=k) hf h
 | .new _ k,h=>fun v=>NoSys.bindS hf (h v)
 | .shape _ k,h=>fun v=>NoSys.bindS hf (h v)
 | .freeze _ _ k,h=>NoSys.bindS (x:=k) hf h
 | .frozen _ k,h=>fun v=>NoSys.bindS hf (h v)
 | .getObj _ k,h=>fun v=>NoSys.bindS hf (h v)
 | .setObj _ _ k,h=>NoSys.bindS (x:=k) hf h
 | .choose _ k,h=>fun v=>NoSys.bindS hf (h v)
 | .sys _ _,h=>h.elim
 | .program k,h=>fun v=>NoSys.bindS hf (h v)
 | .mark _ k,h=>NoSys.bindS (x:=k) hf h
theorem NoSys.bind {α β:Type} {x:Sem α} {f:α→Sem β} (hx:NoSys x) (hf:∀ a,NoSys (f a)):NoSys (x >>= f):=NoSys.bindS hf hx
theorem runT_loc {α : Type} (P : Program) : ∀ (x : Sem α) (w : World) (t : Tp) (d : Nat) (es : Array Event), NoSys x → Loc P x w t d es
 | .pure a, w, t, d, es, hns => .stop (.ok a w) es fun _ _ => rfl
 | .load m a k, w, t, d, es, hns => by
  have run : ∀ t d, (Sem.load m a k).runT P (w.tp t d) es = match w.cell? a with
    | some v => (k v).runT P (w.tp t d) (es.push ⟨.cell a, false, m == .atomic⟩)
    | none => match w.farLoad P a (m == .atomic) with
     | .ok (v, touched) => (k v).runT P (w.tp t d) (es ++ touched.toArray.map (⟨.cell ·, false, m == .atomic⟩))
     | .error h => (.halt h (w.tp t d), es) := fun t d => by
   simp only [Sem.runT, cell_tp, farLoad_tp];cases w.cell? a with
   | some v => rfl
   | none => cases w.farLoad P a (m == .atomic) <;> rfl
  cases hc : w.cell? a with
  | some v => rw [hc] at run; exact .step (u := w) run (runT_loc P (k v) w t d _ (hns v))
  | none =>
   rw [hc] at run;cases hf : w.farLoad P a (m == .atomic) with
   | ok r => rw [hf] at run; exact .step (u := w) run (runT_loc P (k r.1) w t d _ (hns r.1))
   | error e => rw [hf] at run; exact .stop (.halt e w) es run
 | .store m a v k, w, t, d, es, hns => by
  have key : (∀ c, v ≠ .agg c) → (∀ c, v ≠ .tuple c) → Loc P (Sem.store m a v k) w t d es := by
   intro h1 h2;have run : ∀ (u : World), (Sem.store m a v k).runT P u es = match u.cell? a with
     | some _ => if u.frozen? a then (.halt (.unsupported (.unsafePointer "a write to bytes that a string shares")) u, es) else k.runT P (u.setCell a v) (es.push ⟨.cell a, true, m == .atomic⟩)
     | none => match u.farStore P a v (m == .atomic) with
      | .ok (u, touched) => k.runT P u (es ++ touched.toArray.map (⟨.cell ·, true, m == .atomic⟩))
      | .error h => (.halt h u, es) := by
    intro u;cases v <;> first | exact absurd rfl (h1 _) | exact absurd rfl (h2 _) | rfl
   have run2 := fun t d => run (w.tp t d)
   simp only [cell_tp, frozen_tp, farStore_tp] at run2;cases hc : w.cell? a with
   | some _ =>
    rw [hc] at run2;dsimp only at run2;by_cases hz : w.frozen? a = true
    ·simp only [hz, if_true] at run2
     exact .stop (.halt _ w) es run2
    ·simp only [hz, if_false] at run2
     exact .step (u := w.setCell a v) run2 (runT_loc P k (w.setCell a v) t d _ hns)
   | none =>
    rw [hc] at run2;cases hf : w.farStore P a v (m == .atomic) with
    | ok r => rw [hf] at run2; exact .step (u := r.1) run2 (runT_loc P k r.1 t d _ hns)
    | error e => rw [hf] at run2; exact .stop (.halt e w) es run2
  cases v with
  | agg c => exact .stop (.halt _ w) es fun _ _ => rfl
  | tuple c => exact .stop (.halt _ w) es fun _ _ => rfl
  | _ => exact key (fun c e => by cases e) (fun c e => by cases e)
 | .new o k, w, t, d, es, hns => .step (u := { w with heap := w.heap.push o }) (fun _ _ => rfl) (runT_loc P (k w.heap.size) { w with heap := w.heap.push o } t d es (hns _))
 | .shape r k, w, t, d, es, hns => .step (u := w) (fun _ _ => rfl) (runT_loc P (k (w.shape? r)) w t d es (hns _))
 | .freeze a n k, w, t, d, es, hns => .step (u := w.freeze a n) (fun t d => by rw [← freeze_tp]; rfl) (runT_loc P k (w.freeze a n) t d es hns)
 | .frozen a k, w, t, d, es, hns => .step (u := w) (fun _ _ => rfl) (runT_loc P (k (w.frozen? a)) w t d es (hns _))
 | .getObj r k, w, t, d, es, hns => by
  cases hr : w.heap[r]? with
  | none => exact .stop (.halt _ w) es fun t d => by simp only [Sem.runT, heap_tp, hr]; rfl
  | some o =>
   have go : (∀ c ty fz, o ≠ .cells c ty fz) → Loc P (Sem.getObj r k) w t d es := fun hne => by
    refine .step (y := k o) (u := w) (es1 := es.push ⟨.obj r, false, o.isChan⟩) (fun t d => ?_) (runT_loc P (k o) w t d _ (hns o));simp only [Sem.runT, heap_tp, hr]
   cases o with
   | cells c ty fz => exact .stop (.halt _ w) es fun t d => by simp only [Sem.runT, heap_tp, hr]; rfl
   | _ => exact go (fun _ _ _ e => by cases e)
 | .setObj r o k, w, t, d, es, hns => by
  cases hr : w.heap[r]? with
  | none => exact .stop (.halt _ w) es fun t d => by simp only [Sem.runT, heap_tp, hr]; rfl
  | some o' =>
   have go : (∀ c ty fz, o' ≠ .cells c ty fz) → Loc P (Sem.setObj r o k) w t d es := fun hne => by
    refine .step (y := k) (u := { w with heap := w.heap.setIfInBounds r o }) (es1 := es.push ⟨.obj r, true, o.isChan⟩) (fun t d => ?_) (runT_loc P k _ t d _ hns);simp only [Sem.runT, heap_tp, hr];cases o' <;> first | rfl | exact absurd rfl (hne _ _ _)
   cases o' with
   | cells c ty fz => exact .stop (.halt _ w) es fun t d => by simp only [Sem.runT, heap_tp, hr]; rfl
   | _ => exact go (fun _ _ _ e => by cases e)
 | .choose q k, w, t, d, es, hns => by
  by_cases hf : q.forced = true
  ·exact .step (u := w) (fun t d => by simp only [Sem.runT, hf, if_true]) (runT_loc P (k 0) w t d es (hns 0))
  ·obtain ⟨n, R, es', h1, h2⟩ := runT_loc P (k (q.cut (t d q))) w t (d + 1) es (hns _)
   refine ⟨n + 1, R, es', ?_, fun t' d' h => ?_⟩
   ·simp only [Sem.runT, hf, if_false]
    rw [show d + (n + 1) = d + 1 + n by omega]; exact h1
   ·simp only [Sem.runT, hf, if_false]
    rw [show d' + (n + 1) = d' + 1 + n by omega];show (k (q.cut (t' d' q))).runT P (w.tp t' (d' + 1)) es = _
    rw [← h.one]; exact h2 _ _ h.tail
 | .sys c k, w, t, d, es, hns => hns.elim
 | .program k, w, t, d, es, hns => .step (u := w) (fun _ _ => rfl) (runT_loc P (k P) w t d es (hns P))
 | .mark m k, w, t, d, es, hns => .step (u := w) (fun _ _ => rfl) (runT_loc P k w t d _ hns)
 | .halt hh, w, t, d, es, hns => .stop (.halt hh w) es fun _ _ => rfl
theorem loc_of {P:Program} {α:Type} {x:Sem α} (h:NoSys x) (w:World) (es:Array Event):Loc P x w w.tape w.drawn es:=runT_loc P x w _ _ es h
end Rn
namespace Rn
def isInit:Halt→Bool
 | .unsupported (.initOrder _) | .fatal _ | .throw _ | .blocked | .waiting | .exit _ | .goexit=>true
 | _=>false
def Sim (C:Ctx) {α β:Type} (r:Ren) (Q:Ren→α→β→Prop) (x:Sem α) (y:Sem β):Prop :=
 ∀ (w v:World) (es fs:Array Event),WR C r w v→TE w v→(∀ f ∈ fs,EvOk C r f) →
  (∀ a w' es',x.runT C.Px w es=(.ok a w',es') →
  ∃ b v' fs' r',y.runT C.P v fs=(.ok b v',fs')∧Ext C r w v r' w' v'∧WR C r' w' v'∧TE w' v'∧(∀ f ∈ fs',EvOk C r' f)∧Q r' a b) ∧
  (∀ h w' es',x.runT C.Px w es=(.halt h w',es')→isInit h=false)∧Loc C.Px x w w.tape w.drawn es
theorem runT_bind {α β:Type} (p:Program) (f:α→Sem β):∀ (x:Sem α) (w:World) (es:Array Event),
  (x.bind f).runT p w es=match x.runT p w es with
   | (.ok a w',es')=>(f a).runT p w' es'
   | (.halt h w',es')=>(.halt h w',es')
 | .pure a,w,es=>rfl
 | .load m a k,w,es=>by
  simp only [Sem.bind,Sem.runT];split
  ·exact runT_bind p f _ _ _
  ·split
   ·exact runT_bind p f _ _ _
   ·rfl
 | .store m a v k,w,es=>by
  cases v <;> simp only [Sem.bind,Sem.runT] <;> first | rfl | (split <;> first | (split <;> first | exact runT_bind p f _ _ _ | rfl) | exact runT_bind p f _ _ _)
 | .new o k,w,es=>by simp only [Sem.bind,Sem.runT]; exact runT_bind p f _ _ _
 | .shape r k,w,es=>by simp only [Sem.bind,Sem.runT]; exact runT_bind p f _ _ _
 | .freeze a n k,w,es=>by simp only [Sem.bind,Sem.runT]; exact runT_bind p f _ _ _
 | .frozen a k,w,es=>by simp only [Sem.bind,Sem.runT]; exact runT_bind p f _ _ _
 | .getObj r k,w,es=>by
  simp only [Sem.bind,Sem.runT];split
  ·rfl
  ·exact runT_bind p f _ _ _
  ·rfl
 | .setObj r o k,w,es=>by
  simp only [Sem.bind,Sem.runT];split
  ·rfl
  ·exact runT_bind p f _ _ _
  ·rfl
 | .choose q k,w,es=>by
  simp only [Sem.bind,Sem.runT];split <;> exact runT_bind p f _ _ _
 | .sys c k,w,es=>by simp only [Sem.bind,Sem.runT]; exact runT_bind p f _ _ _
 | .program k,w,es=>by simp only [Sem.bind,Sem.runT]; exact runT_bind p f _ _ _
 | .mark m k,w,es=>by simp only [Sem.bind,Sem.runT]; exact runT_bind p f _ _ _
 | .halt h,w,es=>rfl
theorem Loc.bindL {P:Program} {α β:Type} {x:Sem α} {k:α→Sem β} {w:World} {es:Array Event} (hx:Loc P x w w.tape w.drawn es) (hk:∀ a (w1:World) ex,Loc P (k a) w1 w1.tape w1.drawn ex):Loc P (x >>= k) w w.tape w.drawn es:=by
 obtain ⟨n,R,ex,h1,h2⟩:=hx;have run:∀ t d,(x >>= k).runT P (w.tp t d) es=_:=fun t d=>runT_bind P k x (w.tp t d) es
 cases R with
 | halt hh wh=>exact ⟨n,.halt hh wh,ex,by rw [run,h1]; rfl,fun t' d' ha=>by rw [run,h2 t' d' ha]; rfl⟩
 | ok a w1 =>
  obtain ⟨n2,R2,es2,k1,k2⟩:=hk a (w1.tp w.tape (w.drawn+n)) ex;refine ⟨n+n2,R2,es2,?_,fun t' d' ha => ?_⟩
  ·rw [run,h1,← Nat.add_assoc]; exact k1
  ·rw [run,h2 t' d' ha.left,← Nat.add_assoc]; exact k2 t' (d'+n) ha.right
theorem Loc.bindN {P:Program} {α β:Type} {x:Sem α} {k:α→Sem β} {w:World} {es:Array Event} (hx:Loc P x w w.tape w.drawn es) (hn:∀ a w' es',x.runT P w es ≠ (.ok a w',es')):Loc P (x >>= k) w w.tape w.drawn es:=by
 obtain ⟨n,R,ex,h1,h2⟩:=hx;have run:∀ t d,(x >>= k).runT P (w.tp t d) es=_:=fun t d=>runT_bind P k x (w.tp t d) es
 cases R with
 | halt hh wh=>exact ⟨n,.halt hh wh,ex,by rw [run,h1]; rfl,fun t' d' ha=>by rw [run,h2 t' d' ha]; rfl⟩
 | ok a w1=>exact absurd h1 (hn _ _ _)
section
variable {C : Ctx} {α β γ δ : Type} {r : Ren}
theorem Sim.pure {Q:Ren→α→β→Prop} {a:α} {b:β} (h:Q r a b):Sim C r Q (Pure.pure a) (Pure.pure b):=by
 intro w v es fs hw ht hf;refine ⟨fun a' w' es' e => ?_,fun h w' es' e=>(by cases e),loc_of (by exact trivial) w es⟩;cases e;exact ⟨b,v,fs,r,rfl,Ext.refl C r w v,hw,ht,hf,h⟩
theorem Sim.bind {Q:Ren→α→β→Prop} {Q':Ren→γ→δ→Prop} {x:Sem α} {y:Sem β} {k:α→Sem γ} {l:β→Sem δ} (h:Sim C r Q x y)
  (hk:∀ r' a b,Sub r r'→Q r' a b→Sim C r' Q' (k a) (l b)):Sim C r Q' (x >>= k) (y >>= l):=by
 intro w v es fs hw ht hf;have key:∀ R es',(x.bind k).runT C.Px w es=(R,es') →
   (∃ h w',R = .halt h w'∧isInit h=false) ∨ (∃ a b w1 v1 ex fs1 r1,y.runT C.P v fs=(.ok b v1,fs1)∧Ext C r w v r1 w1 v1∧WR C r1 w1 v1∧TE w1 v1∧(∀ f ∈ fs1,EvOk C r1 f)∧Q r1 a b∧(k a).runT C.Px w1 ex=(R,es')):=by
  intro R es' e;rw [runT_bind] at e;generalize hx:x.runT C.Px w es=rx at e;obtain ⟨rx,ex⟩:=rx;cases rx with
  | halt hh wh=>cases e; exact .inl ⟨hh,wh,rfl,(h w v es fs hw ht hf).2.1 _ _ _ hx⟩
  | ok a w1 =>
   obtain ⟨b,v1,fs1,r1,e1,x1,hw1,ht1,hf1,q1⟩:=(h w v es fs hw ht hf).1 a w1 ex hx;exact .inr ⟨a,b,w1,v1,ex,fs1,r1,e1,x1,hw1,ht1,hf1,q1,e⟩
 refine ⟨fun a' w' es' e => ?_,fun hh w' es' e => ?_,?_⟩
 ·rcases key _ _ e with ⟨_,_,e',_⟩ | ⟨a,b,w1,v1,ex,fs1,r1,e1,x1,hw1,ht1,hf1,q1,e'⟩
  ·cases e'
  ·obtain ⟨b2,v2,fs2,r2,e2,x2,hw2,ht2,hf2,q2⟩:=(hk r1 a b x1.le q1 w1 v1 ex fs1 hw1 ht1 hf1).1 a' w' es' e'
   refine ⟨b2,v2,fs2,r2,?_,x1.trans x2,hw2,ht2,hf2,q2⟩;show (y.bind l).runT C.P v fs=_
   rw [runT_bind,e1]; exact e2
 ·rcases key _ _ e with ⟨_,_,e',hn⟩ | ⟨a,b,w1,v1,ex,fs1,r1,e1,x1,hw1,ht1,hf1,q1,e'⟩
  ·cases e'; exact hn
  ·exact (hk r1 a b x1.le q1 w1 v1 ex fs1 hw1 ht1 hf1).2.1 _ _ _ e'
 ·obtain ⟨n,R,ex,h1,h2⟩:=(h w v es fs hw ht hf).2.2
  have run:∀ t d,(x >>= k).runT C.Px (w.tp t d) es=_:=fun t d=>runT_bind C.Px k x (w.tp t d) es
  cases R with
  | halt hh wh=>exact ⟨n,.halt hh wh,ex,by rw [run,h1]; rfl,fun t' d' ha=>by rw [run,h2 t' d' ha]; rfl⟩
  | ok a w1 =>
   obtain ⟨b,v1,fs1,r1,e1,x1,hw1,ht1,hf1,q1⟩:=(h w v es fs hw ht hf).1 a _ ex h1;obtain ⟨n2,R2,es2,k1,k2⟩:=(hk r1 a b x1.le q1 _ v1 ex fs1 hw1 ht1 hf1).2.2;refine ⟨n+n2,R2,es2,?_,fun t' d' ha => ?_⟩
   ·rw [run,h1,← Nat.add_assoc]; exact k1
   ·rw [run,h2 t' d' ha.left,← Nat.add_assoc]; exact k2 t' (d'+n) ha.right
theorem Sim.mono {Q Q':Ren→α→β→Prop} {x:Sem α} {y:Sem β} (h:Sim C r Q x y) (hq:∀ r' a b,Sub r r'→Q r' a b→Q' r' a b):Sim C r Q' x y:=by
 intro w v es fs hw ht hf;refine ⟨fun a' w' es' e => ?_,(h w v es fs hw ht hf).2.1,(h w v es fs hw ht hf).2.2⟩;obtain ⟨b,v',fs',r',h1,h2,h3,h4,h5,h6⟩:=(h w v es fs hw ht hf).1 a' w' es' e;exact ⟨b,v',fs',r',h1,h2,h3,h4,h5,hq _ _ _ h2.le h6⟩
theorem Sim.halt {Q:Ren→α→β→Prop} {h:Halt} {y:Sem β} (hi:isInit h=false:=by rfl):Sim C r Q (Sem.halt h) y:=by
 intro w v es fs hw ht hf;exact ⟨fun a' w' es' e=>(by cases e),fun h' w' es' e=>(by cases e; exact hi),loc_of (by exact trivial) w es⟩
def NI (p:Program) (x:Sem α):Prop:=(∀ w es h w' es',x.runT p w es=(.halt h w',es')→isInit h=false)∧∀ w es,Loc p x w w.tape w.drawn es
def Never (p:Program) (x:Sem α):Prop:=(∀ w es a w' es',x.runT p w es ≠ (.ok a w',es'))∧NI p x
theorem Sim.never {Q:Ren→α→β→Prop} {x:Sem α} {y:Sem β} (h:Never C.Px x):Sim C r Q x y:=fun w v es fs _ _ _=>⟨fun a w' es' e=>absurd e (h.1 w es a w' es'),fun hh w' es' e=>h.2.1 w es hh w' es' e,h.2.2 w es⟩
theorem NI.pure {p:Program} {a:α}:NI p (Pure.pure a:Sem α):=⟨fun w es h w' es' e=>(by cases e),fun w es=>loc_of (by exact trivial) w es⟩
theorem NI.halt {p:Program} {h:Halt} (hi:isInit h=false:=by rfl):NI p (Sem.halt h:Sem α):=⟨fun w es h' w' es' e=>(by cases e; exact hi),fun w es=>loc_of (by exact trivial) w es⟩
theorem NI.bind {p:Program} {x:Sem α} {k:α→Sem γ} (h:NI p x) (hk:∀ a,NI p (k a)):NI p (x >>= k):=by
 refine ⟨?_,fun w es=>(h.2 w es).bindL fun a w1 ex=>(hk a).2 w1 ex⟩;intro w es hh w' es' e;change (x.bind k).runT p w es=_ at e
 rw [runT_bind] at e;split at e
 ·exact (hk _).1 _ _ _ _ _ e
 ·rename_i hx; cases e; exact h.1 _ _ _ _ _ hx
theorem NI.choose {p:Program} {q:Question}:NI p (Go.choose q):=by
 refine ⟨?_,fun w es=>loc_of (by exact fun _=>trivial) w es⟩;intro w es hh w' es' e;simp only [Go.choose,Sem.runT] at e;split at e <;> cases e
theorem NI.mark {p:Program} {m:Mark}:NI p (Go.mark m):=⟨fun w es h w' es' e=>(by cases e),fun w es=>loc_of (x:=Go.mark m) (by exact trivial) w es⟩
theorem NI.shape {p:Program} {b:Nat}:NI p (Go.shape b):=⟨fun w es h w' es' e=>(by cases e),fun w es=>loc_of (by exact fun _=>trivial) w es⟩
theorem NI.frozen {p:Program} {b:Addr}:NI p (Go.frozen b):=⟨fun w es h w' es' e=>(by cases e),fun w es=>loc_of (by exact fun _=>trivial) w es⟩
theorem NI.program {p:Program}:NI p Go.program:=⟨fun w es h w' es' e=>(by cases e),fun w es=>loc_of (by exact fun _=>trivial) w es⟩
theorem NI.new {p:Program} {o:Obj}:NI p (Go.newObj o):=⟨fun w es h w' es' e=>(by cases e),fun w es=>loc_of (by exact fun _=>trivial) w es⟩
theorem NI.ite {p:Program} {c:Prop} [Decidable c] {x y:Sem α} (h:NI p x) (k:NI p y):NI p (if c then x else y):=by
 split
 ·exact h
 ·exact k
theorem NI.info {p:Program} {t:TypeId}:NI p (typeInfo t):=by
 unfold typeInfo;refine NI.bind NI.program fun q => ?_
 cases q.info? t <;> first | exact NI.pure | exact NI.halt
theorem NI.under {p:Program} {t:TypeId}:NI p (underlying t):=by
 unfold underlying;refine NI.bind NI.program fun q => ?_
 cases q.underlying t <;> first | exact NI.pure | exact NI.halt
theorem Never.halt {p:Program} {h:Halt} (hi:isInit h=false:=by rfl):Never p (Sem.halt h:Sem α):=⟨fun w es a w' es' e=>(by cases e),NI.halt hi⟩
theorem Never.bind_right {p:Program} {x:Sem α} {k:α→Sem γ} (h:∀ a,Never p (k a)) (hx:NI p x:=by first | exact NI.choose | exact NI.program | exact NI.info | exact NI.under | exact NI.mark | exact NI.pure | exact NI.shape):Never p (x >>= k):=by
 refine ⟨fun w es a w' es' e => ?_,NI.bind hx fun a=>(h a).2⟩;change (x.bind k).runT p w es=_ at e
 rw [runT_bind] at e;split at e
 ·exact (h _).1 _ _ _ _ _ e
 ·cases e
theorem Never.bind_left {p:Program} {x:Sem α} {k:α→Sem γ} (h:Never p x):Never p (x >>= k):=by
 refine ⟨fun w es a w' es' e => ?_,fun w es hh w' es' e => ?_,fun w es=>(h.2.2 w es).bindN fun a w' es'=>h.1 w es a w' es'⟩
 ·change (x.bind k).runT p w es=_ at e
  rw [runT_bind] at e;split at e
  ·rename_i hx; exact h.1 _ _ _ _ _ hx
  ·cases e
 ·change (x.bind k).runT p w es=_ at e
  rw [runT_bind] at e;split at e
  ·rename_i hx; exact absurd hx (h.1 _ _ _ _ _)
  ·rename_i hx; cases e; exact h.2.1 _ _ _ _ _ hx
theorem Sim.load {a b:Addr} (m:Mode) (ab:AR C r a b):Sim C r (VR C) (Go.load a .plain) (Go.load b .plain):=by
 intro w v es fs hw ht hf;refine ⟨fun x w' es' e => ?_,fun hh w' es' e => ?_,loc_of (by exact fun _=>trivial) w es⟩;rotate_left
 ·simp only [Go.load,Sem.runT] at e
  cases hc:w.cell? a with
  | some z=>rw [hc] at e; cases e
  | none =>
   rw [hc] at e;simp only [World.farLoad,World.noCell] at e;rcases hw.kind ab.1 with ⟨_,_,_,ho⟩ | ⟨_,_,ho⟩ | ⟨_,_,ho⟩ | ⟨_,_,_,_,_,_,ho⟩ <;> rw [ho] at e <;> simp at e <;> (obtain ⟨⟨rfl,_⟩,_⟩:=e; rfl)
 simp only [Go.load,Sem.runT] at e ⊢;cases hc:w.cell? a with
 | some z =>
  rw [hc] at e;cases e;obtain ⟨y,hy,hr⟩:=hw.cell ab hc;rw [hy];refine ⟨y,v,_,r,rfl,Ext.refl C r w v,hw,ht,?_,hr⟩;intro f hfm;rcases Array.mem_push.1 hfm with h | rfl
  ·exact hf f h
  ·exact .inl ⟨rfl,.inl ⟨b,rfl,a.block,ab.1,fun h=>by cases h⟩⟩
 | none =>
  rw [hc] at e;simp only [World.farLoad,World.noCell] at e;rcases hw.kind ab.1 with ⟨_,_,_,ho⟩ | ⟨_,_,ho⟩ | ⟨_,_,ho⟩ | ⟨_,_,_,_,_,_,ho⟩ <;> rw [ho] at e <;> simp at e
theorem Sim.store {a b : Addr} {x y : Value} (ab : AR C r a b) (xy : VR C r x y) : Sim C r (fun _ _ _ => True) (Go.store a x .plain) (Go.store b y .plain) := by
 intro w v es fs hw ht hf;refine ⟨fun u w' es' e => ?_, fun hh w' es' e => ?_, loc_of (x := Go.store _ _ _) trivial w es⟩;rotate_left
 ·have key : (∀ c, x ≠ .agg c) ∧ (∀ c, x ≠ .tuple c) → isInit hh = false := by
   intro hx;have run : (Go.store a x .plain).runT C.Px w es = match w.cell? a with
     | some _ => if w.frozen? a then (.halt (.unsupported (.unsafePointer "a write to bytes that a string shares")) w, es) else (.ok () (w.setCell a x), es.push ⟨.cell a, true, false⟩)
     | none => match w.farStore C.Px a x false with
      | .ok (w, touched) => (.ok () w, es ++ touched.toArray.map (⟨.cell ·, true, false⟩))
      | .error h => (.halt h w, es) := by
    cases x <;> first | exact (hx.1 _ rfl).elim | exact (hx.2 _ rfl).elim | rfl
   rw [run] at e;cases hc : w.cell? a with
   | some z =>
    rw [hc] at e;simp only at e;split at e <;> cases e
    rfl
   | none =>
    rw [hc] at e;simp only [World.farStore, World.noCell] at e;rcases hw.kind ab.1 with ⟨_, _, _, ho⟩ | ⟨_, _, ho⟩ | ⟨_, _, ho⟩ | ⟨_, _, _, _, _, _, ho⟩ <;> rw [ho] at e <;> simp at e <;> (obtain ⟨⟨rfl, _⟩, _⟩ := e; rfl)
  cases x with
  | agg c => cases e; rfl
  | tuple c => cases e; rfl
  | _ => exact key ⟨fun c e => (by cases e), fun c e => (by cases e)⟩
 have key : ∀ (hx : (∀ c, x ≠ .agg c) ∧ (∀ c, x ≠ .tuple c)), ∃ b_1 v' fs' r', (Go.store b y .plain).runT C.P v fs = (.ok b_1 v', fs') ∧ Ext C r w v r' w' v' ∧ WR C r' w' v' ∧ TE w' v' ∧ (∀ f ∈ fs', EvOk C r' f) ∧ True := by
  intro hx;have hy : (∀ c, y ≠ .agg c) ∧ (∀ c, y ≠ .tuple c) := by
   cases xy <;> first | exact (hx.1 _ rfl).elim | exact (hx.2 _ rfl).elim | (refine ⟨fun c e => ?_, fun c e => ?_⟩ <;> cases e)
  have run : ∀ (p : Program) (u : World) (c : Addr) (z : Value) (gs : Array Event), (∀ c, z ≠ .agg c) ∧ (∀ c, z ≠ .tuple c) → (Go.store c z .plain).runT p u gs = match u.cell? c with
    | some _ => if u.frozen? c then (.halt (.unsupported (.unsafePointer "a write to bytes that a string shares")) u, gs) else (.ok () (u.setCell c z), gs.push ⟨.cell c, true, false⟩)
    | none => match u.farStore p c z false with
     | .ok (w, touched) => (.ok () w, gs ++ touched.toArray.map (⟨.cell ·, true, false⟩))
     | .error h => (.halt h u, gs) := by
   intro p u c z gs hz;cases z <;> first | exact absurd rfl (hz.1 _) | exact absurd rfl (hz.2 _) | rfl
  rw [run _ _ _ _ _ hx] at e;cases hc : w.cell? a with
  | some z =>
   rw [hc] at e;simp only at e;split at e
   ·cases e
   ·rename_i hfz
    simp only [Bool.not_eq_true] at hfz;cases e;obtain ⟨z', hz', _⟩ := hw.cell ab hc;have hn := hw.notRO ab hc hfz;rw [run _ _ _ _ _ hy, hz'];simp only [hw.frozen ab hn hfz, Bool.false_eq_true, if_false];refine ⟨(), _, _, r, rfl, ⟨Sub.refl _, fun _ _ h => .inl h, fun i h => by rw [setCell_size] at h; omega, by rw [setCell_size, setCell_size]; omega, by rw [setCell_size]; exact Nat.le_refl _, ⟨0, rfl, rfl⟩, fun q hq hno => ?_, fun p q pq hp => ?_, rfl, rfl, rfl, rfl, rfl, rfl⟩, hw.set ab hn xy, ht, ?_, trivial⟩
    ·rw [setCell_get, if_neg (fun e => hno a.block (by rw [← e]; exact ab.1))]
    ·refine (setCell_get _ _ _ _).trans (if_neg fun e => ?_)
     rcases hw.inj _ _ _ ab.1 (by rw [e]; exact pq) with e' | ⟨e', _⟩
     ·exact hn (by rw [e']; exact hp)
     ·exact hn e'
    ·intro f hfm
     rcases Array.mem_push.1 hfm with h | rfl
     ·exact hf f h
     ·exact .inl ⟨rfl, .inl ⟨b, rfl, a.block, ab.1, fun _ => hn⟩⟩
  | none =>
   rw [hc] at e;simp only [World.farStore, World.noCell] at e;rcases hw.kind ab.1 with ⟨_, _, _, ho⟩ | ⟨_, _, ho⟩ | ⟨_, _, ho⟩ | ⟨_, _, _, _, _, _, ho⟩ <;> rw [ho] at e <;> simp at e
 cases x with
 | agg c => cases e
 | tuple c => cases e
 | _ => exact key ⟨fun c e => (by cases e), fun c e => (by cases e)⟩
theorem Sim.new {o o':Obj} (ho:∀ a b,OR C (r.ext a b) (some o) (some o')):Sim C r (fun s a b=>s a b∧C.sh a=0) (newObj o) (newObj o'):=by
 intro w v es fs hw ht hf;refine ⟨fun u w' es' e => ?_,fun hh w' es' e=>(by cases e),loc_of (by exact fun _=>trivial) w es⟩;cases e;exact ⟨v.heap.size,_,_,_,rfl,Ext.push C (fun a b h=>(hw.lt a b h).2) o o',hw.push (ho _ _),ht,fun f h=>(hf f h).mono (Ren.sub_ext _ _ _),.inr ⟨rfl,rfl⟩,hw.shz _ (fun h=>by have:=hw.roLt _ h; omega)⟩
theorem TE.drew {w v:World} (h:TE w v):TE { w with drawn:=w.drawn+1 } { v with drawn:=v.drawn+1 }:=fun i q=>by
 have:=h (1+i) q;simpa [Nat.add_assoc] using this
theorem Sim.choose (q:Question):Sim C r (fun _ a b=>a=b) (Go.choose q) (Go.choose q):=by
 intro w v es fs hw ht hf;refine ⟨fun u w' es' e => ?_,fun hh w' es' e=>NI.choose.1 _ _ _ _ _ e,loc_of (by exact fun _=>trivial) w es⟩;simp only [Go.choose,Sem.runT] at e ⊢;split at e
 ·rename_i h
  cases e;simp only [h,if_true];exact ⟨_,_,_,r,rfl,Ext.refl C r w v,hw,ht,hf,rfl⟩
 ·rename_i h
  cases e;rw [if_neg h];refine ⟨_,_,_,r,rfl,⟨Sub.refl _,fun _ _ h => .inl h,fun i h=>absurd h (by simp),Nat.add_comm _ _,Nat.le_refl _,⟨1,rfl,rfl⟩,fun _ _ _=>rfl,fun _ _ _ _=>rfl,rfl,rfl,rfl,rfl,rfl,rfl⟩,⟨hw.lt,hw.fn,hw.inj,hw.obj,hw.win,hw.winG,hw.glob,hw.big,hw.shz,hw.roLt,hw.noInfo⟩,ht.drew,hf,?_⟩;have:=ht 0 q;simp only [Nat.add_zero] at this;rw [this]
theorem Sim.noRoom:Sim C r (fun _ _ _=>True) (Go.mark .noRoom) (Go.mark .noRoom):=by
 intro w v es fs hw ht hf;refine ⟨fun u w' es' e => ?_,fun hh w' es' e=>(by cases e),loc_of (x:=Go.mark .noRoom) trivial w es⟩;cases e;refine ⟨(),v,_,r,rfl,Ext.refl C r w v,hw,ht,fun f hfm => ?_,trivial⟩;rcases Array.mem_push.1 hfm with h | rfl
 ·exact hf f h
 ·exact .inr (.inl rfl)
theorem Sim.askRoom (n:Nat):Sim C r (fun _ _ _=>True) (askRoom n) (askRoom n):=by
 unfold Go.askRoom;split
 ·exact Sim.noRoom
 ·exact Sim.pure trivial
theorem Sim.program:Sim C r (fun _ p q=>p=C.Px∧q=C.P) Go.program Go.program:=by
 intro w v es fs hw ht hf;refine ⟨fun u w' es' e => ?_,fun hh w' es' e=>(by cases e),loc_of (by exact fun _=>trivial) w es⟩;cases e;exact ⟨_,v,fs,r,rfl,Ext.refl C r w v,hw,ht,hf,rfl,rfl⟩
end
end Rn
end Go.Proofs.YtjcgklifabcfkaaGreat
