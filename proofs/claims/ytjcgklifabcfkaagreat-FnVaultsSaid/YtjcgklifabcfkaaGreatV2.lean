/-
  Texts that the law stands on, part 2.
-/
import Derived.Test.YtjcgklifabcfkaaGreatV1
import Derived.Laws.Sem
set_option maxRecDepth 100000
set_option linter.unusedVariables false
set_option linter.unusedSimpArgs false
namespace Go.Proofs.YtjcgklifabcfkaaGreat
namespace Rn
inductive VL (C:Ctx) (r:Ren):List Value→List Value→Prop
 | nil:VL C r [] []
 | cons {x y xs ys}:VR C r x y→VL C r xs ys→VL C r (x :: xs) (y :: ys)
section
variable {C : Ctx} {r r' : Ren}
theorem VL.mono (h:Sub r r') {xs ys:List Value} (x:VL C r xs ys):VL C r' xs ys:=by
 induction x with
 | nil=>exact .nil
 | cons a _ ih=>exact .cons (a.mono h) ih
theorem VL.of_get:∀ {xs ys:List Value},xs.length=ys.length→(∀ (i:Nat) x y,xs[i]?=some x→ys[i]?=some y→VR C r x y)→VL C r xs ys
 | [],[],_,_ => .nil
 | [],_ :: _,h,_=>by simp at h
 | _ :: _,[],h,_=>by simp at h
 | x :: xs,y :: ys,h,k => .cons (k 0 x y rfl rfl) (VL.of_get (by simpa using h) fun i a b ha hb=>k (i+1) a b (by simpa using ha) (by simpa using hb))
theorem VL.length {xs ys:List Value} (h:VL C r xs ys):xs.length=ys.length:=by
 induction h with
 | nil=>rfl
 | cons _ _ ih=>simp [ih]
theorem VL.get {xs ys:List Value} (h:VL C r xs ys):∀ (i:Nat) x y,xs[i]?=some x→ys[i]?=some y→VR C r x y:=by
 induction h with
 | nil=>intro i x y hx; simp at hx
 | cons a _ ih =>
  intro i x y hx hy;cases i with
  | zero=>simp only [List.getElem?_cons_zero,Option.some.injEq] at hx hy; subst hx; subst hy; exact a
  | succ i=>exact ih i x y (by simpa using hx) (by simpa using hy)
theorem VAll.toList {xs ys:Array Value} (h:VAll C r xs ys):VL C r xs.toList ys.toList:=VL.of_get (by simpa using h.size) fun i x y hx hy=>h.get i x y (by simpa using hx) (by simpa using hy)
theorem VL.toArray {xs ys:List Value} (h:VL C r xs ys):VAll C r xs.toArray ys.toArray:=⟨by simpa using h.length,fun i x y hx hy=>h.get i x y (by simpa using hx) (by simpa using hy)⟩
theorem VAll.flat {xs:Array Value} (h:flatL xs.toList=true):VAll C r xs xs:=⟨rfl,fun i x y hx hy=>by
 rw [hx] at hy; cases hy;exact vr_flatL (l:=xs.toList) h i x (by simpa using hx)⟩
theorem flat_cells {v:Value} (h:flatV v=true):flatL v.cells.toList=true:=by
 cases v with
 | agg cs=>obtain ⟨cs⟩:=cs; simpa [flatV,Value.cells] using h
 | _=>simp [Value.cells,flatL,h]
theorem AR.add {a b:Addr} (h:AR C r a b) (n:Nat):AR C r (a.add n) (b.add n):=by
 unfold Addr.add;split
 ·exact h
 ·exact ⟨h.1,by simp [h.2.1]; omega,rfl⟩
theorem Sim.under (t : TypeId) : Sim C r (fun _ a b => a = b ∧ C.P.underlying t = some a) (underlying t) (underlying t) := by
 unfold underlying;refine Sim.bind Sim.program ?_;rintro r' p q _ ⟨rfl, rfl⟩;show Sim C r' _ (match C.P.underlying t with | some d => Pure.pure d | none => stuck "no such type") _
 cases h : C.P.underlying t with
 | none => exact Sim.halt
 | some d => exact Sim.pure ⟨rfl, rfl⟩
theorem Sim.info (t : TypeId) : Sim C r (fun _ a b => a = b ∧ C.P.info? t = some a) (typeInfo t) (typeInfo t) := by
 unfold typeInfo;refine Sim.bind Sim.program ?_;rintro r' p q _ ⟨rfl, rfl⟩;show Sim C r' _ (match C.P.info? t with | some d => Pure.pure d | none => stuck "no such type") _
 cases h : C.P.info? t with
 | none => exact Sim.halt
 | some d => exact Sim.pure ⟨rfl, rfl⟩
theorem Sim.sizeOf (t:TypeId):Sim C r (fun _ a b=>a=b∧∃ i,C.P.info? t=some i∧a=i.size) (Go.sizeOf t) (Go.sizeOf t):=by
 unfold Go.sizeOf;refine Sim.bind (Sim.info t) ?_;rintro r' a b _ ⟨rfl,h⟩;exact Sim.pure ⟨rfl,_,h,rfl⟩
theorem Sim.isAgg (t:TypeId):Sim C r (fun _ a b=>a=b) (Go.isAgg t) (Go.isAgg t):=by
 unfold Go.isAgg;refine Sim.bind (Sim.under t) ?_;rintro r' a b _ ⟨rfl,h⟩;cases a <;> exact Sim.pure rfl
def zeroOk (tb:Tables) (t:TypeId):Bool:=match (⟨tb,#[]⟩:Program).info? t with
 | some i=>match i.zero with
  | some z=>flatV z
  | none=>true
 | none=>true
theorem Sim.zero {t:TypeId} (hz:zeroOk C.tb t=true):Sim C r (fun _ a b=>a=b∧flatV a=true) (zeroValue t) (zeroValue t):=by
 unfold zeroValue;refine Sim.bind (Sim.info t) ?_;rintro r' a b _ ⟨rfl,h⟩;cases e:a.zero with
 | none=>exact Sim.halt
 | some z =>
  refine Sim.pure ⟨rfl,?_⟩;have h':(⟨C.tb,#[]⟩:Program).info? t=some a:=h;simpa [zeroOk,h',e] using hz
theorem Sim.loadCellsFrom {a b:Addr} (ab:AR C r a b):∀ (n i:Nat) (acc acc':Array Value) (r':Ren),Sub r r'→VAll C r' acc acc' →
  Sim C r' (VAll C) (Go.loadCellsFrom a i n acc) (Go.loadCellsFrom b i n acc')
 | 0,i,acc,acc',r',hr,h=>Sim.pure h
 | n+1,i,acc,acc',r',hr,h=>by
  unfold Go.loadCellsFrom;refine Sim.bind (Sim.load .plain ((ab.add i).mono hr)) ?_;intro r'' x y hs hxy;exact Sim.loadCellsFrom ab n (i+1) _ _ r'' (hr.trans hs) ((h.mono hs).push hxy)
theorem Sim.loadCells {a b:Addr} (ab:AR C r a b) (n:Nat):Sim C r (VAll C) (Go.loadCells a n) (Go.loadCells b n) :=
 Sim.loadCellsFrom ab n 0 #[] #[] r (Sub.refl _) VAll.nil
theorem Sim.loadVar {a b:Addr} (ab:AR C r a b) (t:TypeId):Sim C r (VR C) (Go.loadVar t a) (Go.loadVar t b):=by
 unfold Go.loadVar;refine Sim.bind (Sim.isAgg t) ?_;rintro r1 x y h1 rfl;cases x with
 | true =>
  refine Sim.bind (Sim.sizeOf t) ?_;rintro r2 n m h2 ⟨rfl,_⟩;refine Sim.bind (Sim.loadCells ((ab.mono h1).mono h2) n) ?_;intro r3 xs ys h3 hv;exact Sim.pure (VR.aggA hv)
 | false=>exact Sim.load .plain (ab.mono h1)
theorem Sim.storeCells:∀ {xs ys:List Value} {a b:Addr} {r:Ren} (i:Nat),AR C r a b→VL C r xs ys→Sim C r (fun _ _ _=>True) (Go.storeCells a xs i) (Go.storeCells b ys i)
 | [],[],a,b,r,i,ab,_=>Sim.pure trivial
 | x :: xs,y :: ys,a,b,r,i,ab,h=>by
  cases h with
  | cons hx hs =>
   unfold Go.storeCells;refine Sim.bind (Sim.store (ab.add i) hx) ?_;intro r' _ _ hr _;exact Sim.storeCells (i+1) (ab.mono hr) (hs.mono hr)
theorem Sim.storeVar {a b:Addr} (ab:AR C r a b) (t:TypeId) {x y:Value} (xy:VR C r x y):Sim C r (fun _ _ _=>True) (Go.storeVar t a x) (Go.storeVar t b y):=by
 unfold Go.storeVar;refine Sim.bind (Sim.sizeOf t) ?_;rintro r1 n m h1 ⟨rfl,_⟩;have hc:=xy.cells;rw [hc.size];split
 ·exact Sim.never (Never.bind_left Never.halt)
 ·exact Sim.storeCells 0 (ab.mono h1) (hc.mono h1).toList
theorem Sim.newRow (e:TypeId) {xs ys:Array Value} (h:VAll C r xs ys):Sim C r (AR C) (Go.newRow e xs) (Go.newRow e ys):=by
 unfold Go.newRow;refine Sim.bind (Sim.new (o := .cells xs e) (o' := .cells ys e) fun a b => .cells (h.mono (Ren.sub_ext _ _ _))) ?_;rintro r' a b hr ⟨hab,hsh⟩;exact Sim.pure ⟨hab,by simp [hsh],rfl⟩
theorem Sim.newVar (t:TypeId) {x y:Value} (h:VR C r x y):Sim C r (AR C) (Go.newVar t x) (Go.newVar t y):=Sim.newRow t h.cells
theorem Sim.part {xs ys:Array Value} (h:VAll C r xs ys) (t:TypeId) (off:Nat):Sim C r (VR C) (Go.part t xs off) (Go.part t ys off):=by
 unfold Go.part;refine Sim.bind (Sim.isAgg t) ?_;rintro r1 x y h1 rfl;cases x with
 | true =>
  refine Sim.bind (Sim.sizeOf t) ?_;rintro r2 n m h2 ⟨rfl,_⟩;exact Sim.pure (VR.aggA (((h.mono h1).mono h2).extract _ _))
 | false =>
  cases e:xs[off]? with
  | none=>simp only [Bool.false_eq_true,if_false,e]; exact Sim.halt
  | some v =>
   obtain ⟨y,hy,hr⟩:=(h.mono h1).get? e;simp only [Bool.false_eq_true,if_false,e,hy];exact Sim.pure hr
theorem Sim.sureAddr {x y:Value} (h:VR C r x y):Sim C r (AR C) (Instr.sureAddr x) (Instr.sureAddr y):=by
 cases h <;> first | exact Sim.halt | exact Sim.pure ‹_›
theorem Sim.asIntOf {x y:Value} (h:VR C r x y):Sim C r (fun _ a b=>a=b) (Go.asIntOf x) (Go.asIntOf y):=by
 cases h <;> first | exact Sim.halt | exact Sim.pure rfl
theorem Sim.asInt {x y:Value} (h:VR C r x y):Sim C r (fun _ a b=>a=b) (Go.asInt x) (Go.asInt y):=by
 unfold Go.asInt;refine Sim.bind (Sim.asIntOf h) ?_;rintro r' a b _ rfl;exact Sim.pure rfl
theorem Sim.asBool {x y:Value} (h:VR C r x y):Sim C r (fun _ a b=>a=b) (Go.asBool x) (Go.asBool y):=by
 cases h <;> first | exact Sim.halt | exact Sim.pure rfl
theorem Sim.asAgg {x y:Value} (h:VR C r x y):Sim C r (VAll C) (Go.asAgg x) (Go.asAgg y):=by
 cases h <;> first | exact Sim.halt | exact Sim.pure ⟨‹_›,‹_›⟩
theorem never_rtp {α:Type} (p:Program) (e:RuntimeError):Never p (runtimePanic e:Sem α):=by
 unfold runtimePanic;refine Never.bind_right fun p' => ?_
 have el:∀ t,NI p (elemOf t):=fun t=>by
  unfold elemOf;refine NI.bind NI.under fun d => ?_
  cases d <;> first | exact NI.pure | exact NI.halt
 have nv:∀ t v,NI p (Go.newVar t v):=fun t v=>NI.bind NI.new fun _=>NI.pure
 cases e <;> first | exact Never.halt | exact Never.bind_right (fun _=>Never.bind_right (fun _=>Never.halt) (nv _ _)) (el _)
theorem never_bounds {α:Type} (p:Program) (k:IntKind) (x y:Int) (c:BoundsCode):Never p (boundsPanic k x y c:Sem α):=by
 unfold boundsPanic;dsimp only;split
 ·exact Never.bind_right (fun _=>never_rtp _ _) (NI.bind NI.choose fun _=>NI.pure)
 ·exact Never.bind_right fun _=>never_rtp _ _
end
end Rn
namespace Rn
section
variable {C : Ctx} {r r' : Ren}
theorem Sim.given {α β:Type} {Q:Ren→α→β→Prop} {x:Sem α} {y:Sem β} (h:(∃ w v,WR C r w v)→Sim C r Q x y):Sim C r Q x y :=
 fun w v es fs hw ht hf=>h ⟨w,v,hw⟩ w v es fs hw ht hf
theorem Sim.shape {a b:Nat} (ab:r a b):Sim C r (fun _ x y=>x.isSome=y.isSome∧(¬ C.RO a→x=y)∧(C.RO a→∃ n,x=some (C.noT,n))) (Go.shape a) (Go.shape b):=by
 intro w v es fs hw ht hf;refine ⟨fun u w' es' e => ?_,fun hh w' es' e=>(by cases e),loc_of (by exact fun _=>trivial) w es⟩;simp only [Go.shape,Sem.runT,World.shape?] at e ⊢;refine ⟨_,v,fs,r,rfl,?_⟩;by_cases hr:C.RO a
 ·obtain ⟨c,hi,c',t',z',h1,h2,h3,_⟩:=hw.win _ _ ab hr
  rw [h1] at e;cases e;rw [h3];exact ⟨Ext.refl C r w v,hw,ht,hf,rfl,fun h=>absurd hr h,fun _=>⟨_,rfl⟩⟩
 ·have ho:=hw.obj _ _ ab hr
  revert e ho
  generalize w.heap[a]?=o1;generalize v.heap[b]?=o2;intro e ho;cases ho with
  | cells va=>cases e; exact ⟨Ext.refl C r w v,hw,ht,hf,rfl,fun _=>by simp [va.size],fun h=>absurd h hr⟩
  | map m=>cases e; exact ⟨Ext.refl C r w v,hw,ht,hf,rfl,fun _=>rfl,fun h=>absurd h hr⟩
  | number l m=>cases e; exact ⟨Ext.refl C r w v,hw,ht,hf,rfl,fun _=>rfl,fun h=>absurd h hr⟩
  | chan cap cl s q tm hc m=>cases e; exact ⟨Ext.refl C r w v,hw,ht,hf,rfl,fun _=>rfl,fun h=>absurd h hr⟩
theorem Sim.getObj {a b:Nat} (ab:r a b):Sim C r (fun r' x y=>OR C r' (some x) (some y)∧(∀ c t z,x ≠ .cells c t z)) (Go.getObj a) (Go.getObj b):=by
 intro w v es fs hw ht hf;refine ⟨fun u w' es' e => ?_,fun hh w' es' e => ?_,loc_of (by exact fun _=>trivial) w es⟩;rotate_left
 ·simp only [Go.getObj,Sem.runT] at e
  split at e <;> cases e <;> rfl
 have hev:∀ f ∈ fs.push ⟨.obj b,false,false⟩,EvOk C r f:=fun f hfm=>by
  rcases Array.mem_push.1 hfm with h | rfl
  ·exact hf f h
  ·exact .inl ⟨rfl,.inr ⟨b,rfl,a,ab,fun h=>by cases h⟩⟩
 have hevC:C.Ch→¬ C.RO a→∀ f ∈ fs.push ⟨.obj b,false,true⟩,EvOk C r f:=fun hc hr f hfm=>by
  rcases Array.mem_push.1 hfm with h | rfl
  ·exact hf f h
  ·exact .inr (.inr ⟨hc,rfl,b,rfl,a,ab,hr⟩)
 simp only [Go.getObj,Sem.runT] at e ⊢;by_cases hr:C.RO a
 ·obtain ⟨c,hi,c',t',z',h1,h2,h3,_⟩:=hw.win _ _ ab hr
  rw [h1] at e;cases e
 ·have ho:=hw.obj _ _ ab hr
  revert e ho
  generalize w.heap[a]?=o1;generalize v.heap[b]?=o2;intro e ho;cases ho with
  | cells va=>cases e
  | map m=>cases e; exact ⟨_,v,_,r,rfl,Ext.refl C r w v,hw,ht,hev,.map m,fun c t z e=>by cases e⟩
  | number l m=>cases e; exact ⟨_,v,_,r,rfl,Ext.refl C r w v,hw,ht,hev,.number l m,fun c t z e=>by cases e⟩
  | chan cap cl s q tm hc m=>cases e; exact ⟨_,v,_,r,rfl,Ext.refl C r w v,hw,ht,hevC hc hr,.chan cap cl s q tm hc m,fun c t z e=>by cases e⟩
theorem Sim.setObjR {a b:Nat} (ab:r a b) {ob ob':Obj} (h:OR C r (some ob) (some ob')):Sim C r (fun _ _ _=>True) (Go.setObj a ob) (Go.setObj b ob'):=by
 intro w v es0 fs hw ht hf;refine ⟨fun u w' es1 e => ?_,fun hh w' es' e => ?_,loc_of (x:=Go.setObj _ _) (by exact trivial) w es0⟩;rotate_left
 ·simp only [Go.setObj,Sem.runT] at e
  split at e <;> cases e <;> rfl
 have hnr:(∀ c t z,w.heap[a]? ≠ some (.cells c t z))→¬ C.RO a:=fun hn hr=>by
  obtain ⟨c,hi,c',t',z',h1,h2,h3,_⟩:=hw.win _ _ ab hr;exact hn _ _ _ h1
 have fin:(∀ c t z,w.heap[a]? ≠ some (.cells c t z)) →
   Ext C r w v r { w with heap:=w.heap.setIfInBounds a ob } { v with heap:=v.heap.setIfInBounds b ob' }∧WR C r { w with heap:=w.heap.setIfInBounds a ob } { v with heap:=v.heap.setIfInBounds b ob' }∧(∀ f ∈ fs.push ⟨.obj b,true,ob'.isChan⟩,EvOk C r f):=by
  intro hn;have hic:ob'.isChan=false ∨ (ob'.isChan=true∧C.Ch):=by
   cases h with
   | chan cap cl s q tm hc m=>exact .inr ⟨rfl,hc⟩
   | _=>exact .inl rfl
  have hl:=hw.lt _ _ ab;have hr:=hnr hn;have apart:∀ p q,r p q→a ≠ p→b ≠ q:=fun p q pq hp e=>by
   rcases hw.inj _ _ _ ab (by rw [e]; exact pq) with e' | ⟨e',_⟩
   ·exact hp e'
   ·exact hr e'
  refine ⟨⟨Sub.refl _,fun _ _ h => .inl h,fun i h=>absurd h (by simp),by simp; omega,by simp,⟨0,rfl,rfl⟩,fun q hq hno => ?_,fun p q pq hp => ?_,rfl,rfl,rfl,rfl,rfl,rfl⟩,
   ⟨fun p q pq=>by simpa using hw.lt p q pq,hw.fn,hw.inj,fun p q pq hpr => ?_,fun p q pq hpr => ?_,hw.winG,hw.glob,by simpa using hw.big,hw.shz,fun p hp=>by simpa using hw.roLt p hp,hw.noInfo⟩,fun f hfm => ?_⟩
  ·simp only [Array.getElem?_setIfInBounds]
   rw [if_neg (fun e=>hno a (by rw [← e]; exact ab))]
  ·simp only [Array.getElem?_setIfInBounds]
   rw [if_neg (apart p q pq (fun e=>hr (by rw [e]; exact hp)))]
  ·simp only [Array.getElem?_setIfInBounds]
   by_cases hp:a=p
   ·subst hp
    have:b=q:=hw.fn _ _ _ ab pq;subst this;rw [if_pos rfl,if_pos rfl,if_pos hl.1,if_pos hl.2];exact h
   ·rw [if_neg hp,if_neg (apart p q pq hp)]
    exact hw.obj p q pq hpr
  ·have hp:a ≠ p:=fun e=>hr (by rw [e]; exact hpr)
   simp only [Array.getElem?_setIfInBounds];rw [if_neg hp,if_neg (apart p q pq hp)];exact hw.win p q pq hpr
  ·rcases Array.mem_push.1 hfm with h | rfl
   ·exact hf f h
   ·rcases hic with e | ⟨e,hc⟩
    ·rw [e]; exact .inl ⟨rfl,.inr ⟨b,rfl,a,ab,fun _=>hr⟩⟩
    ·rw [e]; exact .inr (.inr ⟨hc,rfl,b,rfl,a,ab,hr⟩)
 simp only [Go.setObj,Sem.runT] at e ⊢;by_cases hr:C.RO a
 ·obtain ⟨c,hi,c',t',z',h1,h2,h3,_⟩:=hw.win _ _ ab hr
  rw [h1] at e;cases e
 have ho:=hw.obj _ _ ab hr;cases h1:w.heap[a]? with
 | none=>rw [h1] at e; cases e
 | some o =>
  rw [h1] at e ho;cases h2:v.heap[b]? with
  | none=>rw [h2] at ho; cases ho
  | some o' =>
   rw [h2] at ho;cases ho with
   | cells va=>cases e
   | map m =>
    cases e;obtain ⟨f1,f2,f3⟩:=fin (fun c t z e=>by rw [h1] at e; cases e);exact ⟨(),_,_,r,rfl,f1,f2,ht,f3,trivial⟩
   | number l m =>
    cases e;obtain ⟨f1,f2,f3⟩:=fin (fun c t z e=>by rw [h1] at e; cases e);exact ⟨(),_,_,r,rfl,f1,f2,ht,f3,trivial⟩
   | chan cap cl s q tm hc m =>
    cases e;obtain ⟨f1,f2,f3⟩:=fin (fun c t z e=>by rw [h1] at e; cases e);exact ⟨(),_,_,r,rfl,f1,f2,ht,f3,trivial⟩
theorem Sim.setMap {a b:Nat} (ab:r a b) {es es':Array MapEntry} (k:Nat) (h:EAll C r es es'):Sim C r (fun _ _ _=>True) (Go.setObj a (.map es k)) (Go.setObj b (.map es' k)):=Sim.setObjR ab (.map h)
theorem Sim.viewAt {a b:Nat} (ab:r a b):Sim C r (fun _ x y=>x=none∧y=none) (Go.viewAt a) (Go.viewAt b):=by
 unfold Go.viewAt;refine Sim.bind (Sim.shape ab) ?_;rintro r1 x y h1 ⟨hs,_,_⟩;cases x with
 | some s=>cases y with
  | some s'=>exact Sim.pure ⟨rfl,rfl⟩
  | none=>cases hs
 | none =>
  cases y with
  | some s'=>cases hs
  | none => ?_
  refine Sim.bind (Sim.getObj (h1 _ _ ab)) ?_;rintro r3 o o' h3 ⟨ho,_⟩;cases ho <;> exact Sim.pure ⟨rfl,rfl⟩
def NR (C:Ctx) (r:Ren):Option (Addr × Bool)→Option (Addr × Bool)→Prop
 | none,none=>True
 | some (a,l),some (b,m)=>AR C r a b∧l=m
 | _,_=>False
theorem Sim.numberAt {a b:Nat} (ab:r a b):Sim C r (fun s x y=>NR C s x y∧(C.RO a→x=none)) (Go.numberAt a) (Go.numberAt b):=by
 unfold Go.numberAt;refine Sim.bind (Sim.shape ab) ?_;rintro r1 x y h1 ⟨hs,_,hro⟩;cases x with
 | some s=>cases y with
  | some s'=>exact Sim.pure ⟨trivial,fun _=>rfl⟩
  | none=>cases hs
 | none =>
  cases y with
  | some s'=>cases hs
  | none => ?_
  have hnr:¬ C.RO a:=fun h=>by obtain ⟨n,e⟩:=hro h; cases e
  refine Sim.bind (Sim.getObj (h1 _ _ ab)) ?_;rintro r3 o o' h3 ⟨ho,_⟩;cases ho with
  | cells _=>exact Sim.pure ⟨trivial,fun _=>rfl⟩
  | map _=>exact Sim.pure ⟨trivial,fun _=>rfl⟩
  | number l m=>exact Sim.pure ⟨⟨m,rfl⟩,fun h=>absurd h hnr⟩
  | chan _ _ _ _ _ _ _=>exact Sim.pure ⟨trivial,fun _=>rfl⟩
theorem Sim.behind {a b:Addr} (ab:AR C r a b):Sim C r (fun s x y=>AR C s x.1 y.1∧x.2=y.2∧(C.RO a.block→x=(a,false))) (Go.behindNumber a) (Go.behindNumber b):=by
 unfold Go.behindNumber;refine Sim.bind (Sim.numberAt ab.1) ?_;rintro r1 x y h1 ⟨h,hro⟩;refine Sim.pure ?_;match x,y,h with
 | none,none,_=>exact ⟨ab.mono h1,rfl,fun _=>rfl⟩
 | some (a,l),some (b,m),h=>exact ⟨h.1,h.2,fun hr=>by cases hro hr⟩
theorem byteOfCell_C:∀ (d:Nat) (t:TypeId) (o:Nat),byteOfCell C.Px d t o=byteOfCell C.P d t o
 | 0,_,_=>rfl
 | d+1,t,o=>by
  have ih:byteOfCell C.Px d=byteOfCell C.P d:=by funext t o; exact byteOfCell_C d t o
  simp only [byteOfCell,ih];rfl
theorem cellOfByte_C:∀ (d:Nat) (t:TypeId) (o:Nat),cellOfByte C.Px d t o=cellOfByte C.P d t o
 | 0,_,_=>rfl
 | d+1,t,o=>by
  have ih:cellOfByte C.Px d=cellOfByte C.P d:=by funext t o; exact cellOfByte_C d t o
  simp only [cellOfByte,ih];rfl
theorem cellAtBytes_C (d:Nat) (e:TypeId) (n o:Nat) (k:Int):cellAtBytes C.Px d e n o k=cellAtBytes C.P d e n o k:=by
 have h1:byteOfCell C.Px d=byteOfCell C.P d:=by funext t o; exact byteOfCell_C d t o
 have h2:cellOfByte C.Px d=cellOfByte C.P d:=by funext t o; exact cellOfByte_C d t o
 unfold cellAtBytes;simp only [h1,h2];rfl
theorem Sim.byteOf {a b:Addr} (ab:AR C r a b) (hr:¬ C.RO a.block):Sim C r (fun _ x y=>x=y) (Go.byteOf a) (Go.byteOf b):=by
 refine Sim.given fun hw => ?_
 have hoff:b.off=a.off:=by obtain ⟨w,v,hw⟩:=hw; rw [ab.2.1,hw.shz _ hr]; rfl
 unfold Go.byteOf;rw [ab.2.2];cases a.spot with
 | some s=>exact Sim.pure rfl
 | none =>
  refine Sim.bind Sim.program ?_;rintro r1 p q h1 ⟨rfl,rfl⟩;refine Sim.bind (Q:=fun _ _ _=>True) ?_ ?_
  ·unfold Go.noView
   refine Sim.bind (Sim.viewAt (h1 _ _ ab.1)) ?_;rintro r2 x y h2 ⟨rfl,rfl⟩;exact Sim.pure trivial
  ·intro r2 _ _ h2 _
   refine Sim.bind (Sim.shape (h2 _ _ (h1 _ _ ab.1))) ?_;rintro r3 x y h3 ⟨_,hsame,_⟩;obtain rfl:=hsame hr;cases x with
   | none=>exact Sim.halt
   | some s =>
    obtain ⟨e,n⟩:=s;dsimp only;have hc:C.Px.cellsOf e=C.P.cellsOf e:=rfl;rw [hc];by_cases h0:C.P.cellsOf e=0
    ·simp only [h0,if_true]; exact Sim.pure rfl
    ·simp only [h0,if_false]
     have hb:byteOfCell C.Px C.Px.depth e (a.off % C.P.cellsOf e)=byteOfCell C.P C.P.depth e (b.off % C.P.cellsOf e):=by rw [hoff]; exact byteOfCell_C _ _ _
     rw [hb];cases byteOfCell C.P C.P.depth e (b.off % C.P.cellsOf e) with
     | none=>exact Sim.halt
     | some k=>rw [hoff]; exact Sim.pure rfl
end
end Rn
namespace Rn
section
variable {C : Ctx} {r r' : Ren}
theorem Never.ite {α:Type} {p:Program} {c:Prop} [Decidable c] {x y:Sem α} (h:Never p x) (k:Never p y):Never p (if c then x else y):=by
 split
 ·exact h
 ·exact k
def fieldOk (tb:Tables) (s:TypeId) (f:Nat):Bool:=match (⟨tb,#[]⟩:Program).underlying s with
 | some (.struct fs)=>match fs[f]? with
  | some fd=>match (⟨tb,#[]⟩:Program).info? fd.type with
   | some i=>i.size != 0
   | none=>true
  | none=>true
 | _=>true
theorem Sim.fieldAt {s:TypeId} {f:Nat} (ok:fieldOk C.tb s f=true) {x y:Value} (h:VR C r x y):Sim C r (VR C) (Instr.fieldAt s x f) (Instr.fieldAt s y f):=by
 unfold Instr.fieldAt;refine Sim.bind (Sim.under s) ?_;rintro r1 d d' h1 ⟨rfl,hd⟩;have hd':(⟨C.tb,#[]⟩:Program).underlying s=some d:=hd;simp only [fieldOk,hd'] at ok;cases d with
 | struct fs => ?_
 | _=>exact Sim.halt
 dsimp only at ok ⊢;cases e:fs[f]? with
 | none=>exact Sim.halt
 | some fd =>
  rw [e] at ok;refine Sim.bind (Sim.sureAddr (h.mono h1)) ?_;intro r2 a b h2 ab;have hp:Sim C r2 (AR C) (Go.fieldPlace a fd) (Go.fieldPlace b fd):=by
   unfold Go.fieldPlace;refine Sim.bind (Sim.sizeOf fd.type) ?_;rintro r1 x y h1 ⟨rfl,i,hi,rfl⟩;have hi':(⟨C.tb,#[]⟩:Program).info? fd.type=some i:=hi;simp only [hi'] at ok;have hne:¬ i.size=0:=by simpa using ok
   rw [if_neg hne,if_neg hne];exact Sim.pure ((ab.mono h1).add _)
  refine Sim.bind hp ?_;intro r3 a b h3 ab;exact Sim.pure (.ptr ab)
theorem Sim.fieldV (s:TypeId) (f:Nat) {x y:Value} (h:VR C r x y):Sim C r (VR C) (Instr.field s x f) (Instr.field s y f):=by
 unfold Instr.field;refine Sim.bind (Sim.under s) ?_;rintro r1 d d' h1 ⟨rfl,_⟩;cases d with
 | struct fs => ?_
 | _=>exact Sim.halt
 dsimp only;cases e:fs[f]? with
 | none=>exact Sim.halt
 | some fd =>
  refine Sim.bind (Sim.asAgg (h.mono h1)) ?_;intro r2 a b h2 ab;exact Sim.part ab _ _
theorem Sim.loadAt (t:TypeId) {x y:Value} (h:VR C r x y):Sim C r (VR C) (Instr.loadAt t x) (Instr.loadAt t y):=by
 unfold Instr.loadAt;refine Sim.bind (Sim.sureAddr h) ?_;intro r1 a b h1 ab;exact Sim.loadVar ab t
theorem Sim.storeAt (t:TypeId) {x y u z:Value} (h:VR C r x y) (k:VR C r u z):Sim C r (fun _ _ _=>True) (Instr.storeAt t x u) (Instr.storeAt t y z):=by
 unfold Instr.storeAt;refine Sim.bind (Sim.sureAddr h) ?_;intro r1 a b h1 ab;exact Sim.storeVar ab t (k.mono h1)
theorem Sim.alloc {t:TypeId} (hz:zeroOk C.tb t=true):Sim C r (VR C) (Instr.alloc t true (.tuple #[])) (Instr.alloc t true (.tuple #[])):=by
 unfold Instr.alloc;refine Sim.bind (Sim.zero hz) ?_;rintro r1 z z' h1 ⟨rfl,hf⟩;dsimp only;refine Sim.bind (Sim.newVar t (vr_flat hf)) ?_;intro r2 a b h2 ab;exact Sim.pure (.ptr ab)
theorem Sim.box (t:TypeId) {x y:Value} (h:VR C r x y):Sim C r (VR C) (Instr.box t x) (Instr.box t y):=by
 unfold Instr.box;refine Sim.bind (Sim.newVar t h) ?_;intro r2 a b h2 ab;exact Sim.pure (.ptr ab)
theorem Sim.indexAt (t:TypeId) {x y u z:Value} (h:VR C r x y) (k:VR C r u z):Sim C r (VR C) (Instr.indexAt t x u) (Instr.indexAt t y z):=by
 unfold Instr.indexAt;refine Sim.bind (Sim.asIntOf k) ?_;rintro r1 ⟨ki,i⟩ _ h1 rfl;dsimp only;refine Sim.bind (Sim.under t) ?_;rintro r2 d _ h2 ⟨rfl,_⟩;have hx:=(h.mono h1).mono h2;cases d with
 | array len elem =>
  refine Sim.bind (Sim.sureAddr hx) ?_;intro r3 a b h3 ab;show Sim C r3 (VR C) (underlying t >>= _) (underlying t >>= _)
  refine Sim.bind (Sim.under t) ?_;rintro r4 d' _ h4 ⟨rfl,_⟩;dsimp only;split
  ·refine Sim.bind (Sim.sizeOf elem) ?_
   rintro r5 s _ h5 ⟨rfl,_⟩;exact Sim.pure (VR.ptr (((ab.mono h4).mono h5).add _))
  ·refine Sim.never ?_
   exact Never.ite Never.halt (never_bounds _ _ _ _ _)
 | slice elem =>
  cases hx with
  | sl0 n c =>
   refine Sim.never ?_;show Never C.Px (underlying t >>= fun _=>boundsPanic ki i 0 .index)
   exact Never.bind_right fun _=>never_bounds _ _ _ _ _
  | slE a b =>
   refine Sim.never ?_;show Never C.Px (underlying t >>= _)
   exact Never.bind_right fun _=>by
    dsimp only;split
    ·rename_i hlt; omega
    ·exact Never.ite Never.halt (never_bounds _ _ _ _ _)
  | sl n c ab =>
   show Sim C r2 (VR C) (underlying t >>= _) (underlying t >>= _)
   refine Sim.bind (Sim.under t) ?_;rintro r4 d' _ h4 ⟨rfl,_⟩;dsimp only;split
   ·refine Sim.bind (Sim.sizeOf elem) ?_
    rintro r5 s _ h5 ⟨rfl,_⟩;exact Sim.pure (VR.ptr (((ab.mono h4).mono h5).add _))
   ·refine Sim.never ?_
    exact Never.ite Never.halt (never_bounds _ _ _ _ _)
  | _=>exact Sim.never (Never.bind_left Never.halt)
 | _=>exact Sim.never (Never.bind_left Never.halt)
end
end Rn
namespace Rn
section
variable {C : Ctx} {r r' : Ren}
theorem Sim.extract {x y:Value} (h:VR C r x y) (i:Nat):Sim C r (VR C) (Instr.extract x i) (Instr.extract y i):=by
 cases h with
 | @tuple xs ys e k =>
  unfold Instr.extract;dsimp only;cases hx:xs[i]? with
  | none=>exact Sim.halt
  | some v =>
   obtain ⟨w,hy,hr⟩:=(VAll.mk e k:VAll C r xs ys).get? hx;simp only [hy];exact Sim.pure hr
 | _=>exact Sim.halt
theorem Sim.sliceBound {x y:Value} (h:VR C r x y) (n:Nat) (c:BoundsCode):Sim C r (fun _ a b=>a=b) (Instr.sliceBound x n c) (Instr.sliceBound y n c):=by
 unfold Instr.sliceBound;refine Sim.bind (Sim.asIntOf h) ?_;rintro r1 ⟨k,i⟩ _ h1 rfl;dsimp only;split
 ·exact Sim.pure rfl
 ·exact Sim.never (never_bounds _ _ _ _ _)
theorem Sim.sliceBoundLe {x y:Value} (h:VR C r x y) (n:Nat) (c:BoundsCode):Sim C r (fun _ a b=>a=b∧a≤n) (Instr.sliceBound x n c) (Instr.sliceBound y n c):=by
 unfold Instr.sliceBound;refine Sim.bind (Sim.asIntOf h) ?_;rintro r1 ⟨k,i⟩ _ h1 rfl;dsimp only;split
 ·rename_i hi
  exact Sim.pure ⟨rfl,by omega⟩
 ·exact Sim.never (never_bounds _ _ _ _ _)
def VO (C:Ctx) (r:Ren):Option Value→Option Value→Prop
 | none,none=>True
 | some x,some y=>VR C r x y
 | _,_=>False
theorem VO.mono (h:Sub r r') {x y:Option Value} (k:VO C r x y):VO C r' x y:=by
 match x,y,k with
 | none,none,_=>trivial
 | some _,some _,k=>exact VR.mono h k
theorem VO.cases {x y:Option Value} (k:VO C r x y):(x=none∧y=none) ∨ ∃ a b,x=some a∧y=some b∧VR C r a b:=by
 match x,y,k with
 | none,none,_=>exact .inl ⟨rfl,rfl⟩
 | some a,some b,k=>exact .inr ⟨a,b,rfl,rfl,k⟩
theorem Sim.sliceBounds (b : Bool) (len cap : Nat) {l l' h h' m m' : Option Value} (hl : VO C r l l') (hh : VO C r h h') (hm : VO C r m m') :
    Sim C r (fun _ a b => a = b) (Instr.sliceBounds b len cap l h m) (Instr.sliceBounds b len cap l' h' m') := by
  unfold Instr.sliceBounds;rcases hl.cases with ⟨rfl, rfl⟩ | ⟨x1, y1, rfl, rfl, k1⟩ <;> rcases hh.cases with ⟨rfl, rfl⟩ | ⟨x2, y2, rfl, rfl, k2⟩ <;> rcases hm.cases with ⟨rfl, rfl⟩ | ⟨x3, y3, rfl, rfl, k3⟩ <;> dsimp only
  all_goals
    refine Sim.bind (Q := fun _ a b => a = b) (by first | exact Sim.pure rfl | exact Sim.sliceBound (by assumption) _ _) ?_;rintro r1 mm _ s1 rfl;try dsimp only
    first
    | exact Sim.never (Never.bind_left Never.halt)
    | (refine Sim.bind (Q := fun _ a b => a = b) (by first | exact Sim.pure rfl | exact Sim.sliceBound (VR.mono s1 (by assumption)) _ _) ?_
       rintro r2 h2 _ s2 rfl;try dsimp only
       refine Sim.bind (Q := fun _ a b => a = b) (by first | exact Sim.pure rfl | exact Sim.sliceBound (VR.mono s2 (VR.mono s1 (by assumption))) _ _) ?_;rintro r3 l2 _ s3 rfl;exact Sim.pure rfl)
theorem Sim.sliceBounds0 {l l' h h' m m' : Option Value} (hl : VO C r l l') (hh : VO C r h h') (hm : VO C r m m') :
    Sim C r (fun _ a b => a = (0, 0, 0) ∧ b = (0, 0, 0)) (Instr.sliceBounds true 0 0 l h m) (Instr.sliceBounds true 0 0 l' h' m') := by
  unfold Instr.sliceBounds;rcases hl.cases with ⟨rfl, rfl⟩ | ⟨x1, y1, rfl, rfl, k1⟩ <;> rcases hh.cases with ⟨rfl, rfl⟩ | ⟨x2, y2, rfl, rfl, k2⟩ <;> rcases hm.cases with ⟨rfl, rfl⟩ | ⟨x3, y3, rfl, rfl, k3⟩ <;> dsimp only
  all_goals
    refine Sim.bind (Q := fun _ a b => a = b ∧ a ≤ 0) (by first | exact Sim.pure ⟨rfl, Nat.le_refl _⟩ | exact Sim.sliceBoundLe (by assumption) _ _) ?_;rintro r1 mm _ s1 ⟨rfl, hm0⟩;have em : mm = 0 := by omega
    subst em;try dsimp only
    first
    | exact Sim.never (Never.bind_left Never.halt)
    | (refine Sim.bind (Q := fun _ a b => a = b ∧ a ≤ 0) (by first | exact Sim.pure ⟨rfl, Nat.le_refl _⟩ | exact Sim.sliceBoundLe (VR.mono s1 (by assumption)) _ _) ?_
       rintro r2 h2 _ s2 ⟨rfl, hh0⟩;have eh : h2 = 0 := by omega
       subst eh;try dsimp only
       refine Sim.bind (Q := fun _ a b => a = b ∧ a ≤ 0) (by first | exact Sim.pure ⟨rfl, Nat.le_refl _⟩ | exact Sim.sliceBoundLe (VR.mono s2 (VR.mono s1 (by assumption))) _ _) ?_;rintro r3 l2 _ s3 ⟨rfl, hl0⟩;have el : l2 = 0 := by omega
       subst el;exact Sim.pure ⟨rfl, rfl⟩)
theorem Sim.sliceAt (t:TypeId) {x y:Value} (hx:VR C r x y) {l l' h h' m m':Option Value} (hl:VO C r l l') (hh:VO C r h h') (hm:VO C r m m') :
  Sim C r (VR C) (Instr.sliceAt t x l h m) (Instr.sliceAt t y l' h' m'):=by
 unfold Instr.sliceAt;have gen:∀ (r:Ren),VR C r x y→VO C r l l'→VO C r h h'→VO C r m m'→Sim C r (VR C) (Instr.slice t x l h m) (Instr.slice t y l' h' m'):=by
  intro r hx hl hh hm;unfold Instr.slice;refine Sim.bind (Sim.under t) ?_;rintro r1 d _ h1 ⟨rfl,_⟩;have hx1:=hx.mono h1;cases d with
  | string=>cases hx1 <;> exact Sim.halt
  | slice elem =>
   cases hx1 with
   | sl0 n c =>
    dsimp only;refine Sim.bind (Sim.sliceBounds true n c (hl.mono h1) (hh.mono h1) (hm.mono h1)) ?_;rintro r2 ⟨a,b,c⟩ _ h2 rfl;refine Sim.bind (Sim.sizeOf elem) ?_;rintro r3 s _ h3 ⟨rfl,_⟩;refine Sim.pure ?_;simp only [Option.map_none,ite_self];exact .sl0 _ _
   | slE x y =>
    dsimp only;refine Sim.bind (Sim.sliceBounds0 (hl.mono h1) (hh.mono h1) (hm.mono h1)) ?_;rintro r2 _ _ h2 ⟨rfl,rfl⟩;refine Sim.bind (Sim.sizeOf elem) ?_;rintro r3 s _ h3 ⟨rfl,_⟩;exact Sim.pure (.slE x y)
   | sl n c ab =>
    dsimp only;refine Sim.bind (Sim.sliceBounds true n c (hl.mono h1) (hh.mono h1) (hm.mono h1)) ?_;rintro r2 ⟨a,b,c⟩ _ h2 rfl;refine Sim.bind (Sim.sizeOf elem) ?_;rintro r3 s _ h3 ⟨rfl,_⟩;refine Sim.pure ?_;dsimp only;split
    ·exact .sl _ _ ((ab.mono h2).mono h3)
    ·exact .sl _ _ (((ab.mono h2).mono h3).add _)
   | _=>exact Sim.halt
  | pointer arr =>
   have e:Sim C r1 (AR C) (asAddr x) (asAddr y):=by
    cases hx1 <;> first | exact Sim.pure ‹_› | exact Sim.never (never_rtp _ _) | exact Sim.halt
   cases hx1;all_goals
    refine Sim.bind e ?_;intro r2 a b h2 ab;refine Sim.bind (Sim.under arr) ?_;rintro r3 d _ h3 ⟨rfl,_⟩;cases d with
    | array n elem =>
     refine Sim.bind (Sim.sliceBounds false n n (((hl.mono h1).mono h2).mono h3) (((hh.mono h1).mono h2).mono h3) (((hm.mono h1).mono h2).mono h3)) ?_;rintro r4 ⟨a',b',c'⟩ _ h4 rfl;refine Sim.bind (Sim.sizeOf elem) ?_;rintro r5 s _ h5 ⟨rfl,_⟩;refine Sim.pure ?_;split
     ·exact .sl _ _ (((ab.mono h3).mono h4).mono h5)
     ·exact .sl _ _ ((((ab.mono h3).mono h4).mono h5).add _)
    | _=>exact Sim.halt
  | _=>cases hx1 <;> exact Sim.halt
 refine Sim.bind (Sim.under t) ?_;rintro r1 d _ h1 ⟨rfl,_⟩;cases d with
 | array n elem =>
  refine Sim.bind (Sim.sureAddr (hx.mono h1)) ?_;intro r2 a b h2 ab;refine Sim.bind (Sim.sliceBounds false n n ((hl.mono h1).mono h2) ((hh.mono h1).mono h2) ((hm.mono h1).mono h2)) ?_;rintro r4 ⟨a',b',c'⟩ _ h4 rfl;refine Sim.bind (Sim.sizeOf elem) ?_;rintro r5 s _ h5 ⟨rfl,_⟩;refine Sim.pure ?_;split
  ·exact .sl _ _ ((ab.mono h4).mono h5)
  ·exact .sl _ _ (((ab.mono h4).mono h5).add _)
 | _=>exact gen r1 (hx.mono h1) (hl.mono h1) (hh.mono h1) (hm.mono h1)
end
end Rn
namespace Rn
section
variable {C : Ctx} {r r' : Ren}
theorem flat_default:flatV (default:Value)=true:=rfl
theorem VAll.get! {xs ys:Array Value} (h:VAll C r xs ys) (i:Nat):VR C r xs[i]! ys[i]! := by
 rw [Array.getElem!_eq_getD,Array.getElem!_eq_getD];exact h.getD i (vr_flat flat_default)
theorem VAll.rangeMap {xs ys:Array Value} (h:VAll C r xs ys) (n:Nat):VAll C r ((Array.range n).map (xs[· % xs.size]!)) ((Array.range n).map (ys[· % ys.size]!)) :=
 VAll.ofFn _ _ _ fun i x _=>by
  show VR C r xs[x % xs.size]! ys[x % ys.size]!
  rw [h.size]; exact h.get! _
theorem Sim.zeroIf {t:TypeId} (hz:zeroOk C.tb t=true) (c:Prop) [Decidable c] {γ δ:Type} {Q:Ren→γ→δ→Prop} {k:Array Value→Sem γ} {l:Array Value→Sem δ}
  (hk:∀ r' xs ys,Sub r r'→VAll C r' xs ys→Sim C r' Q (k xs) (l ys)) :
  Sim C r Q (if c then (Pure.pure #[] >>= k) else (zeroValue t >>= fun z=>Pure.pure z.cells >>= k)) (if c then (Pure.pure #[] >>= l) else (zeroValue t >>= fun z=>Pure.pure z.cells >>= l)):=by
 split
 ·exact Sim.bind (Sim.pure VAll.nil) fun r' xs ys hs h=>hk r' xs ys hs h
 ·refine Sim.bind (Sim.zero hz) ?_
  rintro r1 z _ h1 ⟨rfl,hf⟩;exact Sim.bind (Sim.pure (VAll.flat (C:=C) (r:=r1) (flat_cells hf))) fun r' xs ys hs h=>hk r' xs ys (h1.trans hs) h
def sliceOk (tb:Tables) (t:TypeId):Bool:=match (⟨tb,#[]⟩:Program).underlying t with
 | some (.slice e)=>zeroOk tb e
 | _=>true
theorem Sim.makeSlice {t:TypeId} (ok:sliceOk C.tb t=true) {x y u z:Value} (h:VR C r x y) (k:VR C r u z):Sim C r (VR C) (Instr.makeSlice t x u) (Instr.makeSlice t y z):=by
 unfold Instr.makeSlice;refine Sim.bind (Sim.under t) ?_;rintro r1 d _ h1 ⟨rfl,hd⟩;cases d with
 | slice elem =>
  have hz:zeroOk C.tb elem=true:=by
   have hd':(⟨C.tb,#[]⟩:Program).underlying t=some (.slice elem):=hd;simpa [sliceOk,hd'] using ok
  refine Sim.bind (Sim.asInt (h.mono h1)) ?_;rintro r2 n _ h2 rfl;refine Sim.bind (Sim.asInt ((k.mono h1).mono h2)) ?_;rintro r3 c _ h3 rfl;refine Sim.bind (Sim.info elem) ?_;rintro r4 i _ h4 ⟨rfl,_⟩;dsimp only;split
  ·refine Sim.never ?_
   split
   ·exact Never.bind_left (never_rtp _ _)
   ·split
    ·exact Never.bind_left (never_rtp _ _)
    ·exact Never.bind_right fun _=>Never.bind_left (never_rtp _ _)
  ·refine Sim.bind (Sim.askRoom _) ?_
   intro r5 _ _ h5 _;refine Sim.bind (Sim.sizeOf elem) ?_;rintro r6 s _ h6 ⟨rfl,_⟩;refine Sim.zeroIf hz _ ?_;intro r7 xs ys h7 hv;refine Sim.bind (Sim.newRow elem (hv.rangeMap _)) ?_;intro r8 a b h8 ab;exact Sim.pure (VR.sl _ _ ab)
 | _=>exact Sim.halt
inductive PL (C:Ctx) (r:Ren):List (Nat × Value)→List (Nat × Value)→Prop
 | nil:PL C r [] []
 | cons {i x y xs ys}:VR C r x y→PL C r xs ys→PL C r ((i,x) :: xs) ((i,y) :: ys)
theorem PL.mono (h:Sub r r') {xs ys:List (Nat × Value)} (x:PL C r xs ys):PL C r' xs ys:=by
 induction x with
 | nil=>exact .nil
 | cons a _ ih=>exact .cons (a.mono h) ih
theorem fold_set {xs ys:List (Value × Nat)} (off:Nat):∀ {cs ds:Array Value},VAll C r cs ds→xs.length=ys.length→(∀ (i:Nat) x y,xs[i]?=some x→ys[i]?=some y→VR C r x.1 y.1∧x.2=y.2) →
  VAll C r (xs.foldl (fun cs x=>cs.setIfInBounds (off+x.2) x.1) cs) (ys.foldl (fun cs x=>cs.setIfInBounds (off+x.2) x.1) ds):=by
 induction xs generalizing ys with
 | nil=>intro cs ds h hl _; cases ys with
  | nil=>exact h
  | cons y ys=>simp at hl
 | cons x xs ih =>
  intro cs ds h hl hg;cases ys with
  | nil=>simp at hl
  | cons y ys =>
   have h0:=hg 0 x y rfl rfl;simp only [List.foldl_cons];rw [h0.2];exact ih (h.set _ h0.1) (by simpa using hl) fun i a b ha hb=>hg (i+1) a b (by simpa using ha) (by simpa using hb)
theorem fill_rel (place:Nat→Option (Nat × Nat)):∀ {ps qs:List (Nat × Value)} {cs ds:Array Value},PL C r ps qs→VAll C r cs ds →
  (∃ xs ys,Instr.fill place cs ps=some xs∧Instr.fill place ds qs=some ys∧VAll C r xs ys) ∨ (Instr.fill place cs ps=none∧Instr.fill place ds qs=none)
 | [],[],cs,ds,_,h => .inl ⟨cs,ds,rfl,rfl,h⟩
 | (i,x) :: ps,(_,y) :: qs,cs,ds,.cons hx hp,h=>by
  unfold Instr.fill;cases place i with
  | none=>exact .inr ⟨rfl,rfl⟩
  | some p =>
   obtain ⟨off,size⟩:=p;have hc:=hx.cells;dsimp only;rw [hc.size,h.size];split
   ·exact .inr ⟨rfl,rfl⟩
   ·have hv:VAll C r (x.cells.zipIdx.foldl (fun cs (c,j)=>cs.setIfInBounds (off+j) c) cs) (y.cells.zipIdx.foldl (fun cs (c,j)=>cs.setIfInBounds (off+j) c) ds):=by
     rw [← Array.foldl_toList,← Array.foldl_toList];refine fold_set off h (by simp [hc.size]) fun i a b ha hb => ?_
     simp only [Array.toList_zipIdx,List.getElem?_zipIdx,Option.map_eq_some_iff] at ha hb;obtain ⟨u,hu,rfl⟩:=ha;obtain ⟨z,hz,rfl⟩:=hb;exact ⟨hc.get i u z (by simpa using hu) (by simpa using hz),rfl⟩
    exact fill_rel place hp hv
theorem Sim.mapM_list {α β:Type} {f g:α→Sem β}:∀ {l:List α} {r:Ren},(∀ r' a,Sub r r'→Sim C r' (fun _ x y=>x=y) (f a) (g a))→Sim C r (fun _ x y=>x=y) (l.mapM f) (l.mapM g)
 | [],r,_=>Sim.pure rfl
 | a :: l,r,h=>by
  rw [List.mapM_cons,List.mapM_cons];refine Sim.bind (h r a (Sub.refl _)) ?_;rintro r1 x _ h1 rfl;refine Sim.bind (Sim.mapM_list (l:=l) fun r' a hs=>h r' a (h1.trans hs)) ?_;rintro r2 y _ h2 rfl;exact Sim.pure rfl
theorem Sim.build {t:TypeId} (hz:zeroOk C.tb t=true) {ps qs:Array (Nat × Value)} (hp:PL C r ps.toList qs.toList):Sim C r (VR C) (Instr.build t ps) (Instr.build t qs):=by
 unfold Instr.build;refine Sim.bind (Sim.zero hz) ?_;rintro r1 z _ h1 ⟨rfl,hf⟩;refine Sim.bind (Sim.under t) ?_;rintro r2 d _ h2 ⟨rfl,_⟩;have hc:VAll C r2 z.cells z.cells:=VAll.flat (flat_cells hf);cases d with
 | struct fields =>
  dsimp only;rw [Array.mapM_eq_mapM_toList,bind_map_left,bind_map_left];refine Sim.bind (Sim.mapM_list (f:=fun f:Field=>_) (g:=fun f:Field=>_) fun r' f hs => ?_) ?_
  ·refine Sim.bind (Sim.sizeOf f.type) ?_
   rintro r3 s _ h3 ⟨rfl,_⟩;exact Sim.pure rfl
  rintro r3 places _ h3 rfl;rcases fill_rel (fun i=>places.toArray[i]?) (((hp.mono h1).mono h2).mono h3) (hc.mono h3) with ⟨xs,ys,e1,e2,hv⟩ | ⟨e1,e2⟩
  ·simp only [e1,e2]
   exact Sim.pure (VR.aggA hv)
  ·simp only [e1,e2]
   exact Sim.halt
 | array n elem =>
  dsimp only;refine Sim.bind (Sim.sizeOf elem) ?_;rintro r3 s _ h3 ⟨rfl,_⟩;rcases fill_rel (fun i=>some (i*s,s)) (((hp.mono h1).mono h2).mono h3) (hc.mono h3) with ⟨xs,ys,e1,e2,hv⟩ | ⟨e1,e2⟩
  ·simp only [e1,e2]
   exact Sim.pure (VR.aggA hv)
  ·simp only [e1,e2]
   exact Sim.halt
 | _=>exact Sim.halt
theorem Sim.buildSlice {t:TypeId} (ok:sliceOk C.tb t=true) (len:Nat) {ps qs:Array (Nat × Value)} (hp:PL C r ps.toList qs.toList):Sim C r (VR C) (Instr.buildSlice t len ps) (Instr.buildSlice t len qs):=by
 unfold Instr.buildSlice;refine Sim.bind (Sim.under t) ?_;rintro r1 d _ h1 ⟨rfl,hd⟩;cases d with
 | slice elem =>
  have hz:zeroOk C.tb elem=true:=by
   have hd':(⟨C.tb,#[]⟩:Program).underlying t=some (.slice elem):=hd;simpa [sliceOk,hd'] using ok
  refine Sim.bind (Sim.sizeOf elem) ?_;rintro r2 s _ h2 ⟨rfl,_⟩;dsimp only;split
  ·exact Sim.never (Never.bind_left Never.halt)
  ·refine Sim.zeroIf hz _ ?_
   intro r3 xs ys h3 hv;rcases fill_rel (fun i=>some (i*s,s)) (((hp.mono h1).mono h2).mono h3) (hv.rangeMap (len*s)) with ⟨us,zs,e1,e2,hv⟩ | ⟨e1,e2⟩
   ·simp only [e1,e2]
    refine Sim.bind (Sim.newRow elem hv) ?_;intro r4 a b h4 ab;exact Sim.pure (VR.sl _ _ ab)
   ·simp only [e1,e2]
    exact Sim.halt
 | _=>exact Sim.halt
theorem Sim.intArith (op:BinOp) (k:IntKind) (x y:Int):Sim C r (VR C) (Op.intArith op k x y) (Op.intArith op k x y):=by
 unfold Op.intArith;split <;> first | exact Sim.pure (.int _ _) | exact Sim.halt
theorem Sim.intDiv (op:BinOp) (k:IntKind) (x y:Int):Sim C r (VR C) (Op.intDiv op k x y) (Op.intDiv op k x y):=by
 unfold Op.intDiv;split
 ·exact Sim.never (never_rtp _ _)
 ·split <;> first | exact Sim.pure (.int _ _) | exact Sim.halt
theorem Sim.intBits (op:BinOp) (k:IntKind) (x y:Int):Sim C r (VR C) (Op.intBits op k x y) (Op.intBits op k x y):=by
 unfold Op.intBits;dsimp only;split <;> first | exact Sim.pure (.int _ _) | exact Sim.halt
theorem Sim.intCmp (op:BinOp) (x y:Int):Sim C r (VR C) (Op.intCmp op x y) (Op.intCmp op x y):=by
 unfold Op.intCmp;split <;> first | exact Sim.pure (.bool _) | exact Sim.halt
theorem Sim.shift (op:BinOp) (k:IntKind) (x:Int) (k':IntKind) (y:Int):Sim C r (VR C) (Op.shift op k x k' y) (Op.shift op k x k' y):=by
 unfold Op.shift;split
 ·exact Sim.never (never_rtp _ _)
 ·dsimp only
  split <;> first | exact Sim.pure (.int _ _) | exact Sim.halt
theorem Sim.unary (op:UnOp) {x y:Value} (h:VR C r x y):Sim C r (VR C) (Op.unary op x) (Op.unary op y):=by
 cases h <;> cases op <;> first | exact Sim.halt | exact Sim.intArith .sub _ 0 _ | exact Sim.intBits .xor _ _ _ | exact Sim.pure (.bool _)
def toIntOk (tb:Tables) (t:TypeId):Bool:=match (⟨tb,#[]⟩:Program).underlying t with
 | some (.int _)=>true
 | _=>false
theorem Sim.convert {s t:TypeId} (os:toIntOk C.tb s=true) (ok:toIntOk C.tb t=true) {x y:Value} (h:VR C r x y):Sim C r (VR C) (Go.convert s t x) (Go.convert s t y):=by
 unfold Go.convert;refine Sim.bind (Sim.under s) ?_;rintro r1 d _ h1 ⟨rfl,hd⟩;refine Sim.bind (Sim.under t) ?_;rintro r2 d' _ h2 ⟨rfl,hd'⟩;have e1:∃ k,d = .int k:=by
  have hd'':(⟨C.tb,#[]⟩:Program).underlying s=some d:=hd;simp only [toIntOk,hd''] at os;split at os
  ·rename_i e; cases e; exact ⟨_,rfl⟩
  ·cases os
 have e2:∃ k,d' = .int k:=by
  have hd'':(⟨C.tb,#[]⟩:Program).underlying t=some d':=hd';simp only [toIntOk,hd''] at ok;split at ok
  ·rename_i e; cases e; exact ⟨_,rfl⟩
  ·cases ok
 obtain ⟨k,rfl⟩:=e1;obtain ⟨k',rfl⟩:=e2;cases h <;> first | exact Sim.halt | exact Sim.pure (.int _ _)
theorem Sim.len (ts:Array TypeId) (t:TypeId) {xs ys:Array Value} (h:VAll C r xs ys):Sim C r (VR C) (Builtin.len_ ts t xs) (Builtin.len_ ts t ys):=by
 unfold Builtin.len_;cases ts[0]? with
 | none=>exact Sim.halt
 | some t0 =>
  cases hx:xs[0]? with
  | none=>exact Sim.halt
  | some x =>
   obtain ⟨y,hy,hr⟩:=h.get? hx;simp only [hy];refine Sim.bind (Sim.under t0) ?_;rintro r1 d _ h1 ⟨rfl,_⟩;replace hr:=hr.mono h1
   cases d with
   | array n e=>cases hr <;> exact Sim.pure (.int _ _)
   | pointer e =>
    cases hr;all_goals
     refine Sim.bind (Sim.under e) ?_;rintro r2 d _ h2 ⟨rfl,_⟩;cases d <;> first | exact Sim.halt | exact Sim.pure (.int _ _)
   | slice e=>cases hr <;> first | exact Sim.halt | exact Sim.pure (.int _ _)
   | map k e =>
    cases hr with
    | map0=>exact Sim.pure (.int _ _)
    | map ab =>
     refine Sim.bind (Sim.getObj ab) ?_;rintro r2 o o' h2 ⟨ho,_⟩;cases ho with
     | map m=>dsimp only; rw [m.size]; exact Sim.pure (.int _ _)
     | _=>exact Sim.halt
    | _=>exact Sim.halt
   | chan k e =>
    cases hr with
    | ch0=>exact Sim.pure (.int _ _)
    | ch ab _ =>
     refine Sim.bind (Sim.getObj ab) ?_;rintro r2 o o' h2 ⟨ho,_⟩;cases ho with
     | chan cap cl s q tm hc m=>dsimp only; rw [m.size]; exact Sim.pure (.int _ _)
     | _=>exact Sim.halt
    | _=>exact Sim.halt
   | _=>cases hr <;> exact Sim.halt
theorem Sim.max2 {x y x' y':Value} (h:VR C r x x') (k:VR C r y y'):Sim C r (VR C) (Builtin.max2 x y) (Builtin.max2 x' y'):=by
 cases h <;> cases k <;> first | exact Sim.halt | exact Sim.pure (.int _ _)
theorem Sim.maxL:∀ {xs ys:List Value} {x y:Value} {r:Ren},VR C r x y→VL C r xs ys→Sim C r (VR C) (xs.foldlM Builtin.max2 x) (ys.foldlM Builtin.max2 y)
 | [],[],x,y,r,h,_=>Sim.pure h
 | a :: xs,b :: ys,x,y,r,h,.cons k ks=>by
  simp only [List.foldlM_cons];refine Sim.bind (Sim.max2 h k) ?_;intro r1 u v h1 uv;exact Sim.maxL uv (ks.mono h1)
theorem Sim.max (ts:Array TypeId) (t:TypeId) {xs ys:Array Value} (h:VAll C r xs ys):Sim C r (VR C) (Builtin.max_ ts t xs) (Builtin.max_ ts t ys):=by
 unfold Builtin.max_;have:=h.toList;revert this
 generalize xs.toList=l1;generalize ys.toList=l2;intro hl;cases hl with
 | nil=>exact Sim.halt
 | cons a b=>exact Sim.maxL a b
end
end Rn
namespace Rn
section
variable {C : Ctx} {r r' : Ren}
theorem Sim.lenOf {x y:Value} (h:VR C r x y):Sim C r (fun _ a b=>a=b∧∀ A k c,x = .slice A k c→a=k) (Builtin.lenOf x) (Builtin.lenOf y):=by
 cases h <;> first | exact Sim.halt | exact Sim.pure ⟨rfl,fun A k c e=>by cases e; rfl⟩
theorem Sim.firstCells (size n:Nat) {x y:Value} (h:VR C r x y) (hn:∀ A k c,x = .slice A k c→n=k):Sim C r (fun r' u z=>VAll C r' u z∧(n=0→u = #[]∧z = #[])) (Builtin.firstCells size n x) (Builtin.firstCells size n y):=by
 cases h with
 | sl0 a b=>exact Sim.pure ⟨VAll.nil,fun _=>⟨rfl,rfl⟩⟩
 | slE a b =>
  have e:=hn _ _ _ rfl;subst e;have e0:0*size=0:=Nat.zero_mul _;unfold Builtin.firstCells;rw [e0];exact Sim.pure ⟨VAll.nil,fun _=>⟨rfl,rfl⟩⟩
 | sl a b ab =>
  by_cases e:n=0
  ·subst e
   have e0:0*size=0:=Nat.zero_mul _;unfold Builtin.firstCells;rw [e0];exact Sim.pure ⟨VAll.nil,fun _=>⟨rfl,rfl⟩⟩
  ·exact (Sim.loadCells ab _).mono (fun _ _ _ _ h=>⟨h,fun e1=>absurd e1 e⟩)
 | _=>exact Sim.halt
def OS (C:Ctx) (r:Ren) (n c:Nat):Option Addr→Option Addr→Prop
 | none,none=>True
 | some a,some b=>AR C r a b ∨ (n=0∧c=0)
 | _,_=>False
theorem OS.mono (h:Sub r r') {n c:Nat} {x y:Option Addr} (k:OS C r n c x y):OS C r' n c x y:=by
 match x,y,k with
 | none,none,_=>trivial
 | some _,some _,k=>exact k.imp (AR.mono h) id
theorem zeroCells_rel {xs ys:Array Value} (h:VAll C r xs ys) (n:Nat):VAll C r (Builtin.zeroCells xs n) (Builtin.zeroCells ys n):=by
 unfold Builtin.zeroCells;rw [h.size];exact VAll.ofFn _ _ _ fun i x _=>h.get! _
theorem ni_holds {p:Program} (a:Addr) (n:Nat):NI p (Builtin.holdsCells a n):=by
 unfold Builtin.holdsCells;refine NI.bind NI.shape fun s => ?_
 cases s <;> exact NI.pure
theorem ni_mayShare {p:Program} (a b c:Nat) (base:Option Addr) (x:Value):NI p (Builtin.mayShare a b c base x):=by
 have rest:∀ (t:Bool),NI p (if (!t)=true then Pure.pure true else match x with | .slice (some bb) _ _=>(Builtin.holdsCells bb (c*a) >>= fun z=>Pure.pure (!z || base.any (·.block == bb.block))) | _=>Pure.pure false):=by
  intro t;refine NI.ite NI.pure ?_;split
  ·exact NI.bind (ni_holds _ _) fun _=>NI.pure
  ·exact NI.pure
 unfold Builtin.mayShare;cases base with
 | none=>exact NI.bind NI.pure fun t=>rest t
 | some ad=>exact NI.bind (ni_holds _ _) fun z=>NI.bind NI.frozen fun z'=>NI.bind NI.pure fun t=>rest t
def OA (C:Ctx) (r:Ren):Option Addr→Option Addr→Prop
 | none,none=>True
 | some a,some b=>AR C r a b
 | _,_=>False
theorem OA.mono (h:Sub r r') {x y:Option Addr} (k:OA C r x y):OA C r' x y:=by
 match x,y,k with
 | none,none,_=>trivial
 | some _,some _,k=>exact AR.mono h k
theorem VR.slice {base:Option Addr} {n c:Nat} {y:Value} (h:VR C r (.slice base n c) y):∃ base',y = .slice base' n c∧OS C r n c base base':=by
 cases h with
 | sl0 _ _=>exact ⟨none,rfl,trivial⟩
 | slE a b=>exact ⟨some b,rfl,.inr ⟨rfl,rfl⟩⟩
 | sl _ _ ab=>exact ⟨some _,rfl,.inl ab⟩
def isIntD:TypeDesc→Bool
 | .int _=>true
 | _=>false
def appendOk (tb:Tables) (ts:Array TypeId):Bool:=(match ts[0]? with | some t=>sliceOk tb t | none=>true) &&
 (match ts[1]? with | some t=>(match (⟨tb,#[]⟩:Program).underlying t with | some (.int _)=>false | _=>true) | none=>true)
theorem Sim.append {ts:Array TypeId} (ok:appendOk C.tb ts=true) (t:TypeId) {xs ys:Array Value} (h:VAll C r xs ys):Sim C r (VR C) (Builtin.append_ ts t xs) (Builtin.append_ ts t ys):=by
 simp only [appendOk,Bool.and_eq_true] at ok;obtain ⟨ok1,ok2⟩:=ok;unfold Builtin.append_;cases h0:ts[0]? with
 | none=>exact Sim.halt
 | some t0 =>
  rw [h0] at ok1;cases hx:xs[0]? with
  | none=>exact Sim.halt
  | some s =>
   obtain ⟨s',hy,hs⟩:=h.get? hx;cases hx1:xs[1]? with
   | none=>exact Sim.halt
   | some x =>
    obtain ⟨y,hy1,hxy⟩:=h.get? hx1;simp only [hy,hy1];refine Sim.bind (Sim.under t0) ?_;rintro r1 d _ h1 ⟨rfl,hd⟩;replace hs:=hs.mono h1
    replace hxy:=hxy.mono h1
    cases d with
    | slice elem =>
     have hz:zeroOk C.tb elem=true:=by
      have hd':(⟨C.tb,#[]⟩:Program).underlying t0=some (.slice elem):=hd;simpa [sliceOk,hd'] using ok1
     cases s with
     | slice base sLen sCap =>
      obtain ⟨base',rfl,hb⟩:=hs.slice;dsimp only;refine Sim.bind (Sim.sizeOf elem) ?_;rintro r2 size _ h2 ⟨rfl,_⟩;cases h1':ts[1]? with
      | none =>
       dsimp only;refine Sim.bind (Q:=fun _ a b=>a=false∧b=false) (Sim.pure ⟨rfl,rfl⟩) ?_;rintro r3 _ _ h3 ⟨rfl,rfl⟩;simp only [Bool.false_eq_true,if_false,Bool.not_false,if_true,false_or];have hx3:=(hxy.mono h2).mono h3;have hs3:=(hs.mono h2).mono h3;refine Sim.bind (Sim.lenOf hx3) ?_;rintro r4 n _ h4 ⟨rfl,hnk⟩;split
       ·rename_i hneed
        refine Sim.bind (Sim.firstCells size n (hx3.mono h4) hnk) ?_;intro r5 us zs h5 hv;match base,base',hb with
        | none,none,_=>exact Sim.pure (.sl0 _ _)
        | some a,some b,.inr ⟨e1,e2⟩ =>
         subst e1;subst e2;obtain rfl:n=0:=by omega
         obtain ⟨rfl,rfl⟩:=hv.2 rfl;exact Sim.pure (.slE a b)
        | some a,some b,.inl ab =>
         replace hv:=hv.1
         have ab:=((((ab.mono h2).mono h3).mono h4).mono h5);refine Sim.bind (Sim.storeCells 0 (ab.add _) hv.toList) ?_;intro r6 _ _ h6 _;exact Sim.pure (.sl _ _ (ab.mono h6))
       ·refine Sim.bind (Sim.info elem) ?_
        rintro r5 i _ h5 ⟨rfl,_⟩;split
        ·exact Sim.never (Never.bind_left (never_rtp _ _))
        ·refine Sim.bind (Sim.info elem) ?_
         rintro r6 i2 _ h6 ⟨rfl,_⟩;split
         ·refine Sim.never (Never.bind_left (Never.bind_right (fun _ => ?_) (ni_mayShare _ _ _ _ _)))
          exact Never.ite (Never.bind_right fun _=>Never.halt) Never.halt
         ·refine Sim.bind (Sim.choose _) ?_
          rintro r7 nc _ h7 rfl;refine Sim.bind (Sim.info elem) ?_;rintro r8 i3 _ h8 ⟨rfl,_⟩;refine Sim.bind (Sim.askRoom _) ?_;intro r9 _ _ h9 _;refine Sim.bind (Sim.firstCells size sLen ((((((hs3.mono h4).mono h5).mono h6).mono h7).mono h8).mono h9) (fun A k c e=>by cases e; rfl)) ?_
          rintro r10 us zs h10 ⟨hu,_⟩;refine Sim.bind (Sim.firstCells size n (((((((hx3.mono h4).mono h5).mono h6).mono h7).mono h8).mono h9).mono h10) hnk) ?_;rintro r11 us' zs' h11 ⟨hu',_⟩;refine Sim.bind (Sim.zero hz) ?_;rintro r12 z _ h12 ⟨rfl,hf⟩;have hzc:VAll C r12 z.cells z.cells:=VAll.flat (flat_cells hf);refine Sim.bind (Sim.newRow elem ((((hu.mono h11).mono h12).append (hu'.mono h12)).append (zeroCells_rel hzc _))) ?_;intro r13 a b h13 ab;exact Sim.pure (.sl _ _ ab)
      | some t1 =>
       dsimp only;refine Sim.bind (Sim.under t1) ?_;rintro r2' d1 _ h2' ⟨rfl,hd1⟩;have hni:isIntD d1=false:=by
        have hd':(⟨C.tb,#[]⟩:Program).underlying t1=some d1:=hd1;rw [h1'] at ok2;simp only [hd'] at ok2;cases d1 <;> first | rfl | cases ok2
       replace hb:=hb.mono h2
       replace hs:=hs.mono h2
       replace hxy:=hxy.mono h2
       clear h2;have h2:=h2';refine Sim.bind (Q:=fun _ a b=>a=false∧b=false) (Sim.pure ⟨hni,hni⟩) ?_;rintro r3 _ _ h3 ⟨rfl,rfl⟩;simp only [Bool.false_eq_true,if_false,Bool.not_false,if_true,false_or];have hx3:=(hxy.mono h2).mono h3;have hs3:=(hs.mono h2).mono h3;refine Sim.bind (Sim.lenOf hx3) ?_;rintro r4 n _ h4 ⟨rfl,hnk⟩;split
       ·rename_i hneed
        refine Sim.bind (Sim.firstCells size n (hx3.mono h4) hnk) ?_;intro r5 us zs h5 hv;match base,base',hb with
        | none,none,_=>exact Sim.pure (.sl0 _ _)
        | some a,some b,.inr ⟨e1,e2⟩ =>
         subst e1;subst e2;obtain rfl:n=0:=by omega
         obtain ⟨rfl,rfl⟩:=hv.2 rfl;exact Sim.pure (.slE a b)
        | some a,some b,.inl ab =>
         replace hv:=hv.1
         have ab:=((((ab.mono h2).mono h3).mono h4).mono h5);refine Sim.bind (Sim.storeCells 0 (ab.add _) hv.toList) ?_;intro r6 _ _ h6 _;exact Sim.pure (.sl _ _ (ab.mono h6))
       ·refine Sim.bind (Sim.info elem) ?_
        rintro r5 i _ h5 ⟨rfl,_⟩;split
        ·exact Sim.never (Never.bind_left (never_rtp _ _))
        ·refine Sim.bind (Sim.info elem) ?_
         rintro r6 i2 _ h6 ⟨rfl,_⟩;split
         ·refine Sim.never (Never.bind_left (Never.bind_right (fun _ => ?_) (ni_mayShare _ _ _ _ _)))
          exact Never.ite (Never.bind_right fun _=>Never.halt) Never.halt
         ·refine Sim.bind (Sim.choose _) ?_
          rintro r7 nc _ h7 rfl;refine Sim.bind (Sim.info elem) ?_;rintro r8 i3 _ h8 ⟨rfl,_⟩;refine Sim.bind (Sim.askRoom _) ?_;intro r9 _ _ h9 _;refine Sim.bind (Sim.firstCells size sLen ((((((hs3.mono h4).mono h5).mono h6).mono h7).mono h8).mono h9) (fun A k c e=>by cases e; rfl)) ?_
          rintro r10 us zs h10 ⟨hu,_⟩;refine Sim.bind (Sim.firstCells size n (((((((hx3.mono h4).mono h5).mono h6).mono h7).mono h8).mono h9).mono h10) hnk) ?_;rintro r11 us' zs' h11 ⟨hu',_⟩;refine Sim.bind (Sim.zero hz) ?_;rintro r12 z _ h12 ⟨rfl,hf⟩;have hzc:VAll C r12 z.cells z.cells:=VAll.flat (flat_cells hf);refine Sim.bind (Sim.newRow elem ((((hu.mono h11).mono h12).append (hu'.mono h12)).append (zeroCells_rel hzc _))) ?_;intro r13 a b h13 ab;exact Sim.pure (.sl _ _ ab)
     | _=>exact Sim.halt
    | _=>exact Sim.halt
end
end Rn
end Go.Proofs.YtjcgklifabcfkaaGreat
