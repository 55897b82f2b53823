/-
  Texts that the law stands on, part 2.
-/
import Derived.Test.YtjcgklifabcfkaaGreatM1
import Derived.Laws.Sem
set_option maxRecDepth 100000
set_option linter.unusedVariables false
set_option linter.unusedSimpArgs false
namespace Go.Proofs.YtjcgklifabcfkaaGreat
namespace Rn
def isInit:Halt→Bool
 | .unsupported (.initOrder _) | .fatal _ | .throw _ | .blocked | .waiting | .exit _ | .goexit=>true
 | _=>false
def Sim (C:Ctx) {α β:Type} (r:Ren) (Q:Ren→α→β→Prop) (x:Sem α) (y:Sem β):Prop :=
 ∀ (w v:World) (es fs:Array Event),WR C r w v→TE w v→(∀ f ∈ fs,EvOk C r f) →
  (∀ a w' es',x.runT C.Px w es=(.ok a w',es') →
  ∃ b v' fs' r',y.runT C.P v fs=(.ok b v',fs')∧Ext C r w v r' w' v'∧WR C r' w' v'∧TE w' v'∧(∀ f ∈ fs',EvOk C r' f)∧Q r' a b) ∧
  (∀ h w' es',x.runT C.Px w es=(.halt h w',es')→isInit h=false)∧Loc C.Px x w w.tape w.drawn es
theorem runT_bind {α β:Type} (p:Program) (f:α→Sem β):∀ (x:Sem α) (w:World) (es:Array Event),
  (x.bind f).runT p w es=match x.runT p w es with
   | (.ok a w',es')=>(f a).runT p w' es'
   | (.halt h w',es')=>(.halt h w',es')
 | .pure a,w,es=>rfl
 | .load m a k,w,es=>by
  simp only [Sem.bind,Sem.runT];split
  ·exact runT_bind p f _ _ _
  ·split
   ·exact runT_bind p f _ _ _
   ·rfl
 | .store m a v k,w,es=>by
  cases v <;> simp only [Sem.bind,Sem.runT] <;> first | rfl | (split <;> first | (split <;> first | exact runT_bind p f _ _ _ | rfl) | exact runT_bind p f _ _ _)
 | .new o k,w,es=>by simp only [Sem.bind,Sem.runT]; exact runT_bind p f _ _ _
 | .shape r k,w,es=>by simp only [Sem.bind,Sem.runT]; exact runT_bind p f _ _ _
 | .freeze a n k,w,es=>by simp only [Sem.bind,Sem.runT]; exact runT_bind p f _ _ _
 | .frozen a k,w,es=>by simp only [Sem.bind,Sem.runT]; exact runT_bind p f _ _ _
 | .getObj r k,w,es=>by
  simp only [Sem.bind,Sem.runT];split
  ·rfl
  ·exact runT_bind p f _ _ _
  ·rfl
 | .setObj r o k,w,es=>by
  simp only [Sem.bind,Sem.runT];split
  ·rfl
  ·exact runT_bind p f _ _ _
  ·rfl
 | .choose q k,w,es=>by
  simp only [Sem.bind,Sem.runT];split <;> exact runT_bind p f _ _ _
 | .sys c k,w,es=>by simp only [Sem.bind,Sem.runT]; exact runT_bind p f _ _ _
 | .program k,w,es=>by simp only [Sem.bind,Sem.runT]; exact runT_bind p f _ _ _
 | .mark m k,w,es=>by simp only [Sem.bind,Sem.runT]; exact runT_bind p f _ _ _
 | .halt h,w,es=>rfl
theorem Loc.bindL {P:Program} {α β:Type} {x:Sem α} {k:α→Sem β} {w:World} {es:Array Event} (hx:Loc P x w w.tape w.drawn es) (hk:∀ a (w1:World) ex,Loc P (k a) w1 w1.tape w1.drawn ex):Loc P (x >>= k) w w.tape w.drawn es:=by
 obtain ⟨n,R,ex,h1,h2⟩:=hx;have run:∀ t d,(x >>= k).runT P (w.tp t d) es=_:=fun t d=>runT_bind P k x (w.tp t d) es
 cases R with
 | halt hh wh=>exact ⟨n,.halt hh wh,ex,by rw [run,h1]; rfl,fun t' d' ha=>by rw [run,h2 t' d' ha]; rfl⟩
 | ok a w1 =>
  obtain ⟨n2,R2,es2,k1,k2⟩:=hk a (w1.tp w.tape (w.drawn+n)) ex;refine ⟨n+n2,R2,es2,?_,fun t' d' ha => ?_⟩
  ·rw [run,h1,← Nat.add_assoc]; exact k1
  ·rw [run,h2 t' d' ha.left,← Nat.add_assoc]; exact k2 t' (d'+n) ha.right
theorem Loc.bindN {P:Program} {α β:Type} {x:Sem α} {k:α→Sem β} {w:World} {es:Array Event} (hx:Loc P x w w.tape w.drawn es) (hn:∀ a w' es',x.runT P w es ≠ (.ok a w',es')):Loc P (x >>= k) w w.tape w.drawn es:=by
 obtain ⟨n,R,ex,h1,h2⟩:=hx;have run:∀ t d,(x >>= k).runT P (w.tp t d) es=_:=fun t d=>runT_bind P k x (w.tp t d) es
 cases R with
 | halt hh wh=>exact ⟨n,.halt hh wh,ex,by rw [run,h1]; rfl,fun t' d' ha=>by rw [run,h2 t' d' ha]; rfl⟩
 | ok a w1=>exact absurd h1 (hn _ _ _)
section
variable {C : Ctx} {α β γ δ : Type} {r : Ren}
theorem Sim.pure {Q:Ren→α→β→Prop} {a:α} {b:β} (h:Q r a b):Sim C r Q (Pure.pure a) (Pure.pure b):=by
 intro w v es fs hw ht hf;refine ⟨fun a' w' es' e => ?_,fun h w' es' e=>(by cases e),loc_of (by exact trivial) w es⟩;cases e;exact ⟨b,v,fs,r,rfl,Ext.refl C r w v,hw,ht,hf,h⟩
theorem Sim.bind {Q:Ren→α→β→Prop} {Q':Ren→γ→δ→Prop} {x:Sem α} {y:Sem β} {k:α→Sem γ} {l:β→Sem δ} (h:Sim C r Q x y)
  (hk:∀ r' a b,Sub r r'→Q r' a b→Sim C r' Q' (k a) (l b)):Sim C r Q' (x >>= k) (y >>= l):=by
 intro w v es fs hw ht hf;have key:∀ R es',(x.bind k).runT C.Px w es=(R,es') →
   (∃ h w',R = .halt h w'∧isInit h=false) ∨ (∃ a b w1 v1 ex fs1 r1,y.runT C.P v fs=(.ok b v1,fs1)∧Ext C r w v r1 w1 v1∧WR C r1 w1 v1∧TE w1 v1∧(∀ f ∈ fs1,EvOk C r1 f)∧Q r1 a b∧(k a).runT C.Px w1 ex=(R,es')):=by
  intro R es' e;rw [runT_bind] at e;generalize hx:x.runT C.Px w es=rx at e;obtain ⟨rx,ex⟩:=rx;cases rx with
  | halt hh wh=>cases e; exact .inl ⟨hh,wh,rfl,(h w v es fs hw ht hf).2.1 _ _ _ hx⟩
  | ok a w1 =>
   obtain ⟨b,v1,fs1,r1,e1,x1,hw1,ht1,hf1,q1⟩:=(h w v es fs hw ht hf).1 a w1 ex hx;exact .inr ⟨a,b,w1,v1,ex,fs1,r1,e1,x1,hw1,ht1,hf1,q1,e⟩
 refine ⟨fun a' w' es' e => ?_,fun hh w' es' e => ?_,?_⟩
 ·rcases key _ _ e with ⟨_,_,e',_⟩ | ⟨a,b,w1,v1,ex,fs1,r1,e1,x1,hw1,ht1,hf1,q1,e'⟩
  ·cases e'
  ·obtain ⟨b2,v2,fs2,r2,e2,x2,hw2,ht2,hf2,q2⟩:=(hk r1 a b x1.le q1 w1 v1 ex fs1 hw1 ht1 hf1).1 a' w' es' e'
   refine ⟨b2,v2,fs2,r2,?_,x1.trans x2,hw2,ht2,hf2,q2⟩;show (y.bind l).runT C.P v fs=_
   rw [runT_bind,e1]; exact e2
 ·rcases key _ _ e with ⟨_,_,e',hn⟩ | ⟨a,b,w1,v1,ex,fs1,r1,e1,x1,hw1,ht1,hf1,q1,e'⟩
  ·cases e'; exact hn
  ·exact (hk r1 a b x1.le q1 w1 v1 ex fs1 hw1 ht1 hf1).2.1 _ _ _ e'
 ·obtain ⟨n,R,ex,h1,h2⟩:=(h w v es fs hw ht hf).2.2
  have run:∀ t d,(x >>= k).runT C.Px (w.tp t d) es=_:=fun t d=>runT_bind C.Px k x (w.tp t d) es
  cases R with
  | halt hh wh=>exact ⟨n,.halt hh wh,ex,by rw [run,h1]; rfl,fun t' d' ha=>by rw [run,h2 t' d' ha]; rfl⟩
  | ok a w1 =>
   obtain ⟨b,v1,fs1,r1,e1,x1,hw1,ht1,hf1,q1⟩:=(h w v es fs hw ht hf).1 a _ ex h1;obtain ⟨n2,R2,es2,k1,k2⟩:=(hk r1 a b x1.le q1 _ v1 ex fs1 hw1 ht1 hf1).2.2;refine ⟨n+n2,R2,es2,?_,fun t' d' ha => ?_⟩
   ·rw [run,h1,← Nat.add_assoc]; exact k1
   ·rw [run,h2 t' d' ha.left,← Nat.add_assoc]; exact k2 t' (d'+n) ha.right
theorem Sim.mono {Q Q':Ren→α→β→Prop} {x:Sem α} {y:Sem β} (h:Sim C r Q x y) (hq:∀ r' a b,Sub r r'→Q r' a b→Q' r' a b):Sim C r Q' x y:=by
 intro w v es fs hw ht hf;refine ⟨fun a' w' es' e => ?_,(h w v es fs hw ht hf).2.1,(h w v es fs hw ht hf).2.2⟩;obtain ⟨b,v',fs',r',h1,h2,h3,h4,h5,h6⟩:=(h w v es fs hw ht hf).1 a' w' es' e;exact ⟨b,v',fs',r',h1,h2,h3,h4,h5,hq _ _ _ h2.le h6⟩
theorem Sim.halt {Q:Ren→α→β→Prop} {h:Halt} {y:Sem β} (hi:isInit h=false:=by rfl):Sim C r Q (Sem.halt h) y:=by
 intro w v es fs hw ht hf;exact ⟨fun a' w' es' e=>(by cases e),fun h' w' es' e=>(by cases e; exact hi),loc_of (by exact trivial) w es⟩
def NI (p:Program) (x:Sem α):Prop:=(∀ w es h w' es',x.runT p w es=(.halt h w',es')→isInit h=false)∧∀ w es,Loc p x w w.tape w.drawn es
def Never (p:Program) (x:Sem α):Prop:=(∀ w es a w' es',x.runT p w es ≠ (.ok a w',es'))∧NI p x
theorem Sim.never {Q:Ren→α→β→Prop} {x:Sem α} {y:Sem β} (h:Never C.Px x):Sim C r Q x y:=fun w v es fs _ _ _=>⟨fun a w' es' e=>absurd e (h.1 w es a w' es'),fun hh w' es' e=>h.2.1 w es hh w' es' e,h.2.2 w es⟩
theorem NI.pure {p:Program} {a:α}:NI p (Pure.pure a:Sem α):=⟨fun w es h w' es' e=>(by cases e),fun w es=>loc_of (by exact trivial) w es⟩
theorem NI.halt {p:Program} {h:Halt} (hi:isInit h=false:=by rfl):NI p (Sem.halt h:Sem α):=⟨fun w es h' w' es' e=>(by cases e; exact hi),fun w es=>loc_of (by exact trivial) w es⟩
theorem NI.bind {p:Program} {x:Sem α} {k:α→Sem γ} (h:NI p x) (hk:∀ a,NI p (k a)):NI p (x >>= k):=by
 refine ⟨?_,fun w es=>(h.2 w es).bindL fun a w1 ex=>(hk a).2 w1 ex⟩;intro w es hh w' es' e;change (x.bind k).runT p w es=_ at e
 rw [runT_bind] at e;split at e
 ·exact (hk _).1 _ _ _ _ _ e
 ·rename_i hx; cases e; exact h.1 _ _ _ _ _ hx
theorem NI.choose {p:Program} {q:Question}:NI p (Go.choose q):=by
 refine ⟨?_,fun w es=>loc_of (by exact fun _=>trivial) w es⟩;intro w es hh w' es' e;simp only [Go.choose,Sem.runT] at e;split at e <;> cases e
theorem NI.mark {p:Program} {m:Mark}:NI p (Go.mark m):=⟨fun w es h w' es' e=>(by cases e),fun w es=>loc_of (x:=Go.mark m) (by exact trivial) w es⟩
theorem NI.shape {p:Program} {b:Nat}:NI p (Go.shape b):=⟨fun w es h w' es' e=>(by cases e),fun w es=>loc_of (by exact fun _=>trivial) w es⟩
theorem NI.frozen {p:Program} {b:Addr}:NI p (Go.frozen b):=⟨fun w es h w' es' e=>(by cases e),fun w es=>loc_of (by exact fun _=>trivial) w es⟩
theorem NI.program {p:Program}:NI p Go.program:=⟨fun w es h w' es' e=>(by cases e),fun w es=>loc_of (by exact fun _=>trivial) w es⟩
theorem NI.new {p:Program} {o:Obj}:NI p (Go.newObj o):=⟨fun w es h w' es' e=>(by cases e),fun w es=>loc_of (by exact fun _=>trivial) w es⟩
theorem NI.ite {p:Program} {c:Prop} [Decidable c] {x y:Sem α} (h:NI p x) (k:NI p y):NI p (if c then x else y):=by
 split
 ·exact h
 ·exact k
theorem NI.info {p:Program} {t:TypeId}:NI p (typeInfo t):=by
 unfold typeInfo;refine NI.bind NI.program fun q => ?_
 cases q.info? t <;> first | exact NI.pure | exact NI.halt
theorem NI.under {p:Program} {t:TypeId}:NI p (underlying t):=by
 unfold underlying;refine NI.bind NI.program fun q => ?_
 cases q.underlying t <;> first | exact NI.pure | exact NI.halt
theorem Never.halt {p:Program} {h:Halt} (hi:isInit h=false:=by rfl):Never p (Sem.halt h:Sem α):=⟨fun w es a w' es' e=>(by cases e),NI.halt hi⟩
theorem Never.bind_right {p:Program} {x:Sem α} {k:α→Sem γ} (h:∀ a,Never p (k a)) (hx:NI p x:=by first | exact NI.choose | exact NI.program | exact NI.info | exact NI.under | exact NI.mark | exact NI.pure | exact NI.shape):Never p (x >>= k):=by
 refine ⟨fun w es a w' es' e => ?_,NI.bind hx fun a=>(h a).2⟩;change (x.bind k).runT p w es=_ at e
 rw [runT_bind] at e;split at e
 ·exact (h _).1 _ _ _ _ _ e
 ·cases e
theorem Never.bind_left {p:Program} {x:Sem α} {k:α→Sem γ} (h:Never p x):Never p (x >>= k):=by
 refine ⟨fun w es a w' es' e => ?_,fun w es hh w' es' e => ?_,fun w es=>(h.2.2 w es).bindN fun a w' es'=>h.1 w es a w' es'⟩
 ·change (x.bind k).runT p w es=_ at e
  rw [runT_bind] at e;split at e
  ·rename_i hx; exact h.1 _ _ _ _ _ hx
  ·cases e
 ·change (x.bind k).runT p w es=_ at e
  rw [runT_bind] at e;split at e
  ·rename_i hx; exact absurd hx (h.1 _ _ _ _ _)
  ·rename_i hx; cases e; exact h.2.1 _ _ _ _ _ hx
theorem Sim.load {a b:Addr} (m:Mode) (ab:AR C r a b):Sim C r (VR C) (Go.load a .plain) (Go.load b .plain):=by
 intro w v es fs hw ht hf;refine ⟨fun x w' es' e => ?_,fun hh w' es' e => ?_,loc_of (by exact fun _=>trivial) w es⟩;rotate_left
 ·simp only [Go.load,Sem.runT] at e
  cases hc:w.cell? a with
  | some z=>rw [hc] at e; cases e
  | none =>
   rw [hc] at e;simp only [World.farLoad,World.noCell] at e;rcases hw.kind ab.1 with ⟨_,_,_,ho⟩ | ⟨_,_,ho⟩ | ⟨_,_,ho⟩ <;> rw [ho] at e <;> simp at e <;> (obtain ⟨⟨rfl,_⟩,_⟩:=e; rfl)
 simp only [Go.load,Sem.runT] at e ⊢;cases hc:w.cell? a with
 | some z =>
  rw [hc] at e;cases e;obtain ⟨y,hy,hr⟩:=hw.cell ab hc;rw [hy];refine ⟨y,v,_,r,rfl,Ext.refl C r w v,hw,ht,?_,hr⟩;intro f hfm;rcases Array.mem_push.1 hfm with h | rfl
  ·exact hf f h
  ·exact .inl ⟨rfl,.inl ⟨b,rfl,a.block,ab.1,fun h=>by cases h⟩⟩
 | none =>
  rw [hc] at e;simp only [World.farLoad,World.noCell] at e;rcases hw.kind ab.1 with ⟨_,_,_,ho⟩ | ⟨_,_,ho⟩ | ⟨_,_,ho⟩ <;> rw [ho] at e <;> simp at e
theorem Sim.store {a b : Addr} {x y : Value} (ab : AR C r a b) (xy : VR C r x y) : Sim C r (fun _ _ _ => True) (Go.store a x .plain) (Go.store b y .plain) := by
 intro w v es fs hw ht hf;refine ⟨fun u w' es' e => ?_, fun hh w' es' e => ?_, loc_of (x := Go.store _ _ _) trivial w es⟩;rotate_left
 ·have key : (∀ c, x ≠ .agg c) ∧ (∀ c, x ≠ .tuple c) → isInit hh = false := by
   intro hx;have run : (Go.store a x .plain).runT C.Px w es = match w.cell? a with
     | some _ => if w.frozen? a then (.halt (.unsupported (.unsafePointer "a write to bytes that a string shares")) w, es) else (.ok () (w.setCell a x), es.push ⟨.cell a, true, false⟩)
     | none => match w.farStore C.Px a x false with
      | .ok (w, touched) => (.ok () w, es ++ touched.toArray.map (⟨.cell ·, true, false⟩))
      | .error h => (.halt h w, es) := by
    cases x <;> first | exact (hx.1 _ rfl).elim | exact (hx.2 _ rfl).elim | rfl
   rw [run] at e;cases hc : w.cell? a with
   | some z =>
    rw [hc] at e;simp only at e;split at e <;> cases e
    rfl
   | none =>
    rw [hc] at e;simp only [World.farStore, World.noCell] at e;rcases hw.kind ab.1 with ⟨_, _, _, ho⟩ | ⟨_, _, ho⟩ | ⟨_, _, ho⟩ <;> rw [ho] at e <;> simp at e <;> (obtain ⟨⟨rfl, _⟩, _⟩ := e; rfl)
  cases x with
  | agg c => cases e; rfl
  | tuple c => cases e; rfl
  | _ => exact key ⟨fun c e => (by cases e), fun c e => (by cases e)⟩
 have key : ∀ (hx : (∀ c, x ≠ .agg c) ∧ (∀ c, x ≠ .tuple c)), ∃ b_1 v' fs' r', (Go.store b y .plain).runT C.P v fs = (.ok b_1 v', fs') ∧ Ext C r w v r' w' v' ∧ WR C r' w' v' ∧ TE w' v' ∧ (∀ f ∈ fs', EvOk C r' f) ∧ True := by
  intro hx;have hy : (∀ c, y ≠ .agg c) ∧ (∀ c, y ≠ .tuple c) := by
   cases xy <;> first | exact (hx.1 _ rfl).elim | exact (hx.2 _ rfl).elim | (refine ⟨fun c e => ?_, fun c e => ?_⟩ <;> cases e)
  have run : ∀ (p : Program) (u : World) (c : Addr) (z : Value) (gs : Array Event), (∀ c, z ≠ .agg c) ∧ (∀ c, z ≠ .tuple c) → (Go.store c z .plain).runT p u gs = match u.cell? c with
    | some _ => if u.frozen? c then (.halt (.unsupported (.unsafePointer "a write to bytes that a string shares")) u, gs) else (.ok () (u.setCell c z), gs.push ⟨.cell c, true, false⟩)
    | none => match u.farStore p c z false with
     | .ok (w, touched) => (.ok () w, gs ++ touched.toArray.map (⟨.cell ·, true, false⟩))
     | .error h => (.halt h u, gs) := by
   intro p u c z gs hz;cases z <;> first | exact absurd rfl (hz.1 _) | exact absurd rfl (hz.2 _) | rfl
  rw [run _ _ _ _ _ hx] at e;cases hc : w.cell? a with
  | some z =>
   rw [hc] at e;simp only at e;split at e
   ·cases e
   ·rename_i hfz
    simp only [Bool.not_eq_true] at hfz;cases e;obtain ⟨z', hz', _⟩ := hw.cell ab hc;have hn := hw.notRO ab hc hfz;rw [run _ _ _ _ _ hy, hz'];simp only [hw.frozen ab hn hfz, Bool.false_eq_true, if_false];refine ⟨(), _, _, r, rfl, ⟨Sub.refl _, fun _ _ h => .inl h, fun i h => by rw [setCell_size] at h; omega, by rw [setCell_size, setCell_size]; omega, by rw [setCell_size]; exact Nat.le_refl _, ⟨0, rfl, rfl⟩, fun q hq hno => ?_, fun p q pq hp => ?_, rfl, rfl, rfl, rfl, rfl, rfl⟩, hw.set ab hn xy, ht, ?_, trivial⟩
    ·rw [setCell_get, if_neg (fun e => hno a.block (by rw [← e]; exact ab.1))]
    ·refine (setCell_get _ _ _ _).trans (if_neg fun e => ?_)
     rcases hw.inj _ _ _ ab.1 (by rw [e]; exact pq) with e' | ⟨e', _⟩
     ·exact hn (by rw [e']; exact hp)
     ·exact hn e'
    ·intro f hfm
     rcases Array.mem_push.1 hfm with h | rfl
     ·exact hf f h
     ·exact .inl ⟨rfl, .inl ⟨b, rfl, a.block, ab.1, fun _ => hn⟩⟩
  | none =>
   rw [hc] at e;simp only [World.farStore, World.noCell] at e;rcases hw.kind ab.1 with ⟨_, _, _, ho⟩ | ⟨_, _, ho⟩ | ⟨_, _, ho⟩ <;> rw [ho] at e <;> simp at e
 cases x with
 | agg c => cases e
 | tuple c => cases e
 | _ => exact key ⟨fun c e => (by cases e), fun c e => (by cases e)⟩
theorem Sim.new {o o':Obj} (ho:∀ a b,OR C (r.ext a b) (some o) (some o')):Sim C r (fun s a b=>s a b∧C.sh a=0) (newObj o) (newObj o'):=by
 intro w v es fs hw ht hf;refine ⟨fun u w' es' e => ?_,fun hh w' es' e=>(by cases e),loc_of (by exact fun _=>trivial) w es⟩;cases e;exact ⟨v.heap.size,_,_,_,rfl,Ext.push C (fun a b h=>(hw.lt a b h).2) o o',hw.push (ho _ _),ht,fun f h=>(hf f h).mono (Ren.sub_ext _ _ _),.inr ⟨rfl,rfl⟩,hw.shz _ (fun h=>by have:=hw.roLt _ h; omega)⟩
theorem TE.drew {w v:World} (h:TE w v):TE { w with drawn:=w.drawn+1 } { v with drawn:=v.drawn+1 }:=fun i q=>by
 have:=h (1+i) q;simpa [Nat.add_assoc] using this
theorem Sim.choose (q:Question):Sim C r (fun _ a b=>a=b) (Go.choose q) (Go.choose q):=by
 intro w v es fs hw ht hf;refine ⟨fun u w' es' e => ?_,fun hh w' es' e=>NI.choose.1 _ _ _ _ _ e,loc_of (by exact fun _=>trivial) w es⟩;simp only [Go.choose,Sem.runT] at e ⊢;split at e
 ·rename_i h
  cases e;simp only [h,if_true];exact ⟨_,_,_,r,rfl,Ext.refl C r w v,hw,ht,hf,rfl⟩
 ·rename_i h
  cases e;rw [if_neg h];refine ⟨_,_,_,r,rfl,⟨Sub.refl _,fun _ _ h => .inl h,fun i h=>absurd h (by simp),Nat.add_comm _ _,Nat.le_refl _,⟨1,rfl,rfl⟩,fun _ _ _=>rfl,fun _ _ _ _=>rfl,rfl,rfl,rfl,rfl,rfl,rfl⟩,⟨hw.lt,hw.fn,hw.inj,hw.obj,hw.win,hw.winG,hw.glob,hw.big,hw.shz,hw.roLt,hw.noInfo⟩,ht.drew,hf,?_⟩;have:=ht 0 q;simp only [Nat.add_zero] at this;rw [this]
theorem Sim.noRoom:Sim C r (fun _ _ _=>True) (Go.mark .noRoom) (Go.mark .noRoom):=by
 intro w v es fs hw ht hf;refine ⟨fun u w' es' e => ?_,fun hh w' es' e=>(by cases e),loc_of (x:=Go.mark .noRoom) trivial w es⟩;cases e;refine ⟨(),v,_,r,rfl,Ext.refl C r w v,hw,ht,fun f hfm => ?_,trivial⟩;rcases Array.mem_push.1 hfm with h | rfl
 ·exact hf f h
 ·exact .inr rfl
theorem Sim.askRoom (n:Nat):Sim C r (fun _ _ _=>True) (askRoom n) (askRoom n):=by
 unfold Go.askRoom;split
 ·exact Sim.noRoom
 ·exact Sim.pure trivial
theorem Sim.program:Sim C r (fun _ p q=>p=C.Px∧q=C.P) Go.program Go.program:=by
 intro w v es fs hw ht hf;refine ⟨fun u w' es' e => ?_,fun hh w' es' e=>(by cases e),loc_of (by exact fun _=>trivial) w es⟩;cases e;exact ⟨_,v,fs,r,rfl,Ext.refl C r w v,hw,ht,hf,rfl,rfl⟩
end
end Rn
namespace Rn
inductive VL (C:Ctx) (r:Ren):List Value→List Value→Prop
 | nil:VL C r [] []
 | cons {x y xs ys}:VR C r x y→VL C r xs ys→VL C r (x :: xs) (y :: ys)
section
variable {C : Ctx} {r r' : Ren}
theorem VL.mono (h:Sub r r') {xs ys:List Value} (x:VL C r xs ys):VL C r' xs ys:=by
 induction x with
 | nil=>exact .nil
 | cons a _ ih=>exact .cons (a.mono h) ih
theorem VL.of_get:∀ {xs ys:List Value},xs.length=ys.length→(∀ (i:Nat) x y,xs[i]?=some x→ys[i]?=some y→VR C r x y)→VL C r xs ys
 | [],[],_,_ => .nil
 | [],_ :: _,h,_=>by simp at h
 | _ :: _,[],h,_=>by simp at h
 | x :: xs,y :: ys,h,k => .cons (k 0 x y rfl rfl) (VL.of_get (by simpa using h) fun i a b ha hb=>k (i+1) a b (by simpa using ha) (by simpa using hb))
theorem VL.length {xs ys:List Value} (h:VL C r xs ys):xs.length=ys.length:=by
 induction h with
 | nil=>rfl
 | cons _ _ ih=>simp [ih]
theorem VL.get {xs ys:List Value} (h:VL C r xs ys):∀ (i:Nat) x y,xs[i]?=some x→ys[i]?=some y→VR C r x y:=by
 induction h with
 | nil=>intro i x y hx; simp at hx
 | cons a _ ih =>
  intro i x y hx hy;cases i with
  | zero=>simp only [List.getElem?_cons_zero,Option.some.injEq] at hx hy; subst hx; subst hy; exact a
  | succ i=>exact ih i x y (by simpa using hx) (by simpa using hy)
theorem VAll.toList {xs ys:Array Value} (h:VAll C r xs ys):VL C r xs.toList ys.toList:=VL.of_get (by simpa using h.size) fun i x y hx hy=>h.get i x y (by simpa using hx) (by simpa using hy)
theorem VL.toArray {xs ys:List Value} (h:VL C r xs ys):VAll C r xs.toArray ys.toArray:=⟨by simpa using h.length,fun i x y hx hy=>h.get i x y (by simpa using hx) (by simpa using hy)⟩
theorem VAll.flat {xs:Array Value} (h:flatL xs.toList=true):VAll C r xs xs:=⟨rfl,fun i x y hx hy=>by
 rw [hx] at hy; cases hy;exact vr_flatL (l:=xs.toList) h i x (by simpa using hx)⟩
theorem flat_cells {v:Value} (h:flatV v=true):flatL v.cells.toList=true:=by
 cases v with
 | agg cs=>obtain ⟨cs⟩:=cs; simpa [flatV,Value.cells] using h
 | _=>simp [Value.cells,flatL,h]
theorem AR.add {a b:Addr} (h:AR C r a b) (n:Nat):AR C r (a.add n) (b.add n):=by
 unfold Addr.add;split
 ·exact h
 ·exact ⟨h.1,by simp [h.2.1]; omega,rfl⟩
theorem Sim.under (t : TypeId) : Sim C r (fun _ a b => a = b ∧ C.P.underlying t = some a) (underlying t) (underlying t) := by
 unfold underlying;refine Sim.bind Sim.program ?_;rintro r' p q _ ⟨rfl, rfl⟩;show Sim C r' _ (match C.P.underlying t with | some d => Pure.pure d | none => stuck "no such type") _
 cases h : C.P.underlying t with
 | none => exact Sim.halt
 | some d => exact Sim.pure ⟨rfl, rfl⟩
theorem Sim.info (t : TypeId) : Sim C r (fun _ a b => a = b ∧ C.P.info? t = some a) (typeInfo t) (typeInfo t) := by
 unfold typeInfo;refine Sim.bind Sim.program ?_;rintro r' p q _ ⟨rfl, rfl⟩;show Sim C r' _ (match C.P.info? t with | some d => Pure.pure d | none => stuck "no such type") _
 cases h : C.P.info? t with
 | none => exact Sim.halt
 | some d => exact Sim.pure ⟨rfl, rfl⟩
theorem Sim.sizeOf (t:TypeId):Sim C r (fun _ a b=>a=b∧∃ i,C.P.info? t=some i∧a=i.size) (Go.sizeOf t) (Go.sizeOf t):=by
 unfold Go.sizeOf;refine Sim.bind (Sim.info t) ?_;rintro r' a b _ ⟨rfl,h⟩;exact Sim.pure ⟨rfl,_,h,rfl⟩
theorem Sim.isAgg (t:TypeId):Sim C r (fun _ a b=>a=b) (Go.isAgg t) (Go.isAgg t):=by
 unfold Go.isAgg;refine Sim.bind (Sim.under t) ?_;rintro r' a b _ ⟨rfl,h⟩;cases a <;> exact Sim.pure rfl
def zeroOk (tb:Tables) (t:TypeId):Bool:=match (⟨tb,#[]⟩:Program).info? t with
 | some i=>match i.zero with
  | some z=>flatV z
  | none=>true
 | none=>true
theorem Sim.zero {t:TypeId} (hz:zeroOk C.tb t=true):Sim C r (fun _ a b=>a=b∧flatV a=true) (zeroValue t) (zeroValue t):=by
 unfold zeroValue;refine Sim.bind (Sim.info t) ?_;rintro r' a b _ ⟨rfl,h⟩;cases e:a.zero with
 | none=>exact Sim.halt
 | some z =>
  refine Sim.pure ⟨rfl,?_⟩;have h':(⟨C.tb,#[]⟩:Program).info? t=some a:=h;simpa [zeroOk,h',e] using hz
theorem Sim.loadCellsFrom {a b:Addr} (ab:AR C r a b):∀ (n i:Nat) (acc acc':Array Value) (r':Ren),Sub r r'→VAll C r' acc acc' →
  Sim C r' (VAll C) (Go.loadCellsFrom a i n acc) (Go.loadCellsFrom b i n acc')
 | 0,i,acc,acc',r',hr,h=>Sim.pure h
 | n+1,i,acc,acc',r',hr,h=>by
  unfold Go.loadCellsFrom;refine Sim.bind (Sim.load .plain ((ab.add i).mono hr)) ?_;intro r'' x y hs hxy;exact Sim.loadCellsFrom ab n (i+1) _ _ r'' (hr.trans hs) ((h.mono hs).push hxy)
theorem Sim.loadCells {a b:Addr} (ab:AR C r a b) (n:Nat):Sim C r (VAll C) (Go.loadCells a n) (Go.loadCells b n) :=
 Sim.loadCellsFrom ab n 0 #[] #[] r (Sub.refl _) VAll.nil
theorem Sim.loadVar {a b:Addr} (ab:AR C r a b) (t:TypeId):Sim C r (VR C) (Go.loadVar t a) (Go.loadVar t b):=by
 unfold Go.loadVar;refine Sim.bind (Sim.isAgg t) ?_;rintro r1 x y h1 rfl;cases x with
 | true =>
  refine Sim.bind (Sim.sizeOf t) ?_;rintro r2 n m h2 ⟨rfl,_⟩;refine Sim.bind (Sim.loadCells ((ab.mono h1).mono h2) n) ?_;intro r3 xs ys h3 hv;exact Sim.pure (VR.aggA hv)
 | false=>exact Sim.load .plain (ab.mono h1)
theorem Sim.storeCells:∀ {xs ys:List Value} {a b:Addr} {r:Ren} (i:Nat),AR C r a b→VL C r xs ys→Sim C r (fun _ _ _=>True) (Go.storeCells a xs i) (Go.storeCells b ys i)
 | [],[],a,b,r,i,ab,_=>Sim.pure trivial
 | x :: xs,y :: ys,a,b,r,i,ab,h=>by
  cases h with
  | cons hx hs =>
   unfold Go.storeCells;refine Sim.bind (Sim.store (ab.add i) hx) ?_;intro r' _ _ hr _;exact Sim.storeCells (i+1) (ab.mono hr) (hs.mono hr)
theorem Sim.storeVar {a b:Addr} (ab:AR C r a b) (t:TypeId) {x y:Value} (xy:VR C r x y):Sim C r (fun _ _ _=>True) (Go.storeVar t a x) (Go.storeVar t b y):=by
 unfold Go.storeVar;refine Sim.bind (Sim.sizeOf t) ?_;rintro r1 n m h1 ⟨rfl,_⟩;have hc:=xy.cells;rw [hc.size];split
 ·exact Sim.never (Never.bind_left Never.halt)
 ·exact Sim.storeCells 0 (ab.mono h1) (hc.mono h1).toList
theorem Sim.newRow (e:TypeId) {xs ys:Array Value} (h:VAll C r xs ys):Sim C r (AR C) (Go.newRow e xs) (Go.newRow e ys):=by
 unfold Go.newRow;refine Sim.bind (Sim.new (o := .cells xs e) (o' := .cells ys e) fun a b => .cells (h.mono (Ren.sub_ext _ _ _))) ?_;rintro r' a b hr ⟨hab,hsh⟩;exact Sim.pure ⟨hab,by simp [hsh],rfl⟩
theorem Sim.newVar (t:TypeId) {x y:Value} (h:VR C r x y):Sim C r (AR C) (Go.newVar t x) (Go.newVar t y):=Sim.newRow t h.cells
theorem Sim.part {xs ys:Array Value} (h:VAll C r xs ys) (t:TypeId) (off:Nat):Sim C r (VR C) (Go.part t xs off) (Go.part t ys off):=by
 unfold Go.part;refine Sim.bind (Sim.isAgg t) ?_;rintro r1 x y h1 rfl;cases x with
 | true =>
  refine Sim.bind (Sim.sizeOf t) ?_;rintro r2 n m h2 ⟨rfl,_⟩;exact Sim.pure (VR.aggA (((h.mono h1).mono h2).extract _ _))
 | false =>
  cases e:xs[off]? with
  | none=>simp only [Bool.false_eq_true,if_false,e]; exact Sim.halt
  | some v =>
   obtain ⟨y,hy,hr⟩:=(h.mono h1).get? e;simp only [Bool.false_eq_true,if_false,e,hy];exact Sim.pure hr
theorem Sim.sureAddr {x y:Value} (h:VR C r x y):Sim C r (AR C) (Instr.sureAddr x) (Instr.sureAddr y):=by
 cases h <;> first | exact Sim.halt | exact Sim.pure ‹_›
theorem Sim.asIntOf {x y:Value} (h:VR C r x y):Sim C r (fun _ a b=>a=b) (Go.asIntOf x) (Go.asIntOf y):=by
 cases h <;> first | exact Sim.halt | exact Sim.pure rfl
theorem Sim.asInt {x y:Value} (h:VR C r x y):Sim C r (fun _ a b=>a=b) (Go.asInt x) (Go.asInt y):=by
 unfold Go.asInt;refine Sim.bind (Sim.asIntOf h) ?_;rintro r' a b _ rfl;exact Sim.pure rfl
theorem Sim.asBool {x y:Value} (h:VR C r x y):Sim C r (fun _ a b=>a=b) (Go.asBool x) (Go.asBool y):=by
 cases h <;> first | exact Sim.halt | exact Sim.pure rfl
theorem never_rtp {α:Type} (p:Program) (e:RuntimeError):Never p (runtimePanic e:Sem α):=by
 unfold runtimePanic;refine Never.bind_right fun p' => ?_
 have el:∀ t,NI p (elemOf t):=fun t=>by
  unfold elemOf;refine NI.bind NI.under fun d => ?_
  cases d <;> first | exact NI.pure | exact NI.halt
 have nv:∀ t v,NI p (Go.newVar t v):=fun t v=>NI.bind NI.new fun _=>NI.pure
 cases e <;> first | exact Never.halt | exact Never.bind_right (fun _=>Never.bind_right (fun _=>Never.halt) (nv _ _)) (el _)
theorem never_bounds {α:Type} (p:Program) (k:IntKind) (x y:Int) (c:BoundsCode):Never p (boundsPanic k x y c:Sem α):=by
 unfold boundsPanic;dsimp only;split
 ·exact Never.bind_right (fun _=>never_rtp _ _) (NI.bind NI.choose fun _=>NI.pure)
 ·exact Never.bind_right fun _=>never_rtp _ _
end
end Rn
namespace Rn
section
variable {C : Ctx} {r r' : Ren}
theorem Sim.given {α β:Type} {Q:Ren→α→β→Prop} {x:Sem α} {y:Sem β} (h:(∃ w v,WR C r w v)→Sim C r Q x y):Sim C r Q x y :=
 fun w v es fs hw ht hf=>h ⟨w,v,hw⟩ w v es fs hw ht hf
theorem Sim.shape {a b:Nat} (ab:r a b):Sim C r (fun _ x y=>x.isSome=y.isSome∧(¬ C.RO a→x=y)∧(C.RO a→∃ n,x=some (C.noT,n))) (Go.shape a) (Go.shape b):=by
 intro w v es fs hw ht hf;refine ⟨fun u w' es' e => ?_,fun hh w' es' e=>(by cases e),loc_of (by exact fun _=>trivial) w es⟩;simp only [Go.shape,Sem.runT,World.shape?] at e ⊢;refine ⟨_,v,fs,r,rfl,?_⟩;by_cases hr:C.RO a
 ·obtain ⟨c,hi,c',t',z',h1,h2,h3,_⟩:=hw.win _ _ ab hr
  rw [h1] at e;cases e;rw [h3];exact ⟨Ext.refl C r w v,hw,ht,hf,rfl,fun h=>absurd hr h,fun _=>⟨_,rfl⟩⟩
 ·have ho:=hw.obj _ _ ab hr
  revert e ho
  generalize w.heap[a]?=o1;generalize v.heap[b]?=o2;intro e ho;cases ho with
  | cells va=>cases e; exact ⟨Ext.refl C r w v,hw,ht,hf,rfl,fun _=>by simp [va.size],fun h=>absurd h hr⟩
  | map m=>cases e; exact ⟨Ext.refl C r w v,hw,ht,hf,rfl,fun _=>rfl,fun h=>absurd h hr⟩
  | number l m=>cases e; exact ⟨Ext.refl C r w v,hw,ht,hf,rfl,fun _=>rfl,fun h=>absurd h hr⟩
theorem Sim.getObj {a b:Nat} (ab:r a b):Sim C r (fun r' x y=>OR C r' (some x) (some y)∧(∀ c t z,x ≠ .cells c t z)) (Go.getObj a) (Go.getObj b):=by
 intro w v es fs hw ht hf;refine ⟨fun u w' es' e => ?_,fun hh w' es' e => ?_,loc_of (by exact fun _=>trivial) w es⟩;rotate_left
 ·simp only [Go.getObj,Sem.runT] at e
  split at e <;> cases e <;> rfl
 have hev:∀ f ∈ fs.push ⟨.obj b,false,false⟩,EvOk C r f:=fun f hfm=>by
  rcases Array.mem_push.1 hfm with h | rfl
  ·exact hf f h
  ·exact .inl ⟨rfl,.inr ⟨b,rfl,a,ab,fun h=>by cases h⟩⟩
 simp only [Go.getObj,Sem.runT] at e ⊢;by_cases hr:C.RO a
 ·obtain ⟨c,hi,c',t',z',h1,h2,h3,_⟩:=hw.win _ _ ab hr
  rw [h1] at e;cases e
 ·have ho:=hw.obj _ _ ab hr
  revert e ho
  generalize w.heap[a]?=o1;generalize v.heap[b]?=o2;intro e ho;cases ho with
  | cells va=>cases e
  | map m=>cases e; exact ⟨_,v,_,r,rfl,Ext.refl C r w v,hw,ht,hev,.map m,fun c t z e=>by cases e⟩
  | number l m=>cases e; exact ⟨_,v,_,r,rfl,Ext.refl C r w v,hw,ht,hev,.number l m,fun c t z e=>by cases e⟩
theorem Sim.setMap {a b:Nat} (ab:r a b) {es es':Array MapEntry} (k:Nat) (h:EAll C r es es'):Sim C r (fun _ _ _=>True) (Go.setObj a (.map es k)) (Go.setObj b (.map es' k)):=by
 intro w v es0 fs hw ht hf;refine ⟨fun u w' es1 e => ?_,fun hh w' es' e => ?_,loc_of (x:=Go.setObj _ _) (by exact trivial) w es0⟩;rotate_left
 ·simp only [Go.setObj,Sem.runT] at e
  split at e <;> cases e <;> rfl
 have hnr:(∀ c t z,w.heap[a]? ≠ some (.cells c t z))→¬ C.RO a:=fun hn hr=>by
  obtain ⟨c,hi,c',t',z',h1,h2,h3,_⟩:=hw.win _ _ ab hr;exact hn _ _ _ h1
 have fin:(∀ c t z,w.heap[a]? ≠ some (.cells c t z)) →
   Ext C r w v r { w with heap:=w.heap.setIfInBounds a (.map es k) } { v with heap:=v.heap.setIfInBounds b (.map es' k) }∧WR C r { w with heap:=w.heap.setIfInBounds a (.map es k) } { v with heap:=v.heap.setIfInBounds b (.map es' k) }∧(∀ f ∈ fs.push ⟨.obj b,true,false⟩,EvOk C r f):=by
  intro hn;have hl:=hw.lt _ _ ab;have hr:=hnr hn;have apart:∀ p q,r p q→a ≠ p→b ≠ q:=fun p q pq hp e=>by
   rcases hw.inj _ _ _ ab (by rw [e]; exact pq) with e' | ⟨e',_⟩
   ·exact hp e'
   ·exact hr e'
  refine ⟨⟨Sub.refl _,fun _ _ h => .inl h,fun i h=>absurd h (by simp),by simp; omega,by simp,⟨0,rfl,rfl⟩,fun q hq hno => ?_,fun p q pq hp => ?_,rfl,rfl,rfl,rfl,rfl,rfl⟩,
   ⟨fun p q pq=>by simpa using hw.lt p q pq,hw.fn,hw.inj,fun p q pq hpr => ?_,fun p q pq hpr => ?_,hw.winG,hw.glob,by simpa using hw.big,hw.shz,fun p hp=>by simpa using hw.roLt p hp,hw.noInfo⟩,fun f hfm => ?_⟩
  ·simp only [Array.getElem?_setIfInBounds]
   rw [if_neg (fun e=>hno a (by rw [← e]; exact ab))]
  ·simp only [Array.getElem?_setIfInBounds]
   rw [if_neg (apart p q pq (fun e=>hr (by rw [e]; exact hp)))]
  ·simp only [Array.getElem?_setIfInBounds]
   by_cases hp:a=p
   ·subst hp
    have:b=q:=hw.fn _ _ _ ab pq;subst this;rw [if_pos rfl,if_pos rfl,if_pos hl.1,if_pos hl.2];exact .map h
   ·rw [if_neg hp,if_neg (apart p q pq hp)]
    exact hw.obj p q pq hpr
  ·have hp:a ≠ p:=fun e=>hr (by rw [e]; exact hpr)
   simp only [Array.getElem?_setIfInBounds];rw [if_neg hp,if_neg (apart p q pq hp)];exact hw.win p q pq hpr
  ·rcases Array.mem_push.1 hfm with h | rfl
   ·exact hf f h
   ·exact .inl ⟨rfl,.inr ⟨b,rfl,a,ab,fun _=>hr⟩⟩
 simp only [Go.setObj,Sem.runT] at e ⊢;by_cases hr:C.RO a
 ·obtain ⟨c,hi,c',t',z',h1,h2,h3,_⟩:=hw.win _ _ ab hr
  rw [h1] at e;cases e
 have ho:=hw.obj _ _ ab hr;cases h1:w.heap[a]? with
 | none=>rw [h1] at e; cases e
 | some o =>
  rw [h1] at e ho;cases h2:v.heap[b]? with
  | none=>rw [h2] at ho; cases ho
  | some o' =>
   rw [h2] at ho;cases ho with
   | cells va=>cases e
   | map m =>
    cases e;obtain ⟨f1,f2,f3⟩:=fin (fun c t z e=>by rw [h1] at e; cases e);exact ⟨(),_,_,r,rfl,f1,f2,ht,f3,trivial⟩
   | number l m =>
    cases e;obtain ⟨f1,f2,f3⟩:=fin (fun c t z e=>by rw [h1] at e; cases e);exact ⟨(),_,_,r,rfl,f1,f2,ht,f3,trivial⟩
theorem Sim.viewAt {a b:Nat} (ab:r a b):Sim C r (fun _ x y=>x=none∧y=none) (Go.viewAt a) (Go.viewAt b):=by
 unfold Go.viewAt;refine Sim.bind (Sim.shape ab) ?_;rintro r1 x y h1 ⟨hs,_,_⟩;cases x with
 | some s=>cases y with
  | some s'=>exact Sim.pure ⟨rfl,rfl⟩
  | none=>cases hs
 | none =>
  cases y with
  | some s'=>cases hs
  | none => ?_
  refine Sim.bind (Sim.getObj (h1 _ _ ab)) ?_;rintro r3 o o' h3 ⟨ho,_⟩;cases ho <;> exact Sim.pure ⟨rfl,rfl⟩
def NR (C:Ctx) (r:Ren):Option (Addr × Bool)→Option (Addr × Bool)→Prop
 | none,none=>True
 | some (a,l),some (b,m)=>AR C r a b∧l=m
 | _,_=>False
theorem Sim.numberAt {a b:Nat} (ab:r a b):Sim C r (fun s x y=>NR C s x y∧(C.RO a→x=none)) (Go.numberAt a) (Go.numberAt b):=by
 unfold Go.numberAt;refine Sim.bind (Sim.shape ab) ?_;rintro r1 x y h1 ⟨hs,_,hro⟩;cases x with
 | some s=>cases y with
  | some s'=>exact Sim.pure ⟨trivial,fun _=>rfl⟩
  | none=>cases hs
 | none =>
  cases y with
  | some s'=>cases hs
  | none => ?_
  have hnr:¬ C.RO a:=fun h=>by obtain ⟨n,e⟩:=hro h; cases e
  refine Sim.bind (Sim.getObj (h1 _ _ ab)) ?_;rintro r3 o o' h3 ⟨ho,_⟩;cases ho with
  | cells _=>exact Sim.pure ⟨trivial,fun _=>rfl⟩
  | map _=>exact Sim.pure ⟨trivial,fun _=>rfl⟩
  | number l m=>exact Sim.pure ⟨⟨m,rfl⟩,fun h=>absurd h hnr⟩
theorem Sim.behind {a b:Addr} (ab:AR C r a b):Sim C r (fun s x y=>AR C s x.1 y.1∧x.2=y.2∧(C.RO a.block→x=(a,false))) (Go.behindNumber a) (Go.behindNumber b):=by
 unfold Go.behindNumber;refine Sim.bind (Sim.numberAt ab.1) ?_;rintro r1 x y h1 ⟨h,hro⟩;refine Sim.pure ?_;match x,y,h with
 | none,none,_=>exact ⟨ab.mono h1,rfl,fun _=>rfl⟩
 | some (a,l),some (b,m),h=>exact ⟨h.1,h.2,fun hr=>by cases hro hr⟩
theorem byteOfCell_C:∀ (d:Nat) (t:TypeId) (o:Nat),byteOfCell C.Px d t o=byteOfCell C.P d t o
 | 0,_,_=>rfl
 | d+1,t,o=>by
  have ih:byteOfCell C.Px d=byteOfCell C.P d:=by funext t o; exact byteOfCell_C d t o
  simp only [byteOfCell,ih];rfl
theorem cellOfByte_C:∀ (d:Nat) (t:TypeId) (o:Nat),cellOfByte C.Px d t o=cellOfByte C.P d t o
 | 0,_,_=>rfl
 | d+1,t,o=>by
  have ih:cellOfByte C.Px d=cellOfByte C.P d:=by funext t o; exact cellOfByte_C d t o
  simp only [cellOfByte,ih];rfl
theorem cellAtBytes_C (d:Nat) (e:TypeId) (n o:Nat) (k:Int):cellAtBytes C.Px d e n o k=cellAtBytes C.P d e n o k:=by
 have h1:byteOfCell C.Px d=byteOfCell C.P d:=by funext t o; exact byteOfCell_C d t o
 have h2:cellOfByte C.Px d=cellOfByte C.P d:=by funext t o; exact cellOfByte_C d t o
 unfold cellAtBytes;simp only [h1,h2];rfl
theorem Sim.byteOf {a b:Addr} (ab:AR C r a b) (hr:¬ C.RO a.block):Sim C r (fun _ x y=>x=y) (Go.byteOf a) (Go.byteOf b):=by
 refine Sim.given fun hw => ?_
 have hoff:b.off=a.off:=by obtain ⟨w,v,hw⟩:=hw; rw [ab.2.1,hw.shz _ hr]; rfl
 unfold Go.byteOf;rw [ab.2.2];cases a.spot with
 | some s=>exact Sim.pure rfl
 | none =>
  refine Sim.bind Sim.program ?_;rintro r1 p q h1 ⟨rfl,rfl⟩;refine Sim.bind (Q:=fun _ _ _=>True) ?_ ?_
  ·unfold Go.noView
   refine Sim.bind (Sim.viewAt (h1 _ _ ab.1)) ?_;rintro r2 x y h2 ⟨rfl,rfl⟩;exact Sim.pure trivial
  ·intro r2 _ _ h2 _
   refine Sim.bind (Sim.shape (h2 _ _ (h1 _ _ ab.1))) ?_;rintro r3 x y h3 ⟨_,hsame,_⟩;obtain rfl:=hsame hr;cases x with
   | none=>exact Sim.halt
   | some s =>
    obtain ⟨e,n⟩:=s;dsimp only;have hc:C.Px.cellsOf e=C.P.cellsOf e:=rfl;rw [hc];by_cases h0:C.P.cellsOf e=0
    ·simp only [h0,if_true]; exact Sim.pure rfl
    ·simp only [h0,if_false]
     have hb:byteOfCell C.Px C.Px.depth e (a.off % C.P.cellsOf e)=byteOfCell C.P C.P.depth e (b.off % C.P.cellsOf e):=by rw [hoff]; exact byteOfCell_C _ _ _
     rw [hb];cases byteOfCell C.P C.P.depth e (b.off % C.P.cellsOf e) with
     | none=>exact Sim.halt
     | some k=>rw [hoff]; exact Sim.pure rfl
end
end Rn
namespace Rn
section
variable {C : Ctx} {r r' : Ren}
theorem Never.ite {α:Type} {p:Program} {c:Prop} [Decidable c] {x y:Sem α} (h:Never p x) (k:Never p y):Never p (if c then x else y):=by
 split
 ·exact h
 ·exact k
def fieldOk (tb:Tables) (s:TypeId) (f:Nat):Bool:=match (⟨tb,#[]⟩:Program).underlying s with
 | some (.struct fs)=>match fs[f]? with
  | some fd=>match (⟨tb,#[]⟩:Program).info? fd.type with
   | some i=>i.size != 0
   | none=>true
  | none=>true
 | _=>true
theorem Sim.fieldAt {s:TypeId} {f:Nat} (ok:fieldOk C.tb s f=true) {x y:Value} (h:VR C r x y):Sim C r (VR C) (Instr.fieldAt s x f) (Instr.fieldAt s y f):=by
 unfold Instr.fieldAt;refine Sim.bind (Sim.under s) ?_;rintro r1 d d' h1 ⟨rfl,hd⟩;have hd':(⟨C.tb,#[]⟩:Program).underlying s=some d:=hd;simp only [fieldOk,hd'] at ok;cases d with
 | struct fs => ?_
 | _=>exact Sim.halt
 dsimp only at ok ⊢;cases e:fs[f]? with
 | none=>exact Sim.halt
 | some fd =>
  rw [e] at ok;refine Sim.bind (Sim.sureAddr (h.mono h1)) ?_;intro r2 a b h2 ab;have hp:Sim C r2 (AR C) (Go.fieldPlace a fd) (Go.fieldPlace b fd):=by
   unfold Go.fieldPlace;refine Sim.bind (Sim.sizeOf fd.type) ?_;rintro r1 x y h1 ⟨rfl,i,hi,rfl⟩;have hi':(⟨C.tb,#[]⟩:Program).info? fd.type=some i:=hi;simp only [hi'] at ok;have hne:¬ i.size=0:=by simpa using ok
   rw [if_neg hne,if_neg hne];exact Sim.pure ((ab.mono h1).add _)
  refine Sim.bind hp ?_;intro r3 a b h3 ab;exact Sim.pure (.ptr ab)
theorem Sim.loadAt (t:TypeId) {x y:Value} (h:VR C r x y):Sim C r (VR C) (Instr.loadAt t x) (Instr.loadAt t y):=by
 unfold Instr.loadAt;refine Sim.bind (Sim.sureAddr h) ?_;intro r1 a b h1 ab;exact Sim.loadVar ab t
theorem Sim.storeAt (t:TypeId) {x y u z:Value} (h:VR C r x y) (k:VR C r u z):Sim C r (fun _ _ _=>True) (Instr.storeAt t x u) (Instr.storeAt t y z):=by
 unfold Instr.storeAt;refine Sim.bind (Sim.sureAddr h) ?_;intro r1 a b h1 ab;exact Sim.storeVar ab t (k.mono h1)
theorem Sim.alloc {t:TypeId} (hz:zeroOk C.tb t=true):Sim C r (VR C) (Instr.alloc t true (.tuple #[])) (Instr.alloc t true (.tuple #[])):=by
 unfold Instr.alloc;refine Sim.bind (Sim.zero hz) ?_;rintro r1 z z' h1 ⟨rfl,hf⟩;dsimp only;refine Sim.bind (Sim.newVar t (vr_flat hf)) ?_;intro r2 a b h2 ab;exact Sim.pure (.ptr ab)
theorem Sim.box (t:TypeId) {x y:Value} (h:VR C r x y):Sim C r (VR C) (Instr.box t x) (Instr.box t y):=by
 unfold Instr.box;refine Sim.bind (Sim.newVar t h) ?_;intro r2 a b h2 ab;exact Sim.pure (.ptr ab)
theorem Sim.indexAt (t:TypeId) {x y u z:Value} (h:VR C r x y) (k:VR C r u z):Sim C r (VR C) (Instr.indexAt t x u) (Instr.indexAt t y z):=by
 unfold Instr.indexAt;refine Sim.bind (Sim.asIntOf k) ?_;rintro r1 ⟨ki,i⟩ _ h1 rfl;dsimp only;refine Sim.bind (Sim.under t) ?_;rintro r2 d _ h2 ⟨rfl,_⟩;have hx:=(h.mono h1).mono h2;cases d with
 | array len elem =>
  refine Sim.bind (Sim.sureAddr hx) ?_;intro r3 a b h3 ab;show Sim C r3 (VR C) (underlying t >>= _) (underlying t >>= _)
  refine Sim.bind (Sim.under t) ?_;rintro r4 d' _ h4 ⟨rfl,_⟩;dsimp only;split
  ·refine Sim.bind (Sim.sizeOf elem) ?_
   rintro r5 s _ h5 ⟨rfl,_⟩;exact Sim.pure (VR.ptr (((ab.mono h4).mono h5).add _))
  ·refine Sim.never ?_
   exact Never.ite Never.halt (never_bounds _ _ _ _ _)
 | slice elem =>
  cases hx with
  | sl0 n c =>
   refine Sim.never ?_;show Never C.Px (underlying t >>= fun _=>boundsPanic ki i 0 .index)
   exact Never.bind_right fun _=>never_bounds _ _ _ _ _
  | slE a b =>
   refine Sim.never ?_;show Never C.Px (underlying t >>= _)
   exact Never.bind_right fun _=>by
    dsimp only;split
    ·rename_i hlt; omega
    ·exact Never.ite Never.halt (never_bounds _ _ _ _ _)
  | sl n c ab =>
   show Sim C r2 (VR C) (underlying t >>= _) (underlying t >>= _)
   refine Sim.bind (Sim.under t) ?_;rintro r4 d' _ h4 ⟨rfl,_⟩;dsimp only;split
   ·refine Sim.bind (Sim.sizeOf elem) ?_
    rintro r5 s _ h5 ⟨rfl,_⟩;exact Sim.pure (VR.ptr (((ab.mono h4).mono h5).add _))
   ·refine Sim.never ?_
    exact Never.ite Never.halt (never_bounds _ _ _ _ _)
  | _=>exact Sim.never (Never.bind_left Never.halt)
 | _=>exact Sim.never (Never.bind_left Never.halt)
end
end Rn
namespace Rn
section
variable {C : Ctx} {r r' : Ren}
theorem Sim.extract {x y:Value} (h:VR C r x y) (i:Nat):Sim C r (VR C) (Instr.extract x i) (Instr.extract y i):=by
 cases h with
 | @tuple xs ys e k =>
  unfold Instr.extract;dsimp only;cases hx:xs[i]? with
  | none=>exact Sim.halt
  | some v =>
   obtain ⟨w,hy,hr⟩:=(VAll.mk e k:VAll C r xs ys).get? hx;simp only [hy];exact Sim.pure hr
 | _=>exact Sim.halt
theorem Sim.sliceBound {x y:Value} (h:VR C r x y) (n:Nat) (c:BoundsCode):Sim C r (fun _ a b=>a=b) (Instr.sliceBound x n c) (Instr.sliceBound y n c):=by
 unfold Instr.sliceBound;refine Sim.bind (Sim.asIntOf h) ?_;rintro r1 ⟨k,i⟩ _ h1 rfl;dsimp only;split
 ·exact Sim.pure rfl
 ·exact Sim.never (never_bounds _ _ _ _ _)
theorem Sim.sliceBoundLe {x y:Value} (h:VR C r x y) (n:Nat) (c:BoundsCode):Sim C r (fun _ a b=>a=b∧a≤n) (Instr.sliceBound x n c) (Instr.sliceBound y n c):=by
 unfold Instr.sliceBound;refine Sim.bind (Sim.asIntOf h) ?_;rintro r1 ⟨k,i⟩ _ h1 rfl;dsimp only;split
 ·rename_i hi
  exact Sim.pure ⟨rfl,by omega⟩
 ·exact Sim.never (never_bounds _ _ _ _ _)
def VO (C:Ctx) (r:Ren):Option Value→Option Value→Prop
 | none,none=>True
 | some x,some y=>VR C r x y
 | _,_=>False
theorem VO.mono (h:Sub r r') {x y:Option Value} (k:VO C r x y):VO C r' x y:=by
 match x,y,k with
 | none,none,_=>trivial
 | some _,some _,k=>exact VR.mono h k
theorem VO.cases {x y:Option Value} (k:VO C r x y):(x=none∧y=none) ∨ ∃ a b,x=some a∧y=some b∧VR C r a b:=by
 match x,y,k with
 | none,none,_=>exact .inl ⟨rfl,rfl⟩
 | some a,some b,k=>exact .inr ⟨a,b,rfl,rfl,k⟩
theorem Sim.sliceBounds (b : Bool) (len cap : Nat) {l l' h h' m m' : Option Value} (hl : VO C r l l') (hh : VO C r h h') (hm : VO C r m m') :
    Sim C r (fun _ a b => a = b) (Instr.sliceBounds b len cap l h m) (Instr.sliceBounds b len cap l' h' m') := by
  unfold Instr.sliceBounds;rcases hl.cases with ⟨rfl, rfl⟩ | ⟨x1, y1, rfl, rfl, k1⟩ <;> rcases hh.cases with ⟨rfl, rfl⟩ | ⟨x2, y2, rfl, rfl, k2⟩ <;> rcases hm.cases with ⟨rfl, rfl⟩ | ⟨x3, y3, rfl, rfl, k3⟩ <;> dsimp only
  all_goals
    refine Sim.bind (Q := fun _ a b => a = b) (by first | exact Sim.pure rfl | exact Sim.sliceBound (by assumption) _ _) ?_;rintro r1 mm _ s1 rfl;try dsimp only
    first
    | exact Sim.never (Never.bind_left Never.halt)
    | (refine Sim.bind (Q := fun _ a b => a = b) (by first | exact Sim.pure rfl | exact Sim.sliceBound (VR.mono s1 (by assumption)) _ _) ?_
       rintro r2 h2 _ s2 rfl;try dsimp only
       refine Sim.bind (Q := fun _ a b => a = b) (by first | exact Sim.pure rfl | exact Sim.sliceBound (VR.mono s2 (VR.mono s1 (by assumption))) _ _) ?_;rintro r3 l2 _ s3 rfl;exact Sim.pure rfl)
theorem Sim.sliceBounds0 {l l' h h' m m' : Option Value} (hl : VO C r l l') (hh : VO C r h h') (hm : VO C r m m') :
    Sim C r (fun _ a b => a = (0, 0, 0) ∧ b = (0, 0, 0)) (Instr.sliceBounds true 0 0 l h m) (Instr.sliceBounds true 0 0 l' h' m') := by
  unfold Instr.sliceBounds;rcases hl.cases with ⟨rfl, rfl⟩ | ⟨x1, y1, rfl, rfl, k1⟩ <;> rcases hh.cases with ⟨rfl, rfl⟩ | ⟨x2, y2, rfl, rfl, k2⟩ <;> rcases hm.cases with ⟨rfl, rfl⟩ | ⟨x3, y3, rfl, rfl, k3⟩ <;> dsimp only
  all_goals
    refine Sim.bind (Q := fun _ a b => a = b ∧ a ≤ 0) (by first | exact Sim.pure ⟨rfl, Nat.le_refl _⟩ | exact Sim.sliceBoundLe (by assumption) _ _) ?_;rintro r1 mm _ s1 ⟨rfl, hm0⟩;have em : mm = 0 := by omega
    subst em;try dsimp only
    first
    | exact Sim.never (Never.bind_left Never.halt)
    | (refine Sim.bind (Q := fun _ a b => a = b ∧ a ≤ 0) (by first | exact Sim.pure ⟨rfl, Nat.le_refl _⟩ | exact Sim.sliceBoundLe (VR.mono s1 (by assumption)) _ _) ?_
       rintro r2 h2 _ s2 ⟨rfl, hh0⟩;have eh : h2 = 0 := by omega
       subst eh;try dsimp only
       refine Sim.bind (Q := fun _ a b => a = b ∧ a ≤ 0) (by first | exact Sim.pure ⟨rfl, Nat.le_refl _⟩ | exact Sim.sliceBoundLe (VR.mono s2 (VR.mono s1 (by assumption))) _ _) ?_;rintro r3 l2 _ s3 ⟨rfl, hl0⟩;have el : l2 = 0 := by omega
       subst el;exact Sim.pure ⟨rfl, rfl⟩)
theorem Sim.sliceAt (t:TypeId) {x y:Value} (hx:VR C r x y) {l l' h h' m m':Option Value} (hl:VO C r l l') (hh:VO C r h h') (hm:VO C r m m') :
  Sim C r (VR C) (Instr.sliceAt t x l h m) (Instr.sliceAt t y l' h' m'):=by
 unfold Instr.sliceAt;have gen:∀ (r:Ren),VR C r x y→VO C r l l'→VO C r h h'→VO C r m m'→Sim C r (VR C) (Instr.slice t x l h m) (Instr.slice t y l' h' m'):=by
  intro r hx hl hh hm;unfold Instr.slice;refine Sim.bind (Sim.under t) ?_;rintro r1 d _ h1 ⟨rfl,_⟩;have hx1:=hx.mono h1;cases d with
  | string=>cases hx1 <;> exact Sim.halt
  | slice elem =>
   cases hx1 with
   | sl0 n c =>
    dsimp only;refine Sim.bind (Sim.sliceBounds true n c (hl.mono h1) (hh.mono h1) (hm.mono h1)) ?_;rintro r2 ⟨a,b,c⟩ _ h2 rfl;refine Sim.bind (Sim.sizeOf elem) ?_;rintro r3 s _ h3 ⟨rfl,_⟩;refine Sim.pure ?_;simp only [Option.map_none,ite_self];exact .sl0 _ _
   | slE x y =>
    dsimp only;refine Sim.bind (Sim.sliceBounds0 (hl.mono h1) (hh.mono h1) (hm.mono h1)) ?_;rintro r2 _ _ h2 ⟨rfl,rfl⟩;refine Sim.bind (Sim.sizeOf elem) ?_;rintro r3 s _ h3 ⟨rfl,_⟩;exact Sim.pure (.slE x y)
   | sl n c ab =>
    dsimp only;refine Sim.bind (Sim.sliceBounds true n c (hl.mono h1) (hh.mono h1) (hm.mono h1)) ?_;rintro r2 ⟨a,b,c⟩ _ h2 rfl;refine Sim.bind (Sim.sizeOf elem) ?_;rintro r3 s _ h3 ⟨rfl,_⟩;refine Sim.pure ?_;dsimp only;split
    ·exact .sl _ _ ((ab.mono h2).mono h3)
    ·exact .sl _ _ (((ab.mono h2).mono h3).add _)
   | _=>exact Sim.halt
  | pointer arr =>
   have e:Sim C r1 (AR C) (asAddr x) (asAddr y):=by
    cases hx1 <;> first | exact Sim.pure ‹_› | exact Sim.never (never_rtp _ _) | exact Sim.halt
   cases hx1;all_goals
    refine Sim.bind e ?_;intro r2 a b h2 ab;refine Sim.bind (Sim.under arr) ?_;rintro r3 d _ h3 ⟨rfl,_⟩;cases d with
    | array n elem =>
     refine Sim.bind (Sim.sliceBounds false n n (((hl.mono h1).mono h2).mono h3) (((hh.mono h1).mono h2).mono h3) (((hm.mono h1).mono h2).mono h3)) ?_;rintro r4 ⟨a',b',c'⟩ _ h4 rfl;refine Sim.bind (Sim.sizeOf elem) ?_;rintro r5 s _ h5 ⟨rfl,_⟩;refine Sim.pure ?_;split
     ·exact .sl _ _ (((ab.mono h3).mono h4).mono h5)
     ·exact .sl _ _ ((((ab.mono h3).mono h4).mono h5).add _)
    | _=>exact Sim.halt
  | _=>cases hx1 <;> exact Sim.halt
 refine Sim.bind (Sim.under t) ?_;rintro r1 d _ h1 ⟨rfl,_⟩;cases d with
 | array n elem =>
  refine Sim.bind (Sim.sureAddr (hx.mono h1)) ?_;intro r2 a b h2 ab;refine Sim.bind (Sim.sliceBounds false n n ((hl.mono h1).mono h2) ((hh.mono h1).mono h2) ((hm.mono h1).mono h2)) ?_;rintro r4 ⟨a',b',c'⟩ _ h4 rfl;refine Sim.bind (Sim.sizeOf elem) ?_;rintro r5 s _ h5 ⟨rfl,_⟩;refine Sim.pure ?_;split
  ·exact .sl _ _ ((ab.mono h4).mono h5)
  ·exact .sl _ _ (((ab.mono h4).mono h5).add _)
 | _=>exact gen r1 (hx.mono h1) (hl.mono h1) (hh.mono h1) (hm.mono h1)
end
end Rn
namespace Rn
section
variable {C : Ctx} {r r' : Ren}
theorem flat_default:flatV (default:Value)=true:=rfl
theorem VAll.get! {xs ys:Array Value} (h:VAll C r xs ys) (i:Nat):VR C r xs[i]! ys[i]! := by
 rw [Array.getElem!_eq_getD,Array.getElem!_eq_getD];exact h.getD i (vr_flat flat_default)
theorem VAll.rangeMap {xs ys:Array Value} (h:VAll C r xs ys) (n:Nat):VAll C r ((Array.range n).map (xs[· % xs.size]!)) ((Array.range n).map (ys[· % ys.size]!)) :=
 VAll.ofFn _ _ _ fun i x _=>by
  show VR C r xs[x % xs.size]! ys[x % ys.size]!
  rw [h.size]; exact h.get! _
theorem Sim.zeroIf {t:TypeId} (hz:zeroOk C.tb t=true) (c:Prop) [Decidable c] {γ δ:Type} {Q:Ren→γ→δ→Prop} {k:Array Value→Sem γ} {l:Array Value→Sem δ}
  (hk:∀ r' xs ys,Sub r r'→VAll C r' xs ys→Sim C r' Q (k xs) (l ys)) :
  Sim C r Q (if c then (Pure.pure #[] >>= k) else (zeroValue t >>= fun z=>Pure.pure z.cells >>= k)) (if c then (Pure.pure #[] >>= l) else (zeroValue t >>= fun z=>Pure.pure z.cells >>= l)):=by
 split
 ·exact Sim.bind (Sim.pure VAll.nil) fun r' xs ys hs h=>hk r' xs ys hs h
 ·refine Sim.bind (Sim.zero hz) ?_
  rintro r1 z _ h1 ⟨rfl,hf⟩;exact Sim.bind (Sim.pure (VAll.flat (C:=C) (r:=r1) (flat_cells hf))) fun r' xs ys hs h=>hk r' xs ys (h1.trans hs) h
def sliceOk (tb:Tables) (t:TypeId):Bool:=match (⟨tb,#[]⟩:Program).underlying t with
 | some (.slice e)=>zeroOk tb e
 | _=>true
theorem Sim.makeSlice {t:TypeId} (ok:sliceOk C.tb t=true) {x y u z:Value} (h:VR C r x y) (k:VR C r u z):Sim C r (VR C) (Instr.makeSlice t x u) (Instr.makeSlice t y z):=by
 unfold Instr.makeSlice;refine Sim.bind (Sim.under t) ?_;rintro r1 d _ h1 ⟨rfl,hd⟩;cases d with
 | slice elem =>
  have hz:zeroOk C.tb elem=true:=by
   have hd':(⟨C.tb,#[]⟩:Program).underlying t=some (.slice elem):=hd;simpa [sliceOk,hd'] using ok
  refine Sim.bind (Sim.asInt (h.mono h1)) ?_;rintro r2 n _ h2 rfl;refine Sim.bind (Sim.asInt ((k.mono h1).mono h2)) ?_;rintro r3 c _ h3 rfl;refine Sim.bind (Sim.info elem) ?_;rintro r4 i _ h4 ⟨rfl,_⟩;dsimp only;split
  ·refine Sim.never ?_
   split
   ·exact Never.bind_left (never_rtp _ _)
   ·split
    ·exact Never.bind_left (never_rtp _ _)
    ·exact Never.bind_right fun _=>Never.bind_left (never_rtp _ _)
  ·refine Sim.bind (Sim.askRoom _) ?_
   intro r5 _ _ h5 _;refine Sim.bind (Sim.sizeOf elem) ?_;rintro r6 s _ h6 ⟨rfl,_⟩;refine Sim.zeroIf hz _ ?_;intro r7 xs ys h7 hv;refine Sim.bind (Sim.newRow elem (hv.rangeMap _)) ?_;intro r8 a b h8 ab;exact Sim.pure (VR.sl _ _ ab)
 | _=>exact Sim.halt
inductive PL (C:Ctx) (r:Ren):List (Nat × Value)→List (Nat × Value)→Prop
 | nil:PL C r [] []
 | cons {i x y xs ys}:VR C r x y→PL C r xs ys→PL C r ((i,x) :: xs) ((i,y) :: ys)
theorem PL.mono (h:Sub r r') {xs ys:List (Nat × Value)} (x:PL C r xs ys):PL C r' xs ys:=by
 induction x with
 | nil=>exact .nil
 | cons a _ ih=>exact .cons (a.mono h) ih
theorem fold_set {xs ys:List (Value × Nat)} (off:Nat):∀ {cs ds:Array Value},VAll C r cs ds→xs.length=ys.length→(∀ (i:Nat) x y,xs[i]?=some x→ys[i]?=some y→VR C r x.1 y.1∧x.2=y.2) →
  VAll C r (xs.foldl (fun cs x=>cs.setIfInBounds (off+x.2) x.1) cs) (ys.foldl (fun cs x=>cs.setIfInBounds (off+x.2) x.1) ds):=by
 induction xs generalizing ys with
 | nil=>intro cs ds h hl _; cases ys with
  | nil=>exact h
  | cons y ys=>simp at hl
 | cons x xs ih =>
  intro cs ds h hl hg;cases ys with
  | nil=>simp at hl
  | cons y ys =>
   have h0:=hg 0 x y rfl rfl;simp only [List.foldl_cons];rw [h0.2];exact ih (h.set _ h0.1) (by simpa using hl) fun i a b ha hb=>hg (i+1) a b (by simpa using ha) (by simpa using hb)
theorem fill_rel (place:Nat→Option (Nat × Nat)):∀ {ps qs:List (Nat × Value)} {cs ds:Array Value},PL C r ps qs→VAll C r cs ds →
  (∃ xs ys,Instr.fill place cs ps=some xs∧Instr.fill place ds qs=some ys∧VAll C r xs ys) ∨ (Instr.fill place cs ps=none∧Instr.fill place ds qs=none)
 | [],[],cs,ds,_,h => .inl ⟨cs,ds,rfl,rfl,h⟩
 | (i,x) :: ps,(_,y) :: qs,cs,ds,.cons hx hp,h=>by
  unfold Instr.fill;cases place i with
  | none=>exact .inr ⟨rfl,rfl⟩
  | some p =>
   obtain ⟨off,size⟩:=p;have hc:=hx.cells;dsimp only;rw [hc.size,h.size];split
   ·exact .inr ⟨rfl,rfl⟩
   ·have hv:VAll C r (x.cells.zipIdx.foldl (fun cs (c,j)=>cs.setIfInBounds (off+j) c) cs) (y.cells.zipIdx.foldl (fun cs (c,j)=>cs.setIfInBounds (off+j) c) ds):=by
     rw [← Array.foldl_toList,← Array.foldl_toList];refine fold_set off h (by simp [hc.size]) fun i a b ha hb => ?_
     simp only [Array.toList_zipIdx,List.getElem?_zipIdx,Option.map_eq_some_iff] at ha hb;obtain ⟨u,hu,rfl⟩:=ha;obtain ⟨z,hz,rfl⟩:=hb;exact ⟨hc.get i u z (by simpa using hu) (by simpa using hz),rfl⟩
    exact fill_rel place hp hv
theorem Sim.mapM_list {α β:Type} {f g:α→Sem β}:∀ {l:List α} {r:Ren},(∀ r' a,Sub r r'→Sim C r' (fun _ x y=>x=y) (f a) (g a))→Sim C r (fun _ x y=>x=y) (l.mapM f) (l.mapM g)
 | [],r,_=>Sim.pure rfl
 | a :: l,r,h=>by
  rw [List.mapM_cons,List.mapM_cons];refine Sim.bind (h r a (Sub.refl _)) ?_;rintro r1 x _ h1 rfl;refine Sim.bind (Sim.mapM_list (l:=l) fun r' a hs=>h r' a (h1.trans hs)) ?_;rintro r2 y _ h2 rfl;exact Sim.pure rfl
theorem Sim.build {t:TypeId} (hz:zeroOk C.tb t=true) {ps qs:Array (Nat × Value)} (hp:PL C r ps.toList qs.toList):Sim C r (VR C) (Instr.build t ps) (Instr.build t qs):=by
 unfold Instr.build;refine Sim.bind (Sim.zero hz) ?_;rintro r1 z _ h1 ⟨rfl,hf⟩;refine Sim.bind (Sim.under t) ?_;rintro r2 d _ h2 ⟨rfl,_⟩;have hc:VAll C r2 z.cells z.cells:=VAll.flat (flat_cells hf);cases d with
 | struct fields =>
  dsimp only;rw [Array.mapM_eq_mapM_toList,bind_map_left,bind_map_left];refine Sim.bind (Sim.mapM_list (f:=fun f:Field=>_) (g:=fun f:Field=>_) fun r' f hs => ?_) ?_
  ·refine Sim.bind (Sim.sizeOf f.type) ?_
   rintro r3 s _ h3 ⟨rfl,_⟩;exact Sim.pure rfl
  rintro r3 places _ h3 rfl;rcases fill_rel (fun i=>places.toArray[i]?) (((hp.mono h1).mono h2).mono h3) (hc.mono h3) with ⟨xs,ys,e1,e2,hv⟩ | ⟨e1,e2⟩
  ·simp only [e1,e2]
   exact Sim.pure (VR.aggA hv)
  ·simp only [e1,e2]
   exact Sim.halt
 | array n elem =>
  dsimp only;refine Sim.bind (Sim.sizeOf elem) ?_;rintro r3 s _ h3 ⟨rfl,_⟩;rcases fill_rel (fun i=>some (i*s,s)) (((hp.mono h1).mono h2).mono h3) (hc.mono h3) with ⟨xs,ys,e1,e2,hv⟩ | ⟨e1,e2⟩
  ·simp only [e1,e2]
   exact Sim.pure (VR.aggA hv)
  ·simp only [e1,e2]
   exact Sim.halt
 | _=>exact Sim.halt
theorem Sim.buildSlice {t:TypeId} (ok:sliceOk C.tb t=true) (len:Nat) {ps qs:Array (Nat × Value)} (hp:PL C r ps.toList qs.toList):Sim C r (VR C) (Instr.buildSlice t len ps) (Instr.buildSlice t len qs):=by
 unfold Instr.buildSlice;refine Sim.bind (Sim.under t) ?_;rintro r1 d _ h1 ⟨rfl,hd⟩;cases d with
 | slice elem =>
  have hz:zeroOk C.tb elem=true:=by
   have hd':(⟨C.tb,#[]⟩:Program).underlying t=some (.slice elem):=hd;simpa [sliceOk,hd'] using ok
  refine Sim.bind (Sim.sizeOf elem) ?_;rintro r2 s _ h2 ⟨rfl,_⟩;dsimp only;split
  ·exact Sim.never (Never.bind_left Never.halt)
  ·refine Sim.zeroIf hz _ ?_
   intro r3 xs ys h3 hv;rcases fill_rel (fun i=>some (i*s,s)) (((hp.mono h1).mono h2).mono h3) (hv.rangeMap (len*s)) with ⟨us,zs,e1,e2,hv⟩ | ⟨e1,e2⟩
   ·simp only [e1,e2]
    refine Sim.bind (Sim.newRow elem hv) ?_;intro r4 a b h4 ab;exact Sim.pure (VR.sl _ _ ab)
   ·simp only [e1,e2]
    exact Sim.halt
 | _=>exact Sim.halt
theorem Sim.intArith (op:BinOp) (k:IntKind) (x y:Int):Sim C r (VR C) (Op.intArith op k x y) (Op.intArith op k x y):=by
 unfold Op.intArith;split <;> first | exact Sim.pure (.int _ _) | exact Sim.halt
theorem Sim.intDiv (op:BinOp) (k:IntKind) (x y:Int):Sim C r (VR C) (Op.intDiv op k x y) (Op.intDiv op k x y):=by
 unfold Op.intDiv;split
 ·exact Sim.never (never_rtp _ _)
 ·split <;> first | exact Sim.pure (.int _ _) | exact Sim.halt
theorem Sim.intBits (op:BinOp) (k:IntKind) (x y:Int):Sim C r (VR C) (Op.intBits op k x y) (Op.intBits op k x y):=by
 unfold Op.intBits;dsimp only;split <;> first | exact Sim.pure (.int _ _) | exact Sim.halt
theorem Sim.intCmp (op:BinOp) (x y:Int):Sim C r (VR C) (Op.intCmp op x y) (Op.intCmp op x y):=by
 unfold Op.intCmp;split <;> first | exact Sim.pure (.bool _) | exact Sim.halt
theorem Sim.shift (op:BinOp) (k:IntKind) (x:Int) (k':IntKind) (y:Int):Sim C r (VR C) (Op.shift op k x k' y) (Op.shift op k x k' y):=by
 unfold Op.shift;split
 ·exact Sim.never (never_rtp _ _)
 ·dsimp only
  split <;> first | exact Sim.pure (.int _ _) | exact Sim.halt
theorem Sim.unary (op:UnOp) {x y:Value} (h:VR C r x y):Sim C r (VR C) (Op.unary op x) (Op.unary op y):=by
 cases h <;> cases op <;> first | exact Sim.halt | exact Sim.intArith .sub _ 0 _ | exact Sim.intBits .xor _ _ _ | exact Sim.pure (.bool _)
def toIntOk (tb:Tables) (t:TypeId):Bool:=match (⟨tb,#[]⟩:Program).underlying t with
 | some (.int _)=>true
 | _=>false
theorem Sim.convert {s t:TypeId} (os:toIntOk C.tb s=true) (ok:toIntOk C.tb t=true) {x y:Value} (h:VR C r x y):Sim C r (VR C) (Go.convert s t x) (Go.convert s t y):=by
 unfold Go.convert;refine Sim.bind (Sim.under s) ?_;rintro r1 d _ h1 ⟨rfl,hd⟩;refine Sim.bind (Sim.under t) ?_;rintro r2 d' _ h2 ⟨rfl,hd'⟩;have e1:∃ k,d = .int k:=by
  have hd'':(⟨C.tb,#[]⟩:Program).underlying s=some d:=hd;simp only [toIntOk,hd''] at os;split at os
  ·rename_i e; cases e; exact ⟨_,rfl⟩
  ·cases os
 have e2:∃ k,d' = .int k:=by
  have hd'':(⟨C.tb,#[]⟩:Program).underlying t=some d':=hd';simp only [toIntOk,hd''] at ok;split at ok
  ·rename_i e; cases e; exact ⟨_,rfl⟩
  ·cases ok
 obtain ⟨k,rfl⟩:=e1;obtain ⟨k',rfl⟩:=e2;cases h <;> first | exact Sim.halt | exact Sim.pure (.int _ _)
theorem Sim.len (ts:Array TypeId) (t:TypeId) {xs ys:Array Value} (h:VAll C r xs ys):Sim C r (VR C) (Builtin.len_ ts t xs) (Builtin.len_ ts t ys):=by
 unfold Builtin.len_;cases ts[0]? with
 | none=>exact Sim.halt
 | some t0 =>
  cases hx:xs[0]? with
  | none=>exact Sim.halt
  | some x =>
   obtain ⟨y,hy,hr⟩:=h.get? hx;simp only [hy];refine Sim.bind (Sim.under t0) ?_;rintro r1 d _ h1 ⟨rfl,_⟩;replace hr:=hr.mono h1
   cases d with
   | array n e=>cases hr <;> exact Sim.pure (.int _ _)
   | pointer e =>
    cases hr;all_goals
     refine Sim.bind (Sim.under e) ?_;rintro r2 d _ h2 ⟨rfl,_⟩;cases d <;> first | exact Sim.halt | exact Sim.pure (.int _ _)
   | slice e=>cases hr <;> first | exact Sim.halt | exact Sim.pure (.int _ _)
   | map k e =>
    cases hr with
    | map0=>exact Sim.pure (.int _ _)
    | map ab =>
     refine Sim.bind (Sim.getObj ab) ?_;rintro r2 o o' h2 ⟨ho,_⟩;cases ho with
     | map m=>dsimp only; rw [m.size]; exact Sim.pure (.int _ _)
     | _=>exact Sim.halt
    | _=>exact Sim.halt
   | _=>cases hr <;> exact Sim.halt
theorem Sim.max2 {x y x' y':Value} (h:VR C r x x') (k:VR C r y y'):Sim C r (VR C) (Builtin.max2 x y) (Builtin.max2 x' y'):=by
 cases h <;> cases k <;> first | exact Sim.halt | exact Sim.pure (.int _ _)
theorem Sim.maxL:∀ {xs ys:List Value} {x y:Value} {r:Ren},VR C r x y→VL C r xs ys→Sim C r (VR C) (xs.foldlM Builtin.max2 x) (ys.foldlM Builtin.max2 y)
 | [],[],x,y,r,h,_=>Sim.pure h
 | a :: xs,b :: ys,x,y,r,h,.cons k ks=>by
  simp only [List.foldlM_cons];refine Sim.bind (Sim.max2 h k) ?_;intro r1 u v h1 uv;exact Sim.maxL uv (ks.mono h1)
theorem Sim.max (ts:Array TypeId) (t:TypeId) {xs ys:Array Value} (h:VAll C r xs ys):Sim C r (VR C) (Builtin.max_ ts t xs) (Builtin.max_ ts t ys):=by
 unfold Builtin.max_;have:=h.toList;revert this
 generalize xs.toList=l1;generalize ys.toList=l2;intro hl;cases hl with
 | nil=>exact Sim.halt
 | cons a b=>exact Sim.maxL a b
end
end Rn
end Go.Proofs.YtjcgklifabcfkaaGreat
