/-
  Texts that the law stands on, part 4.
-/
import Derived.Test.YtjcgklifabcfkaaGreatV1
import Derived.Test.YtjcgklifabcfkaaGreatV3
import Derived.Conc.Own5
import Derived.Conc.Listed
import Derived.Conc.CompanyDraw
import Derived.Conc.LoneCalls
import Derived.Conc.CrowdComm
set_option maxRecDepth 100000
set_option linter.unusedVariables false
set_option linter.unusedSimpArgs false
namespace Go.Proofs.YtjcgklifabcfkaaGreat
namespace Rn
open Go.Conc
def dstD (D:Nat→Bool) (ops:Array Oper):Bool:=ops.toList.all fun o=>o.dst.all D
def okC (tb:Tables) (F D:Nat→Bool):Code→Bool
 | .skip | .exit _ | .ret=>true
 | .region _ ops _=>ops.toList.all (okOp tb F D) && dstD D ops
 | .seq a b=>okC tb F D a && okC tb F D b
 | .cond c a b=>okX F D c && okC tb F D a && okC tb F D b
 | .block _ b | .loop b=>okC tb F D b
 | _=>false
def okI (tb:Tables) (F D:Nat→Bool):Item→Bool
 | .code c | .inLoop c=>okC tb F D c
 | .inBlock _=>true
 | .inRegion ops _=>ops.toList.all (okOp tb F D) && dstD D ops
 | _=>false
structure Fine (C:Ctx) (f:FuncId):Prop where
 same:C.fs[f]?=C.fx[f]?
 body:∃ fn c,C.fx[f]?=some fn∧fn.body=some c∧okC C.tb C.F (C.D f) c=true
structure SameF (C:Ctx) (f:FuncId):Prop where
 same:C.fs[f]?=C.fx[f]?
 body:∃ fn c,C.fx[f]?=some fn∧fn.body=some c
theorem Fine.sameF {C:Ctx} {f:FuncId} (h:Fine C f):SameF C f:=⟨h.same,let ⟨fn,c,h1,h2,_⟩:=h.body; ⟨fn,c,h1,h2⟩⟩
def fra (f:FuncId) (ts:Array Value) (todo:List Item) (m:Bool):Frame := { (base f).at ⟨ts,[]⟩ todo with mode:=if m then .returning else .run }
theorem fra_run (f:FuncId) (ts:Array Value) (todo:List Item):fra f ts todo false=(base f).at ⟨ts,[]⟩ todo:=rfl
inductive IL (C : Ctx) (D : Nat → Bool) : List Item → List Item → Prop
 | nil : IL C D [] []
 | cons {x k k'} : okI C.tb C.F D x = true → IL C D k k' → IL C D (x :: k) (x :: k')
 | stop {c k k0} : C.suf c k → (∀ id, exitTo id k0 = none) → IL C D (.code (.refuse "") :: k0) (.code c :: k)
 | part {a d b e k k'} : IL C D (.code a :: .code d :: k) (.code b :: .code e :: k') → IL C D (.code (.seq a d) :: k) (.code (.seq b e) :: k')
theorem IL.same {C:Ctx} {D:Nat→Bool}:∀ {k:List Item},k.all (okI C.tb C.F D)=true→IL C D k k
 | [],_ => .nil
 | x :: k,h=>by
  simp only [List.all_cons,Bool.and_eq_true] at h;exact .cons h.1 (IL.same h.2)
structure VOn (C:Ctx) (r:Ren) (D:Nat→Bool) (xs ys:Array Value):Prop where
 size:xs.size=ys.size
 get:∀ (i:Nat) x y,D i=true→xs[i]?=some x→ys[i]?=some y→VR C r x y
section
variable {C : Ctx} {r s : Ren} {D : Nat → Bool} {xs ys : Array Value}
theorem VAll.on (h:VAll C r xs ys):VOn C r D xs ys:=⟨h.size,fun i x y _=>h.get i x y⟩
theorem VOn.all (h:VOn C r (fun _=>true) xs ys):VAll C r xs ys:=⟨h.size,fun i x y=>h.get i x y rfl⟩
theorem VOn.mono (h:Sub r s) (x:VOn C r D xs ys):VOn C s D xs ys:=⟨x.size,fun i a b hi ha hb=>(x.get i a b hi ha hb).mono h⟩
theorem VOn.getD (h:VOn C r D xs ys) {i:Nat} (hi:D i=true) {d d':Value} (hd:VR C r d d'):VR C r (xs.getD i d) (ys.getD i d'):=by
 rcases Nat.lt_or_ge i xs.size with hl | hl
 ·have hj:i<ys.size:=h.size ▸ hl
  simp only [Array.getD,hl,hj,dif_pos];exact h.get i _ _ hi (Array.getElem?_eq_getElem hl) (Array.getElem?_eq_getElem hj)
 ·have hj:¬ i<ys.size:=by rw [← h.size]; omega
  simp only [Array.getD,Nat.not_lt.2 hl,hj,dif_neg,not_false_eq_true];exact hd
theorem VOn.get? (h:VOn C r D xs ys) {i:Nat} (hi:D i=true) {x:Value} (hx:xs[i]?=some x):∃ y,ys[i]?=some y∧VR C r x y:=by
 have hl:=(Array.getElem?_eq_some_iff.1 hx).1;have hj:i<ys.size:=h.size ▸ hl;exact ⟨ys[i],Array.getElem?_eq_getElem hj,h.get i _ _ hi hx (Array.getElem?_eq_getElem hj)⟩
theorem VOn.get?_none (h:VOn C r D xs ys) {i:Nat} (hx:xs[i]?=none):ys[i]?=none:=by
 rw [Array.getElem?_eq_none_iff] at hx ⊢;rw [← h.size]; exact hx
theorem VOn.set (h:VOn C r D xs ys) (i:Nat) {v w:Value} (hv:VR C r v w):VOn C r D (xs.setIfInBounds i v) (ys.setIfInBounds i w):=by
 refine ⟨by simp [h.size],fun j x y hj hx hy => ?_⟩;rw [Array.getElem?_setIfInBounds] at hx hy;rw [h.size] at hx;split at hx
 ·rename_i e
  rw [if_pos e] at hy;split at hx
  ·rename_i hl
   rw [if_pos hl] at hy;cases hx; cases hy; exact hv
  ·cases hx
 ·rename_i e
  rw [if_neg e] at hy;exact h.get j x y hj hx hy
end
inductive FrR (C:Ctx) (r:Ren):Frame→Frame→Prop
 | mk {f ts ts' todo todo'} (m:Bool):SameF C f→VOn C r (C.D f) ts ts'→IL C (C.D f) todo todo'→FrR C r (fra f ts todo m) (fra f ts' todo' m)
inductive LR (C:Ctx) (r:Ren) (X:List Frame) (bs:List Frame):List Frame→List Frame→Prop
 | nil:LR C r X bs X bs
 | cons {f f' L L'}:FrR C r f f'→LR C r X bs L L'→LR C r X bs (f :: L) (f' :: L')
section
variable {C : Ctx} {r r' : Ren}
theorem FrR.mono (h:Sub r r') {f f':Frame} (k:FrR C r f f'):FrR C r' f f':=by
 cases k with
 | mk m a b c=>exact .mk m a (b.mono h) c
theorem LR.mono (h:Sub r r') {X:List Frame} {bs L L':List Frame} (k:LR C r X bs L L'):LR C r' X bs L L':=by
 induction k with
 | nil=>exact .nil
 | cons a _ ih=>exact .cons (a.mono h) ih
theorem finish_reg (f:FuncId) (ts:Array Value) (ops:Array Oper) (i:Nat) (rest:List Nat) (k:List Item) (m:Bool) (v:Value):(fra f ts (.inRegion ops (i :: rest) :: k) m).finish v=fra f (match (ops[i]?).bind (·.dst) with | some d=>ts.setIfInBounds d v | none=>ts) (.inRegion ops rest :: k) m:=by
 unfold Frame.finish fra;cases m <;> simp only [Frame.at] <;> cases (ops[i]?).bind (·.dst) <;> rfl
theorem FrR.finish {f f':Frame} (k:FrR C r f f') {v v':Value} (hv:VR C r v v'):FrR C r (f.finish v) (f'.finish v'):=by
 cases k with
 | @mk f ts ts' todo todo' m a b c =>
  cases c with
  | nil=>exact .mk m a b .nil
  | stop h h0=>exact .mk m a b (.stop h h0)
  | part h=>exact .mk m a b (.part h)
  | @cons x k k' h0 hk =>
   cases x with
   | inRegion ops is =>
    cases is with
    | nil=>exact .mk m a b (.cons h0 hk)
    | cons i rest =>
     rw [finish_reg,finish_reg];refine .mk m a ?_ (.cons h0 hk);cases (ops[i]?).bind (·.dst) with
     | none=>exact b
     | some d=>exact b.set d hv
   | code c'=>exact .mk m a b (.cons h0 hk)
   | inBlock id=>exact .mk m a b (.cons h0 hk)
   | inLoop c'=>exact .mk m a b (.cons h0 hk)
   | _=>cases h0
theorem vr_undef:VR C r undef undef:=VR.tupleA VAll.nil
theorem Sim.mapMA {α:Type} {f g:α→Sem Value} {l:List α} {r:Ren} (h:∀ r' a,a ∈ l→Sub r r'→Sim C r' (VR C) (f a) (g a)):Sim C r (VL C) (l.mapM f) (l.mapM g):=by
 induction l generalizing r with
 | nil=>exact Sim.pure .nil
 | cons a l ih =>
  rw [List.mapM_cons,List.mapM_cons];refine Sim.bind (h r a (by simp) (Sub.refl _)) ?_;intro r1 x y h1 xy;refine Sim.bind (ih fun r' a ha hs=>h r' a (by simp [ha]) (h1.trans hs)) ?_;intro r2 xs ys h2 hs;exact Sim.pure (.cons (xy.mono h2) hs)
theorem Sim.results (fn:Func) {D:Nat→Bool} {ts ts':Array Value} (hD:resD fn D=true) (h:VOn C r D ts ts'):Sim C r (VR C) (Go.results fn ts) (Go.results fn ts'):=by
 unfold Go.results;rw [Array.mapM_eq_mapM_toList,Array.mapM_eq_mapM_toList,bind_map_left,bind_map_left];refine Sim.bind (Sim.mapMA fun r' x hx hs => ?_) ?_
 ·have hx:=List.all_eq_true.1 hD x hx
  cases x with
  | tmp t=>exact Sim.pure ((h.mono hs).getD hx vr_undef)
  | cell a t =>
   have ha:=(h.mono hs).getD hx vr_undef;have e:Sim C r' (AR C) (asAddr (ts.getD a undef)) (asAddr (ts'.getD a undef)):=by
    revert ha
    generalize ts.getD a undef=u;generalize ts'.getD a undef=v;intro ha;cases ha <;> first | exact Sim.pure ‹_› | exact Sim.never (never_rtp _ _) | exact Sim.halt
   refine Sim.bind e ?_;intro r1 a b h1 ab;exact Sim.loadVar ab t
 ·intro r1 xs ys h1 hs
  refine Sim.pure ?_;have hv:=hs.toArray;by_cases e:xs.toArray.size=1
  ·have e':ys.toArray.size=1:=hv.size ▸ e
   rw [dif_pos e,dif_pos e'];exact hv.get 0 _ _ (Array.getElem?_eq_getElem (by omega)) (Array.getElem?_eq_getElem (by omega))
  ·have e':¬ ys.toArray.size=1:=fun h=>e (hv.size.trans h)
   rw [dif_neg e,dif_neg e'];exact VR.tupleA hv
def Nice (g:Goroutine):Prop:=g.status = .running∧(g.frame.mode = .run ∨ g.frame.mode = .returning)
theorem apply_halt {P:Program} {fr:Frame} {cs:List Frame} {s:Sem Next} {w wh:World} {h:Halt} {g':Goroutine} {w':World} {es:Array Event} (hm:fr.mode = .run)
  (hr:s.run P w = .halt h wh) (hi:∀ x,h ≠ .unsupported (.initOrder x)) (hf:∀ m,h ≠ .fatal m) (ht:∀ m,h ≠ .throw m) (hs:stepG.apply P true fr cs none s w = .go g' w' es) (hn:Nice g'):False:=by
 obtain ⟨n1,n2⟩:=hn;have hx:(s.runT P w #[])=(.halt h wh,(s.runT P w #[]).2):=by rw [← hr,← Sem.runT_fst P s w #[]]
 unfold stepG.apply at hs;rw [hx] at hs;cases h with
 | panic p =>
  simp only [if_true,GStep.after] at hs;cases hs;unfold Frame.raise at n2;rw [hm] at n2;rcases n2 with n2 | n2 <;> cases n2
 | goexit =>
  simp only [if_true,GStep.after] at hs;cases hs;unfold Frame.raise at n2;rw [hm] at n2;rcases n2 with n2 | n2 <;> cases n2
 | blocked=>simp only [if_true,GStep.after] at hs; cases hs; cases n1
 | waiting=>simp only [if_true,GStep.after] at hs; cases hs; cases n1
 | fatal m=>exact hf m rfl
 | throw m=>exact ht m rfl
 | exit c=>simp only [if_true,GStep.after] at hs; cases hs
 | stuck c=>simp only [if_true,GStep.after] at hs; cases hs
 | unsupported u =>
  have:∀ g,u ≠ .initOrder g:=fun g e=>hi g (by rw [e])
  cases u <;> first | exact absurd rfl (this _) | (simp only [if_true,GStep.after] at hs; cases hs)
inductive Out (C:Ctx) (r:Ren) (X:List Frame) (bs:List Frame):Goroutine→Goroutine→Prop
 | go {f f' L L'}:FrR C r f f'→LR C r X bs L L'→Out C r X bs (G f L) (G f' L')
 | call {fn args args' f f' L L'}:Entered C fn args.size→¬ Fine C fn→VAll C r args args'→FrR C r f f'→LR C r X bs L L' →
   Out C r X bs (G (Frame.enter C.Px fn args .normal) (f :: L)) (G (Frame.enter C.P fn args' .normal) (f' :: L'))
def Answers (C:Ctx) (r:Ren) (X:List Frame) (bs:List Frame) (main:Bool) (f':Frame) (L':List Frame) (w v:World) (g':Goroutine) (w':World):Prop :=
 ∃ h' v' fs' r',stepG C.P main (G f' L') v = .go h' v' fs'∧Ext C r w v r' w' v'∧WR C r' w' v'∧TE w' v'∧(∀ f ∈ fs',EvOk C r' f)∧Out C r' X bs g' h'
theorem Answers.still {X:List Frame} {bs:List Frame} {main:Bool} {f' f1 f1':Frame} {L' L1 L1':List Frame} {w v:World} (hw:WR C r w v) (ht:TE w v)
  (hs:stepG C.P main (G f' L') v = .go (G f1' L1') v) (hf:FrR C r f1 f1') (hl:LR C r X bs L1 L1'):Answers C r X bs main f' L' w v (G f1 L1) w :=
 ⟨_,v,#[],r,hs,Ext.refl C r w v,hw,ht,by simp,.go hf hl⟩
structure CommR (C:Ctx) (r:Ren) (sh:CommShape) (c c':CommCase):Prop where
 ch:C.Ch
 chan:VR C r c.chan c'.chan
 send:VO C r c.send c'.send
 zero:VR C r c.zero c'.zero
 shape:(sh = .send∧c.send.isSome=true) ∨ ((∃ q,sh = .recv q)∧c.send=none)
theorem NextR.out {n n':Next} (h:NextR C r n n'):(∃ a b,n = .value a∧n' = .value b∧VR C r a b) ∨ (n = .skip∧n' = .skip) ∨ (∃ f xs ys,n = .enter f xs∧n' = .enter f ys∧Entered C f xs.size∧VAll C r xs ys) ∨
  (∃ c c' sh,n = .comm #[c] true sh∧n' = .comm #[c'] true sh∧CommR C r sh c c'):=by
 unfold NextR at h;split at h
 ·exact .inl ⟨_,_,rfl,rfl,h⟩
 ·exact .inr (.inl ⟨rfl,rfl⟩)
 ·obtain ⟨rfl,h1,h2⟩:=h
  exact .inr (.inr (.inl ⟨_,_,_,rfl,rfl,h1,h2⟩))
 ·obtain ⟨hc,rfl,rfl,rfl,c,c',rfl,rfl,h1,h2,h3,h4⟩:=h
  exact .inr (.inr (.inr ⟨_,_,_,rfl,rfl,⟨hc,h1,h2,h3,h4⟩⟩))
 ·exact h.elim
theorem opSim (ok:CtxOk C) {X:List Frame} {bs:List Frame} {main:Bool} {f:FuncId} {ts ts':Array Value} {ops:Array Oper} {i:Nat} {rest:List Nat} {k k':List Item} {o:Oper} {L L':List Frame} {w v:World}
  (hf:SameF C f) (hv:VOn C r (C.D f) ts ts') (hk0:okI C.tb C.F (C.D f) (.inRegion ops (i :: rest))=true) (hk1:IL C (C.D f) k k') (hl:LR C r X bs L L') (hw:WR C r w v) (ht:TE w v)
  (ho:ops[i]?=some o) (hwl:Region.wanted o (yielded ops ts)=true) (hwr:Region.wanted o (yielded ops ts')=true)
  {g':Goroutine} {w':World} {es:Array Event} (hs:stepG C.Px true (G (fra f ts (.inRegion ops (i :: rest) :: k) false) L) w = .go g' w' es) (hn:Nice g') :
  Answers C r X bs main (fra f ts' (.inRegion ops (i :: rest) :: k') false) L' w v g' w':=by
 unfold Answers;simp only [fra_run] at hs ⊢;have hoo:okOp C.tb C.F (C.D f) o=true:=by
  simp only [okI,Bool.and_eq_true] at hk0;obtain ⟨hi,rfl⟩:=Array.getElem?_eq_some_iff.1 ho;exact List.all_eq_true.1 hk0.1 _ (by simp)
 have he:∀ x,okX C.F (C.D f) x=true→VR C r ((Act.mk ts []).eval x) ((Act.mk ts' []).eval x):=by
  intro x hx;cases x with
  | tmp t=>exact hv.getD hx vr_undef
  | const c=>exact vr_flat hx
  | global g=>cases hx
  | func g=>exact .func hx rfl (fun i x y h=>by simp at h) rfl (fun i x y h=>by simp at h)
 have sim:=simOp ok (fun h=>⟨f,h⟩) (fun g h=>⟨f,h⟩) hoo he (fun _=>rfl) (fun _=>rfl) w v #[] #[] hw ht (by simp);have hfr:FrR C r (fra f ts (.inRegion ops (i :: rest) :: k) false) (fra f ts' (.inRegion ops (i :: rest) :: k') false) := .mk false hf hv (.cons hk0 hk1);have hki:(base f).kind ≠ .early:=by simp [base]
 have fin:∀ (k:List Item) (ts:Array Value) (x:Value),(fra f ts (.inRegion ops (i :: rest) :: k) false).finish x=(base f).at ((Act.mk ts []).put o.dst x) (.inRegion ops rest :: k):=fun k ts x=>by
  rw [fra_run,Frame.finish_at,ho]; rfl
 generalize hx:(execOp (Act.mk ts []).eval o).runT C.Px w #[]=rx at sim;obtain ⟨R,es0⟩:=rx;have hrun:(execOp (Act.mk ts []).eval o).run C.Px w=R:=by rw [← Sem.runT_fst _ _ _ #[],hx]
 cases R with
 | halt h wh =>
  have hni:=sim.2.1 _ _ _ rfl;rw [stepG_oper ho hwl] at hs;exact (apply_halt rfl hrun (fun x e=>by subst e; simp [isInit] at hni) (fun m e=>by subst e; simp [isInit] at hni) (fun m e=>by subst e; simp [isInit] at hni) hs hn).elim
 | ok n w1 =>
  obtain ⟨n',v1,fs1,r1,e1,x1,hw1,ht1,hf1,q1⟩:=sim.1 _ _ _ rfl;have hrun1:(execOp (Act.mk ts' []).eval o).run C.P v = .ok n' v1:=by rw [← Sem.runT_fst _ _ _ #[],e1]
  have ev:∀ f1 ∈ listed C.P (base f).fn (Act.mk ts' []) o v,EvOk C r1 f1:=fun f1 h=>by
   refine hf1 f1 ?_;have:=mem_seen h;rw [Sem.events,e1] at this;exact this
  have hfr1:=hfr.mono x1.le;rcases q1.out with ⟨a,b,rfl,rfl,hab⟩ | ⟨rfl,rfl⟩ | ⟨fn,xs,ys,rfl,rfl,hF,hxy⟩ | ⟨c,c',sh,rfl,rfl,hC⟩;rotate_left 3
  ·rw [stepG_comm ho hwl hki hrun] at hs; cases hs
  ·
   rw [stepG_value ho hwl hki hrun] at hs;cases hs;refine ⟨_,v1,_,r1,stepG_value ho hwr hki hrun1,x1,hw1,ht1,ev,?_⟩;rw [← fin,← fin];exact .go (hfr1.finish hab) (hl.mono x1.le)
  ·
   rw [stepG_none ho hwl hki hrun] at hs;cases hs;refine ⟨_,v1,_,r1,stepG_none ho hwr hki hrun1,x1,hw1,ht1,ev,?_⟩;rw [← fin,← fin];exact .go (hfr1.finish vr_undef) (hl.mono x1.le)
  ·
   rw [stepG_enter ho hwl hki hrun] at hs;cases hs;refine ⟨_,v1,_,r1,stepG_enter ho hwr hki hrun1,x1,hw1,ht1,ev,?_⟩;by_cases hfn:Fine C fn
   ·obtain ⟨fc,c,h1,h2,h3⟩:=hfn.body
    have h1':C.P.funcs[fn]?=some fc:=by rw [← h1]; exact hfn.same
    rw [enter_at (P:=C.Px) xs h1 h2,enter_at (P:=C.P) ys h1' h2];refine .go ?_ (.cons hfr1 (hl.mono x1.le));refine FrR.mk false hfn.sameF (VAll.on (hxy.append ?_)) (.cons (by simp only [okI]; exact h3) .nil);rw [hxy.size];exact VAll.replicate _ vr_undef
   ·exact .call hF hfn hxy hfr1 (hl.mono x1.le)
theorem yielded_rel {D:Nat→Bool} {ts ts':Array Value} (h:VOn C r D ts ts') (ops:Array Oper) (hd:dstD D ops=true):yielded ops ts=yielded ops ts':=by
 funext j
 unfold yielded;cases hj:((ops[j]?).bind (·.dst)) with
 | none=>rfl
 | some d =>
  have hdd:D d=true:=by
   obtain ⟨o,ho,hod⟩:=Option.bind_eq_some_iff.1 hj;obtain ⟨hi,rfl⟩:=Array.getElem?_eq_some_iff.1 ho;have:=List.all_eq_true.1 hd ops[j] (by simp);rw [hod] at this;simpa using this
  simp only [Option.bind_some];cases hx:ts[d]? with
  | none=>rw [h.get?_none hx]
  | some x =>
   obtain ⟨y,hy,hr⟩:=h.get? hdd hx;rw [hy];cases hr <;> rfl
theorem stepG_leaveE {P:Program} {main:Bool} {f:FuncId} {ts:Array Value} {todo:List Item} {c:Frame} {cs:List Frame} {w w1:World} {fn:Func} {v:Value} (hf:P.funcs[f]?=some fn) (hr:(results fn ts).run P w = .ok v w1) :
  stepG P main (G (fra f ts todo true) (c :: cs)) w = .go (G (c.finish v) cs) w1 (seen P f ((results fn ts).events P w #[])):=by
 simp [G,fra,stepG,unwind,doReturn,Frame.at,base,hf,hr,GStep.after]
theorem stepG_leaveH {P:Program} {main:Bool} {f:FuncId} {ts:Array Value} {todo:List Item} {cs:List Frame} {w w1:World} {fn:Func} {h:Halt} (hf:P.funcs[f]?=some fn) (hr:(results fn ts).run P w = .halt h w1) {g':Goroutine} {w':World} {es:Array Event} :
  stepG P main (G (fra f ts todo true) cs) w ≠ .go g' w' es:=by
 intro e;simp [G,fra,stepG,unwind,Frame.at,base,hf,hr,GStep.after] at e;cases h <;> simp at e
theorem stepG_cond_bad {P:Program} {main:Bool} {f:FuncId} {ts:Array Value} {c:Operand} {x y:Code} {k:List Item} {cs:List Frame} {w:World} {g':Goroutine} {w':World} {es:Array Event}
  (hb:∀ b,(Act.mk ts []).eval c ≠ .bool b):stepG P main (G (fra f ts (.code (.cond c x y) :: k) false) cs) w ≠ .go g' w' es:=by
 intro e;have h':=Frame.eval_at (base f) ⟨ts,[]⟩ (.code (.cond c x y) :: k) c;simp only [Frame.at] at h';simp only [G,fra,stepG,stepG.exec,Frame.at,Bool.false_eq_true,if_false,h'] at e;generalize (Act.mk ts []).eval c=u at e hb;cases u <;> first | exact hb _ rfl | (simp at e)
theorem stepG_exit_bad {P:Program} {main:Bool} {f:FuncId} {ts:Array Value} {id:Nat} {k:List Item} {cs:List Frame} {w:World} {g':Goroutine} {w':World} {es:Array Event}
  (hb:exitTo id k=none):stepG P main (G (fra f ts (.code (.exit id) :: k) false) cs) w ≠ .go g' w' es:=by
 intro e;simp [G,fra,stepG,stepG.exec,Frame.at,hb,base] at e
theorem stepG_noOp {P:Program} {main:Bool} {f:FuncId} {ts:Array Value} {ops:Array Oper} {i:Nat} {rest:List Nat} {k:List Item} {cs:List Frame} {w:World} (ho:ops[i]?=none) :
  stepG P main (G (fra f ts (.inRegion ops (i :: rest) :: k) false) cs) w = .go (G (fra f ts (.inRegion ops rest :: k) false) cs) w #[]:=by
 simp [G,fra,stepG,stepG.exec,Frame.at,ho,Frame.finish]
theorem IL.exit {C:Ctx} {D:Nat→Bool} {id:Nat} {k k':List Item} (h:IL C D k k'):∀ {k2:List Item},exitTo id k=some k2→∃ k2',exitTo id k'=some k2'∧IL C D k2 k2':=by
 induction h with
 | nil=>intro k2 e; simp [exitTo] at e
 | @stop c k k0 _ h0 =>
  intro k2 e;have:exitTo id k0=some k2:=by simpa [exitTo] using e
  rw [h0] at this; cases this
 | part _ ih =>
  intro k2 e;obtain ⟨k2',h1,h2⟩:=ih (k2:=k2) (by simpa [exitTo] using e);exact ⟨k2',by simpa [exitTo] using h1,h2⟩
 | @cons x k k' h0 hk ih =>
  intro k2 e;cases x with
  | inBlock id' =>
   simp only [exitTo] at e ⊢;split at e
   ·cases e; rename_i hid; exact ⟨k',by rw [if_pos hid],hk⟩
   ·rename_i hid
    obtain ⟨k2',h1,h2⟩:=ih e;exact ⟨k2',by rw [if_neg hid]; exact h1,h2⟩
  | _=>obtain ⟨k2',h1,h2⟩:=ih (by simpa [exitTo] using e); exact ⟨k2',by simpa [exitTo] using h1,h2⟩
theorem stepG_refuse {P:Program} {main:Bool} {f:FuncId} {ts:Array Value} {s:String} {k:List Item} {cs:List Frame} {w:World} {g':Goroutine} {w':World} {es:Array Event} :
  stepG P main (G (fra f ts (.code (.refuse s) :: k) false) cs) w ≠ .go g' w' es:=by
 intro e;simp [G,fra,stepG,stepG.exec,Frame.at,base] at e
theorem stepSim (ok:CtxOk C) {X:List Frame} {bs:List Frame} {main:Bool} {f f':Frame} {L L':List Frame} {w v:World} (hf:FrR C r f f') (hl:LR C r X bs L L') (hw:WR C r w v) (ht:TE w v)
  {g':Goroutine} {w':World} {es:Array Event} (hs:stepG C.Px true (G f L) w = .go g' w' es) (hn:Nice g') (hnf:¬ (f.mode = .returning∧L=X)) :
  Answers C r X bs main f' L' w v g' w':=by
 cases hf with
 | @mk f ts ts' todo todo' m hF hv hk =>
  cases m with
  | true =>
   cases hl with
   | nil=>exact absurd ⟨rfl,rfl⟩ hnf
   | @cons c c' L1 L1' hc hl' =>
    obtain ⟨fn,bd,h1,h2⟩:=hF.body;have h1':C.P.funcs[f]?=some fn:=by rw [← h1]; exact hF.same
    have sim:=Sim.results fn (ok.res _ _ h1) hv w v #[] #[] hw ht (by simp);generalize hx:(results fn ts).runT C.Px w #[]=rx at sim;obtain ⟨R,es0⟩:=rx;have hrun:(results fn ts).run C.Px w=R:=by rw [← Sem.runT_fst _ _ _ #[],hx]
    cases R with
    | halt h wh=>exact absurd hs (stepG_leaveH (P:=C.Px) h1 hrun)
    | ok x w1 =>
     obtain ⟨y,v1,fs1,r1,e1,x1,hw1,ht1,hf1,q1⟩:=sim.1 _ _ _ rfl;have hrun1:(results fn ts').run C.P v = .ok y v1:=by rw [← Sem.runT_fst _ _ _ #[],e1]
     rw [stepG_leaveE (P:=C.Px) h1 hrun] at hs;cases hs;refine ⟨_,v1,_,r1,stepG_leaveE h1' hrun1,x1,hw1,ht1,fun f1 hf1'=>hf1 f1 ?_,.go ((hc.mono x1.le).finish q1) (hl'.mono x1.le)⟩;have:=mem_seen hf1';rw [Sem.events,e1] at this;exact this
  | false =>
   cases hk with
   | nil =>
    rw [fra_run,stepG_end] at hs;cases hs;exact Answers.still hw ht (by rw [fra_run,stepG_end] <;> rfl) (.mk true hF hv .nil) hl
   | stop h h0=>exact absurd hs stepG_refuse
   | part hk =>
    rw [fra_run,stepG_seq] at hs; cases hs;exact Answers.still hw ht (by rw [fra_run,stepG_seq] <;> rfl) (.mk false hF hv hk) hl
   | @cons x k k' hk0 hk1 =>
    have push:∀ {y:Item},okI C.tb C.F (C.D f) y=true→IL C (C.D f) (y :: k) (y :: k'):=fun h => .cons h hk1
    cases x with
    | code c =>
     cases c with
     | skip =>
      rw [fra_run,stepG_skip] at hs; cases hs;exact Answers.still hw ht (by rw [fra_run,stepG_skip] <;> rfl) (.mk false hF hv hk1) hl
     | ret =>
      rw [fra_run,stepG_ret'] at hs; cases hs;exact Answers.still hw ht (by rw [fra_run,stepG_ret'] <;> rfl) (.mk true hF hv (push rfl)) hl
     | seq a b =>
      rw [fra_run,stepG_seq] at hs; cases hs;simp only [okI,okC,Bool.and_eq_true] at hk0;exact Answers.still hw ht (by rw [fra_run,stepG_seq] <;> rfl) (.mk false hF hv (.cons hk0.1 (.cons hk0.2 hk1))) hl
     | block id b =>
      rw [fra_run,stepG_block] at hs; cases hs;exact Answers.still hw ht (by rw [fra_run,stepG_block] <;> rfl) (.mk false hF hv (.cons hk0 (.cons rfl hk1))) hl
     | loop b =>
      rw [fra_run,stepG_loop] at hs; cases hs;exact Answers.still hw ht (by rw [fra_run,stepG_loop] <;> rfl) (.mk false hF hv (.cons hk0 (.cons hk0 hk1))) hl
     | exit id =>
      cases he:exitTo id k with
      | none=>exact absurd hs (stepG_exit_bad he)
      | some k2 =>
       rw [fra_run,stepG_exit he] at hs; cases hs;obtain ⟨k2',he',hk2⟩:=hk1.exit he;exact Answers.still hw ht (by rw [fra_run,stepG_exit he'] <;> rfl) (.mk false hF hv hk2) hl
     | cond c a b =>
      simp only [okI,okC,Bool.and_eq_true] at hk0;have hc:VR C r ((Act.mk ts []).eval c) ((Act.mk ts' []).eval c):=by
       cases c with
       | tmp t=>exact hv.getD hk0.1.1 vr_undef
       | const u=>exact vr_flat hk0.1.1
       | global g=>cases hk0.1.1
       | func g=>exact .func hk0.1.1 rfl (fun i x y h=>by simp at h) rfl (fun i x y h=>by simp at h)
      by_cases hb:∃ t,(Act.mk ts []).eval c = .bool t
      ·obtain ⟨t,hb⟩:=hb
       rw [hb] at hc;have hb':(Act.mk ts' []).eval c = .bool t:=by generalize (Act.mk ts' []).eval c=u at hc; cases hc; rfl
       rw [fra_run,stepG_cond hb] at hs; cases hs;refine Answers.still hw ht (by rw [fra_run,stepG_cond hb'] <;> rfl) (.mk false hF hv (push ?_)) hl
       cases t
       ·exact hk0.2
       ·exact hk0.1.2
      ·exact absurd hs (stepG_cond_bad fun t e=>hb ⟨t,e⟩)
     | region id ops draw =>
      cases draw with
      | false =>
       rw [fra_run,stepG_region] at hs; cases hs;exact Answers.still hw ht (by rw [fra_run,stepG_region] <;> rfl) (.mk false hF hv (push hk0)) hl
      | true =>
       rw [fra_run,stepG_region_draw] at hs; cases hs;have e0:=ht 0 (.order f id);simp only [Nat.add_zero] at e0;have hst:stepG C.P main (G (fra f ts' (.code (.region id ops true) :: k') false) L') v = .go (G ((base f).at ⟨ts',[]⟩ (.inRegion ops (Region.schedule (C.P.follows .mixedOrders) ops (v.tape v.drawn (.order f id))) :: k')) L') { v with drawn:=v.drawn+1 } #[]:=by
        rw [fra_run,stepG_region_draw]; rfl
       refine ⟨G ((base f).at ⟨ts',[]⟩ (.inRegion ops (Region.schedule (C.P.follows .mixedOrders) ops (v.tape v.drawn (.order f id))) :: k')) L',{ v with drawn:=v.drawn+1 },#[],r,hst,⟨Sub.refl _,fun _ _ h => .inl h,fun i h=>absurd h (by simp),Nat.add_comm _ _,Nat.le_refl _,⟨1,rfl,rfl⟩,fun _ _ _=>rfl,fun _ _ _ _=>rfl,rfl,rfl,rfl,rfl,rfl,rfl⟩,
        ⟨hw.lt,hw.fn,hw.inj,hw.obj,hw.win,hw.winG,hw.glob,hw.big,hw.shz,hw.roLt,hw.noInfo⟩,ht.drew,by simp,?_⟩
       have e1:C.P.follows .mixedOrders=C.Px.follows .mixedOrders:=rfl;rw [show w.tape w.drawn (.order (base f).fn id)=v.tape v.drawn (.order f id) from e0,e1];exact .go (.mk false hF hv (push hk0)) hl
     | _=>cases hk0
    | inBlock id =>
     rw [fra_run,stepG_inBlock] at hs; cases hs;exact Answers.still hw ht (by rw [fra_run,stepG_inBlock] <;> rfl) (.mk false hF hv hk1) hl
    | inLoop b =>
     rw [fra_run,stepG_inLoop] at hs; cases hs;exact Answers.still hw ht (by rw [fra_run,stepG_inLoop] <;> rfl) (.mk false hF hv (.cons hk0 (.cons hk0 hk1))) hl
    | inRegion ops is =>
     cases is with
     | nil =>
      rw [fra_run,stepG_region_end] at hs; cases hs;exact Answers.still hw ht (by rw [fra_run,stepG_region_end] <;> rfl) (.mk false hF hv hk1) hl
     | cons i rest =>
      cases ho:ops[i]? with
      | none =>
       rw [stepG_noOp ho] at hs; cases hs;exact Answers.still hw ht (stepG_noOp ho) (.mk false hF hv (push hk0)) hl
      | some o =>
       have hy:=yielded_rel hv ops (by simp only [okI,Bool.and_eq_true] at hk0; exact hk0.2);cases hwn:Region.wanted o (yielded ops ts) with
       | true=>exact opSim ok hF hv hk0 hk1 hl hw ht ho hwn (by rw [← hy]; exact hwn) hs hn
       | false =>
        have hwn':Region.wanted o (yielded ops ts')=false:=by rw [← hy]; exact hwn
        have fin:∀ (k:List Item) (ts:Array Value),(fra f ts (.inRegion ops (i :: rest) :: k) false).finish undef=(base f).at ((Act.mk ts []).put o.dst undef) (.inRegion ops rest :: k):=fun k ts=>by
         rw [fra_run,Frame.finish_at,ho]; rfl
        rw [fra_run,stepG_unwanted ho hwn,← fin] at hs; cases hs;refine Answers.still hw ht (f1':=(fra f ts' (.inRegion ops (i :: rest) :: k') false).finish undef) ?_ ((FrR.mk false hF hv (push hk0)).finish vr_undef) hl;rw [fin,fra_run,stepG_unwanted ho hwn']
    | _=>cases hk0
end
end Rn
namespace Rn
open Go.Conc
def SLoc (P:Program) (g:Goroutine) (w:World) (g':Goroutine) (w':World):Prop :=
 ∃ n,w'.tape=w.tape∧w'.drawn=w.drawn+n∧∀ t' d',Agree n w.tape w.drawn t' d'→∃ es,stepG P true g (w.tp t' d') = .go g' (w'.tp t' (d'+n)) es
theorem SLoc.still {P:Program} {g g1 g':Goroutine} {w w':World} {es:Array Event} (h:∀ u,stepG P true g u = .go g1 u #[]) (hs:stepG P true g w = .go g' w' es):SLoc P g w g' w':=by
 rw [h] at hs;cases hs;exact ⟨0,rfl,rfl,fun t' d' _=>⟨_,h _⟩⟩
theorem SLoc.run {P:Program} {α:Type} {x:Sem α} {g:Goroutine} {w w1:World} {a:α} (hl:Loc P x w w.tape w.drawn #[]) (hx:x.run P w = .ok a w1) {g':Goroutine}
  (h:∀ u u1,x.run P u = .ok a u1→∃ es,stepG P true g u = .go g' u1 es):SLoc P g w g' w1:=by
 obtain ⟨n,R,es',h1,h2⟩:=hl;have e1:R.tp w.tape (w.drawn+n) = .ok a w1:=by
  have:=Sem.runT_fst P x w #[];rw [hx] at this;rw [show x.runT P w #[]=(R.tp w.tape (w.drawn+n),es') from h1] at this;exact this
 cases R with
 | halt hh wh=>cases e1
 | ok b u =>
  cases e1;refine ⟨n,rfl,rfl,fun t' d' ha => ?_⟩;refine h _ _ ?_;have:=Sem.runT_fst P x (w.tp t' d') #[];rw [h2 t' d' ha] at this;exact this.symm
section
variable {C : Ctx} {r r' : Ren}
theorem stepLoc (ok:CtxOk C) {X:List Frame} {bs:List Frame} {f f':Frame} {L L':List Frame} {w v:World} (hf:FrR C r f f') (hl:LR C r X bs L L') (hw:WR C r w v) (ht:TE w v)
  {g':Goroutine} {w':World} {es:Array Event} (hs:stepG C.Px true (G f L) w = .go g' w' es) (hn:Nice g') (hnf:¬ (f.mode = .returning∧L=X)):SLoc C.Px (G f L) w g' w':=by
 cases hf with
 | @mk f ts ts' todo todo' m hF hv hk =>
  cases m with
  | true =>
   cases hl with
   | nil=>exact absurd ⟨rfl,rfl⟩ hnf
   | @cons c c' L1 L1' hc hl' =>
    obtain ⟨fn,bd,h1,h2⟩:=hF.body;have sim:=Sim.results fn (ok.res _ _ h1) hv w v #[] #[] hw ht (by simp);cases hrun:(results fn ts).run C.Px w with
    | halt h wh=>exact absurd hs (stepG_leaveH (P:=C.Px) h1 hrun)
    | ok x w1 =>
     rw [stepG_leaveE (P:=C.Px) h1 hrun] at hs;cases hs;exact SLoc.run sim.2.2 hrun fun u u1 hu=>⟨_,stepG_leaveE (P:=C.Px) h1 hu⟩
  | false =>
   cases hk with
   | nil=>exact .still (fun u=>by rw [fra_run,stepG_end]) hs
   | stop h h0=>exact absurd hs stepG_refuse
   | part hk=>exact .still (fun u=>by rw [fra_run,stepG_seq]) hs
   | @cons x k k' hk0 hk1 =>
    cases x with
    | code c =>
     cases c with
     | skip=>exact .still (fun u=>by rw [fra_run,stepG_skip]) hs
     | ret=>exact .still (fun u=>by rw [fra_run,stepG_ret']) hs
     | seq a b=>exact .still (fun u=>by rw [fra_run,stepG_seq]) hs
     | block id b=>exact .still (fun u=>by rw [fra_run,stepG_block]) hs
     | loop b=>exact .still (fun u=>by rw [fra_run,stepG_loop]) hs
     | exit id =>
      cases he:exitTo id k with
      | none=>exact absurd hs (stepG_exit_bad he)
      | some k'=>exact .still (fun u=>by rw [fra_run,stepG_exit he]) hs
     | cond c a b =>
      by_cases hb:∃ t,(Act.mk ts []).eval c = .bool t
      ·obtain ⟨t,hb⟩:=hb
       exact .still (fun u=>by rw [fra_run,stepG_cond hb]) hs
      ·exact absurd hs (stepG_cond_bad fun t e=>hb ⟨t,e⟩)
     | region id ops draw =>
      cases draw with
      | false=>exact .still (fun u=>by rw [fra_run,stepG_region]) hs
      | true =>
       rw [fra_run,stepG_region_draw] at hs;cases hs;refine ⟨1,rfl,rfl,fun t' d' ha=>⟨#[],?_⟩⟩;have e0:=ha 0 (.order (base f).fn id) (by omega);simp only [Nat.add_zero] at e0;rw [fra_run,stepG_region_draw];rw [show (w.tp t' d').tape (w.tp t' d').drawn (.order (base f).fn id)=w.tape w.drawn (.order (base f).fn id) from e0.symm];rfl
     | _=>cases hk0
    | inBlock id=>exact .still (fun u=>by rw [fra_run,stepG_inBlock]) hs
    | inLoop b=>exact .still (fun u=>by rw [fra_run,stepG_inLoop]) hs
    | inRegion ops is =>
     cases is with
     | nil=>exact .still (fun u=>by rw [fra_run,stepG_region_end]) hs
     | cons i rest =>
      cases ho:ops[i]? with
      | none=>exact .still (fun u=>stepG_noOp ho) hs
      | some o =>
       cases hwn:Region.wanted o (yielded ops ts) with
       | false=>exact .still (fun u=>by rw [fra_run,stepG_unwanted ho hwn]) hs
       | true =>
        have hoo:okOp C.tb C.F (C.D f) o=true:=by
         simp only [okI,Bool.and_eq_true] at hk0;obtain ⟨hi,rfl⟩:=Array.getElem?_eq_some_iff.1 ho;exact List.all_eq_true.1 hk0.1 _ (by simp)
        have he:∀ x,okX C.F (C.D f) x=true→VR C r ((Act.mk ts []).eval x) ((Act.mk ts' []).eval x):=by
         intro x hx;cases x with
         | tmp t=>exact hv.getD hx vr_undef
         | const c=>exact vr_flat hx
         | global g=>cases hx
         | func g=>exact .func hx rfl (fun i x y h=>by simp at h) rfl (fun i x y h=>by simp at h)
        have sim:=simOp ok (fun h=>⟨f,h⟩) (fun g h=>⟨f,h⟩) hoo he (fun _=>rfl) (fun _=>rfl) w v #[] #[] hw ht (by simp);have hki:(base f).kind ≠ .early:=by simp [base]
        simp only [fra_run] at hs ⊢;cases hrun:(execOp (Act.mk ts []).eval o).run C.Px w with
        | halt h wh =>
         have hni:=sim.2.1 h wh _ (by rw [← hrun,← Sem.runT_fst _ _ _ #[]]);rw [stepG_oper ho hwn] at hs;exact (apply_halt rfl hrun (fun x e=>by subst e; simp [isInit] at hni) (fun m e=>by subst e; simp [isInit] at hni) (fun m e=>by subst e; simp [isInit] at hni) hs hn).elim
        | ok n w1 =>
         obtain ⟨n',v1,fs1,r1,e1,x1,hw1,ht1,hf1,q1⟩:=sim.1 n w1 ((execOp (Act.mk ts []).eval o).runT C.Px w #[]).2 (by rw [← hrun,← Sem.runT_fst _ _ _ #[]]);rcases q1.out with ⟨a,b,rfl,rfl,hab⟩ | ⟨rfl,rfl⟩ | ⟨fn,xs,ys,rfl,rfl,hF,hxy⟩ | ⟨c,c',sh,rfl,rfl,hC⟩;rotate_left 3
         ·rw [stepG_comm ho hwn hki hrun] at hs; cases hs
         ·rw [stepG_value ho hwn hki hrun] at hs
          cases hs;exact SLoc.run sim.2.2 hrun fun u u1 hu=>⟨_,stepG_value ho hwn hki hu⟩
         ·rw [stepG_none ho hwn hki hrun] at hs
          cases hs;exact SLoc.run sim.2.2 hrun fun u u1 hu=>⟨_,stepG_none ho hwn hki hu⟩
         ·rw [stepG_enter ho hwn hki hrun] at hs
          cases hs;exact SLoc.run sim.2.2 hrun fun u u1 hu=>⟨_,stepG_enter ho hwn hki hu⟩
    | _=>cases hk0
end
end Rn
namespace Rn
open Go.Conc
structure St where
 f:Frame
 L:List Frame
 w:World
def St.at (s:St) (t:Tp) (d:Nat):Machine:=lone s.f s.L (s.w.tp t d)
def LStep (P:Program) (s:St) (n N:Nat) (s':St) (t:Tp) (d:Nat):Prop:=∀ t' d',Agree n t d t' d'→runN P N (s.at t' d') = .next (s'.at t' (d'+n))
def Path (P:Program) (s:St) (n N:Nat) (s':St):Prop:=∃ t d,LStep P s n N s' t d
def glue (n:Nat) (t:Tp) (d:Nat) (t2:Tp) (d2:Nat):Tp:=fun i q=>if i<n then t (d+i) q else t2 (d2+(i - n)) q
theorem glue_left {n:Nat} {t t2 t':Tp} {d d2 d' m:Nat} (h:Agree (n+m) (glue n t d t2 d2) 0 t' d'):Agree n t d t' d':=fun i q hi=>by
 have:=h i q (by omega);rw [Nat.zero_add] at this;rw [← this,glue,if_pos hi]
theorem glue_right {n:Nat} {t t2 t':Tp} {d d2 d' m:Nat} (h:Agree (n+m) (glue n t d t2 d2) 0 t' d'):Agree m t2 d2 t' (d'+n):=fun i q hi=>by
 have:=h (n+i) q (by omega);rw [Nat.zero_add,glue,if_neg (by omega),Nat.add_sub_cancel_left] at this;rw [this,Nat.add_assoc]
theorem LStep.refl (P:Program) (s:St) (t:Tp) (d:Nat):LStep P s 0 0 s t d:=fun _ _ _=>rfl
theorem LStep.trans {P:Program} {s s1 s2:St} {n N m M:Nat} {t t2:Tp} {d d2:Nat} (h:LStep P s n N s1 t d) (k:LStep P s1 m M s2 t2 d2):LStep P s (n+m) (N+M) s2 (glue n t d t2 d2) 0:=fun t' d' ha=>by
 rw [runN_add,h t' d' (glue_left ha)];have:=k t' (d'+n) (glue_right ha);rw [← Nat.add_assoc];exact this
theorem Path.refl (P:Program) (s:St):Path P s 0 0 s:=⟨fun _ _=>0,0,LStep.refl _ _ _ _⟩
theorem Path.trans {P:Program} {s s1 s2:St} {n N m M:Nat} (h:Path P s n N s1) (k:Path P s1 m M s2):Path P s (n+m) (N+M) s2:=by
 obtain ⟨t,d,h⟩:=h;obtain ⟨t2,d2,k⟩:=k;exact ⟨_,_,h.trans k⟩
theorem Path.under {P:Program} {s s1:St} {n N:Nat} (h:Path P s n N s1) (t2:Tp) (d2:Nat):∃ t,runN P N (s.at t 0) = .next (s1.at t n)∧∀ i q,t (n+i) q=t2 (d2+i) q:=by
 obtain ⟨t,d,h⟩:=h;refine ⟨glue n t d t2 d2,?_,fun i q=>by rw [glue,if_neg (by omega),Nat.add_sub_cancel_left]⟩;have:=h (glue n t d t2 d2) 0 fun i q hi=>by rw [Nat.zero_add,glue,if_pos hi]
 rwa [Nat.zero_add] at this
theorem LStep.one {P:Program} {f f1:Frame} {L L1:List Frame} {w w1:World} (h:SLoc P (G f L) w (G f1 L1) w1):∃ n,LStep P ⟨f,L,w⟩ n 1 ⟨f1,L1,w1⟩ w.tape w.drawn∧w1.tape=w.tape∧w1.drawn=w.drawn+n:=by
 obtain ⟨n,e1,e2,h⟩:=h;refine ⟨n,fun t' d' ha => ?_,e1,e2⟩;obtain ⟨es,hs⟩:=h t' d' ha;have:step P (lone f L (w.tp t' d')) = .next (lone f1 L1 (w1.tp t' (d'+n))):=step_lone_go (by
  show (stepG P true (G f L) (w.tp t' d')).bare=_
  rw [hs]
  rfl)
 show runN P 1 (lone f L (w.tp t' d'))=_
 simp only [runN,this];rfl
def Term (P:Program) (s:St):Prop:=∀ t d,∃ K,∀ m,runN P K (s.at t d) ≠ .next m
def Rel (P:Program) (s' s:St):Prop:=∃ n N,1≤N∧Path P s n N s'
theorem runN_less {P:Program} {a b:Nat} {m m':Machine} (h:runN P b m = .next m') (hab:a≤b):∃ m1,runN P a m = .next m1:=by
 have:=runN_add P a (b - a) m;rw [show a+(b - a)=b by omega,h] at this;cases hr:runN P a m with
 | next m1=>exact ⟨m1,rfl⟩
 | ended o w=>rw [hr] at this; cases this
section
variable {P : Program}
structure Seg (P:Program) (s:St) where
 n:Nat
 N:Nat
 s':St
 t:Tp
 d:Nat
 pos:1≤N
 run:LStep P s n N s' t d
open Classical in
theorem acc_of_term {s0 : St} (h : Term P s0) : Acc (Rel P) s0 := by
  apply Classical.byContradiction
  intro hna
  have nxt : ∀ s : {s : St // ¬ Acc (Rel P) s}, ∃ g : Seg P s.1, ¬ Acc (Rel P) g.s' := by
    intro ⟨s, hs⟩
    apply Classical.byContradiction
    intro hno
    refine hs (Acc.intro s fun s' hr => ?_)
    apply Classical.byContradiction
    intro hs'
    obtain ⟨n, N, hN, t, d, hl⟩ := hr
    exact hno ⟨⟨n, N, s', t, d, hN, hl⟩, hs'⟩
  let seg : (s : {s : St // ¬ Acc (Rel P) s}) → Seg P s.1 := fun s => Classical.choose (nxt s)
  have segN : ∀ s, ¬ Acc (Rel P) (seg s).s' := fun s => Classical.choose_spec (nxt s)
  let st : Nat → {s : St // ¬ Acc (Rel P) s} := fun k => Nat.rec ⟨s0, hna⟩ (fun _ s => ⟨(seg s).s', segN s⟩) k
  have st1 : ∀ k, (st (k + 1)).1 = (seg (st k)).s' := fun k => rfl
  let D : Nat → Nat := fun k => Nat.rec 0 (fun j x => x + (seg (st j)).n) k
  let E : Nat → Nat := fun k => Nat.rec 0 (fun j x => x + (seg (st j)).N) k
  have D1 : ∀ k, D (k + 1) = D k + (seg (st k)).n := fun k => rfl
  have E1 : ∀ k, E (k + 1) = E k + (seg (st k)).N := fun k => rfl
  have Dm : ∀ j k, j ≤ k → D j ≤ D k := by
    intro j k hjk
    induction k with
    | zero => obtain rfl : j = 0 := by omega
              exact Nat.le_refl _
    | succ k ih =>
      by_cases e : j = k + 1
      · subst e; exact Nat.le_refl _
      · have := ih (by omega); rw [D1]; omega
  have Ek : ∀ k, k ≤ E k := by
    intro k
    induction k with
    | zero => exact Nat.zero_le _
    | succ k ih => rw [E1]; have := (seg (st k)).pos; omega
  have uniq : ∀ i j k, D j ≤ i → i < D (j + 1) → D k ≤ i → i < D (k + 1) → j = k := by
    intro i j k h1 h2 h3 h4
    rcases Nat.lt_trichotomy j k with hl | he | hg
    · have := Dm (j + 1) k hl; omega
    · exact he
    · have := Dm (k + 1) j hg; omega
  let T : Tp := fun i q => if hk : ∃ k, D k ≤ i ∧ i < D (k + 1) then (seg (st (Classical.choose hk))).t ((seg (st (Classical.choose hk))).d + (i - D (Classical.choose hk))) q else 0
  have ag : ∀ k, Agree (seg (st k)).n (seg (st k)).t (seg (st k)).d T (D k) := by
    intro k i q hi
    have hk : ∃ k', D k' ≤ D k + i ∧ D k + i < D (k' + 1) := ⟨k, by omega, by rw [D1]; omega⟩
    have e := Classical.choose_spec hk
    have ek := uniq _ _ k e.1 e.2 (Nat.le_add_right _ _) (by rw [D1]; omega)
    show _ = (if hk : ∃ k', D k' ≤ D k + i ∧ D k + i < D (k' + 1) then (seg (st (Classical.choose hk))).t ((seg (st (Classical.choose hk))).d + (D k + i - D (Classical.choose hk))) q else 0)
    rw [dif_pos hk, ek, Nat.add_sub_cancel_left]
  have run : ∀ k, runN P (E k) (s0.at T 0) = .next ((st k).1.at T (D k)) := by
    intro k
    induction k with
    | zero => rfl
    | succ k ih =>
      rw [E1, runN_add, ih, st1]
      exact (seg (st k)).run T (D k) (ag k)
  obtain ⟨K, hK⟩ := h T 0
  obtain ⟨m1, h1⟩ := runN_less (run K) (Ek K)
  exact hK m1 h1
end
end Rn
namespace Rn
open Go.Conc
def Xb : Frame := { (base 0).at ⟨#[], []⟩ [.code (.refuse "")] with defers := [⟨.nil, #[]⟩] }
theorem Xb_finish (v:Value):Xb.finish v=Xb:=rfl
theorem step_Xb (P:Program) (w:World) (m:Machine):step P (lone Xb [] w) ≠ .next m:=by
 intro e;have h:∃ o,(stepG P true { frame:=Xb,callers := [],status := .running,dying:=none } w).bare = .ended o w :=
  ⟨_,by simp [Xb,stepG,stepG.exec,Frame.at,base]; rfl⟩
 obtain ⟨o,h⟩:=h;rw [step_lone_ended h] at e;cases e
theorem step_Xb_pan (P:Program) (w:World) (chain:List PanicEntry) (m:Machine):step P (lone (Xb.raise chain) [] w) ≠ .next m:=by
 intro e;have h:∃ o,(stepG P true { frame:=Xb.raise chain,callers := [],status := .running,dying:=none } w).bare = .ended o w :=
  ⟨_,by simp [Xb,stepG,Frame.at,base,Frame.raise,unwind,callDeferred]; rfl⟩
 obtain ⟨o,h⟩:=h;rw [step_lone_ended h] at e;cases e
def StopF (f : Frame) : Prop := ∃ g ts k0, f = fra g ts (.code (.refuse "") :: k0) false
def Ends (P : Program) (b : Bool) (fr : Frame) (w : World) (v : Value) : Prop := (b = false ∧ fr.leaving P w (.returned v)) ∨ (b = true ∧ ∃ g ts k0, fr = fra g ts (.code (.refuse "") :: k0) false ∧ v = .tuple #[.int .i64 g, .tuple ts])
theorem Ends.mode {P:Program} {b:Bool} {fr:Frame} {w:World} {v:Value} (h:Ends P b fr w v):fr.mode = .returning ∨ fr.mode = .run:=by
 rcases h with ⟨_,h⟩ | ⟨_,g,ts,k0,rfl,_⟩
 ·exact .inl h.1
 ·exact .inr rfl
theorem Ends.fin {P:Program} {b:Bool} {fr:Frame} {w:World} {v:Value} (h:Ends P b fr w v):fr.mode = .returning ∨ StopF fr:=by
 rcases h with ⟨_,h⟩ | ⟨_,g,ts,k0,e,_⟩
 ·exact .inl h.1
 ·exact .inr ⟨g,ts,k0,e⟩
theorem step_stop {P : Program} {f : Frame} (h : StopF f) (L : List Frame) (w : World) (m : Machine) : step P (lone f L w) ≠ .next m := by
 obtain ⟨g, ts, k0, rfl⟩ := h;intro e;have h : ∃ o, (stepG P true { frame := fra g ts (.code (.refuse "") :: k0) false, callers := L, status := .running, dying := none } w).bare = .ended o w :=
  ⟨_, by simp [fra, stepG, stepG.exec, Frame.at, base]; rfl⟩
 obtain ⟨o, h⟩ := h;rw [step_lone_ended h] at e;cases e
def Res (P:Program) (R:Bool→Value→World→Prop) (s:St):Prop :=
 ∀ t d,∃ K b v w' fr,runN P K (s.at t d) = .next (lone fr [Xb] w')∧R b v w'∧Ends P b fr w' v
section
variable {P : Program} {R : Bool → Value → World → Prop}
theorem run_past {b:Bool} {fr:Frame} {w:World} {v:Value} (h:Ends P b fr w v) {k:Nat} {m:Machine} (hr:runN P k (lone fr [Xb] w) = .next m):(k=0∧m=lone fr [Xb] w) ∨ (k=1∧m=lone Xb [] w):=by
 rcases h with ⟨_,h⟩ | ⟨_,g,ts,k0,e,_⟩;rotate_left
 ·cases k with
  | zero=>cases hr; exact .inl ⟨rfl,rfl⟩
  | succ k =>
   simp only [runN] at hr;cases hs:step P (lone fr [Xb] w) with
   | next m1=>exact absurd hs (step_stop ⟨g,ts,k0,e⟩ _ _ _)
   | ended o w1=>rw [hs] at hr; cases hr
 match k with
 | 0=>cases hr; exact .inl ⟨rfl,rfl⟩
 | 1 =>
  simp only [runN,step_leave_returned h,Xb_finish] at hr;cases hr;exact .inr ⟨rfl,rfl⟩
 | k+2 =>
  simp only [runN,step_leave_returned h,Xb_finish] at hr;cases hs:step P (lone Xb [] w) with
  | next m1=>exact absurd hs (step_Xb P w m1)
  | ended o w1=>rw [hs] at hr; cases hr
theorem Res.term {s:St} (h:Res P R s):Term P s:=fun t d=>by
 obtain ⟨K,b,v,w',fr,h1,_,h3⟩:=h t d;refine ⟨K+2,fun m e => ?_⟩;rw [runN_add,h1] at e;rcases run_past h3 e with ⟨e1,_⟩ | ⟨e1,_⟩ <;> omega
theorem Res.acc {s:St} (h:Res P R s):Acc (Rel P) s:=acc_of_term h.term
theorem Res.ahead {s s1:St} {n N:Nat} (h:Res P R s) (hp:Path P s n N s1) (hL:s1.L ≠ []) (t2:Tp) (d2:Nat) :
  ∃ t,(∀ i q,t (n+i) q=t2 (d2+i) q)∧∃ K b v w' fr,runN P K (s1.at t n) = .next (lone fr [Xb] w')∧R b v w'∧Ends P b fr w' v:=by
 obtain ⟨t,ht,ha⟩:=hp.under t2 d2;refine ⟨t,ha,?_⟩;obtain ⟨K,b,v,w',fr,h1,h2,h3⟩:=h t 0;by_cases hK:N≤K
 ·refine ⟨K - N,b,v,w',fr,?_,h2,h3⟩
  have:=runN_add P N (K - N) (s.at t 0);rw [show N+(K - N)=K by omega,h1,ht] at this;exact this.symm
 ·have:=runN_add P K (N - K) (s.at t 0)
  rw [show K+(N - K)=N by omega,h1,ht] at this;rcases run_past h3 this.symm with ⟨e1,_⟩ | ⟨_,e2⟩
  ·omega
  ·unfold St.at lone at e2
   simp at e2;exact absurd e2.2.2 hL
theorem Res.of_calls {R:Value→World→Prop} {f:FuncId} {args:Array Value} {w:World} (h:∀ t d,Calls P f args (w.tp t d) fun e w'=>∃ v,e = .returned v∧R v w'):Res P (fun b v w=>b=false∧R v w) ⟨Frame.enter P f args .normal,[Xb],w⟩:=fun t d=>by
 obtain ⟨e,w',fr,⟨v,rfl,hr⟩,hs,_,hl⟩:=h t d [Xb];obtain ⟨K,hK⟩:Steps P _ _:=hs;exact ⟨K,false,v,w',fr,hK,⟨rfl,hr⟩,.inl ⟨rfl,hl⟩⟩
def PlainF (P:Program) (fr:Frame):Prop:=fr.defers = []∧(∃ fn,P.funcs[fr.fn]?=some fn)∧(fr.mode = .run ∨ fr.mode = .returning)
theorem pan_never {k:Nat}:∀ {cs:List Frame} {fr:Frame} {w:World} {chain:List PanicEntry},fr.mode = .panicking chain→fr.defers = []→(∃ fn,P.funcs[fr.fn]?=some fn)→(∀ c ∈ cs,PlainF P c) →
  ∀ {fr':Frame} {w':World},(fr'.mode = .returning ∨ fr'.mode = .run)→runN P k (lone fr (cs ++ [Xb]) w) ≠ .next (lone fr' [Xb] w'):=by
 induction k with
 | zero =>
  intro cs fr w chain hm hd hf hc fr' w' hr e;simp only [runN] at e;unfold lone at e;simp at e;obtain ⟨_,e2,_⟩:=e;rw [← e2,hm] at hr;rcases hr with hr | hr <;> cases hr
 | succ k ih =>
  intro cs fr w chain hm hd hf hc fr' w' hr e;obtain ⟨fn,hfn⟩:=hf;have hcat:fr.catches P=false:=by unfold Frame.catches; rw [hfn]
  cases cs with
  | nil =>
   have h1:step P (lone fr [Xb] w) = .next (lone (Xb.raise chain) [] w):=step_lone_go (by simp [stepG,hm,unwind,hd,hcat]);simp only [runN,List.nil_append,h1] at e;cases k with
   | zero =>
    simp only [runN] at e;unfold lone at e;simp at e
   | succ k =>
    simp only [runN] at e;cases hs:step P (lone (Xb.raise chain) [] w) with
    | next m1=>exact absurd hs (step_Xb_pan P w chain m1)
    | ended o w1=>rw [hs] at e; cases e
  | cons c cs =>
   have h1:step P (lone fr (c :: cs ++ [Xb]) w) = .next (lone (c.raise chain) (cs ++ [Xb]) w):=step_lone_go (by simp [stepG,hm,unwind,hd,hcat]);simp only [runN,h1] at e;obtain ⟨c1,c2,c3⟩:=hc c (by simp);have er:c.raise chain = { c with mode := .panicking chain }:=by
    unfold Frame.raise;rcases c3 with c3 | c3 <;> rw [c3]
   refine ih (chain:=chain) (fr:=c.raise chain) (cs:=cs) ?_ ?_ ?_ (fun x hx=>hc x (by simp [hx])) hr e
   ·rw [er]
   ·rw [er]; exact c1
   ·rw [er]; exact c2
end
end Rn
namespace Rn
open Go.Conc
def Form (P:Program) (f:Frame) (L:List Frame) (w:World):Prop :=
 (∃ f1 L1 w1 es,stepG P true (G f L) w = .go (G f1 L1) w1 es∧Nice (G f1 L1)) ∨
 (∃ f1 w1 es chain,stepG P true (G f L) w = .go (G f1 L) w1 es∧f1.mode = .panicking chain∧f1.defers=f.defers∧f1.fn=f.fn) ∨
 (∃ o w1,(stepG P true (G f L) w).bare = .ended o w1)
theorem Form.still {P:Program} {f f1:Frame} {L L1:List Frame} {w w1:World} {es:Array Event} (h:stepG P true (G f L) w = .go (G f1 L1) w1 es) (hm:f1.mode = .run ∨ f1.mode = .returning):Form P f L w := .inl ⟨f1,L1,w1,es,h,rfl,hm⟩
theorem apply_form {P:Program} {fr:Frame} {cs:List Frame} {s:Sem Next} {w wh:World} {h:Halt} (hm:fr.mode = .run) (hr:s.run P w = .halt h wh) (hi:isInit h=false) :
  (∃ f1 w1 es chain,stepG.apply P true fr cs none s w = .go (G f1 cs) w1 es∧f1.mode = .panicking chain∧f1.defers=fr.defers∧f1.fn=fr.fn) ∨ (∃ o w1,(stepG.apply P true fr cs none s w).bare = .ended o w1):=by
 have hx:(s.runT P w #[])=(.halt h wh,(s.runT P w #[]).2):=by rw [← hr,← Sem.runT_fst P s w #[]]
 unfold stepG.apply;rw [hx];cases h with
 | panic p =>
  left;simp only [if_true,GStep.after];refine ⟨_,_,_,[{ v:=p,recovered:=false }],rfl,?_,?_,?_⟩ <;> unfold Frame.raise <;> rw [hm]
 | goexit=>cases hi
 | blocked=>cases hi
 | waiting=>cases hi
 | fatal m=>cases hi
 | throw m=>cases hi
 | exit c=>cases hi
 | stuck c=>right; simp only [if_true,GStep.after]; exact ⟨_,_,rfl⟩
 | unsupported u =>
  right;cases u <;> first | (cases hi; done) | (simp only [if_true,GStep.after]; exact ⟨_,_,rfl⟩)
theorem stepG_leaveF {P:Program} {f:FuncId} {ts:Array Value} {todo:List Item} {cs:List Frame} {w w1:World} {fn:Func} {h:Halt} (hf:P.funcs[f]?=some fn) (hr:(results fn ts).run P w = .halt h w1) :
  ∃ o w2,(stepG P true (G (fra f ts todo true) cs) w).bare = .ended o w2:=by
 cases h <;> exact ⟨_,_,by simp [G,fra,stepG,unwind,Frame.at,base,hf,hr,GStep.after]; first | rfl | exact ⟨rfl,rfl⟩⟩
def CommStep (C:Ctx) (r:Ren) (f f':Frame) (w v:World):Prop :=
 ∃ (c c':CommCase) (sh:CommShape) (n:Nat) (w1 v1:World) (r1:Ren) (es':Array Event),f.mode = .run∧w1.tape=w.tape∧w1.drawn=w.drawn+n ∧
  (∀ Y t' d',Agree n w.tape w.drawn t' d'→∃ es,stepG C.Px true (G f Y) (w.tp t' d') = .comm (G f Y) #[c] true sh (w1.tp t' (d'+n)) es) ∧
  (∀ main Y,stepG C.P main (G f' Y) v = .comm (G f' Y) #[c'] true sh v1 es')∧Ext C r w v r1 w1 v1∧WR C r1 w1 v1∧TE w1 v1∧(∀ e ∈ es',EvOk C r1 e)∧CommR C r1 sh c c'
section
variable {C : Ctx} {r r' : Ren}
set_option maxHeartbeats 1000000 in
theorem stepForm (ok:CtxOk C) {X:List Frame} {bs:List Frame} {f f':Frame} {L L':List Frame} {w v:World} (hf:FrR C r f f') (hl:LR C r X bs L L') (hw:WR C r w v) (ht:TE w v)
  (hnf:¬ (f.mode = .returning∧L=X)) (hnc:¬ CommStep C r f f' w v):Form C.Px f L w:=by
 cases hf with
 | @mk f ts ts' todo todo' m hF hv hk =>
  cases m with
  | true =>
   cases hl with
   | nil=>exact absurd ⟨rfl,rfl⟩ hnf
   | @cons c c' L1 L1' hc hl' =>
    obtain ⟨fn,bd,h1,h2⟩:=hF.body;cases hrun:(results fn ts).run C.Px w with
    | halt h wh=>exact .inr (.inr (stepG_leaveF (P:=C.Px) h1 hrun))
    | ok x w1 =>
     refine .still (stepG_leaveE (P:=C.Px) h1 hrun) ?_;cases hc with
     | @mk f2 ts2 ts2' todo2 todo2' m2 a b c =>
      have:((fra f2 ts2 todo2 m2).finish x).mode=(fra f2 ts2 todo2 m2).mode:=by
       unfold Frame.finish;split <;> rfl
      rw [this];cases m2
      ·exact .inl rfl
      ·exact .inr rfl
  | false =>
   cases hk with
   | nil=>exact .still (by rw [fra_run,stepG_end]) (.inr rfl)
   | stop h h0=>exact .inr (.inr ⟨_,_,by simp [G,fra,stepG,stepG.exec,Frame.at,base]; first | rfl | exact ⟨rfl,rfl⟩⟩)
   | part hk=>exact .still (by rw [fra_run,stepG_seq]) (.inl rfl)
   | @cons x k k' hk0 hk1 =>
    cases x with
    | code c =>
     cases c with
     | skip=>exact .still (by rw [fra_run,stepG_skip]) (.inl rfl)
     | ret=>exact .still (by rw [fra_run,stepG_ret']) (.inr rfl)
     | seq a b=>exact .still (by rw [fra_run,stepG_seq]) (.inl rfl)
     | block id b=>exact .still (by rw [fra_run,stepG_block]) (.inl rfl)
     | loop b=>exact .still (by rw [fra_run,stepG_loop]) (.inl rfl)
     | exit id =>
      cases he:exitTo id k with
      | none=>exact .inr (.inr ⟨_,_,by simp [G,fra,stepG,stepG.exec,Frame.at,he,base]; first | rfl | exact ⟨rfl,rfl⟩⟩)
      | some k'=>exact .still (by rw [fra_run,stepG_exit he]) (.inl rfl)
     | cond c a b =>
      by_cases hb:∃ t,(Act.mk ts []).eval c = .bool t
      ·obtain ⟨t,hb⟩:=hb
       exact .still (by rw [fra_run,stepG_cond hb]) (.inl rfl)
      ·have hst:∃ o,(stepG C.Px true (G (fra f ts (.code (.cond c a b) :: k) false) L) w).bare = .ended o w:=by
        have h':=Frame.eval_at (base f) ⟨ts,[]⟩ (.code (.cond c a b) :: k) c;simp only [Frame.at] at h';simp only [G,fra,stepG,stepG.exec,Frame.at,Bool.false_eq_true,if_false,h'];generalize (Act.mk ts []).eval c=u at hb;cases u <;> first | exact absurd ⟨_,rfl⟩ hb | exact ⟨_,rfl⟩
       obtain ⟨o,hst⟩:=hst;exact .inr (.inr ⟨o,w,hst⟩)
     | region id ops draw =>
      cases draw with
      | false=>exact .still (by rw [fra_run,stepG_region]) (.inl rfl)
      | true=>exact .still (by rw [fra_run,stepG_region_draw]) (.inl rfl)
     | _=>cases hk0
    | inBlock id=>exact .still (by rw [fra_run,stepG_inBlock]) (.inl rfl)
    | inLoop b=>exact .still (by rw [fra_run,stepG_inLoop]) (.inl rfl)
    | inRegion ops is =>
     cases is with
     | nil=>exact .still (by rw [fra_run,stepG_region_end]) (.inl rfl)
     | cons i rest =>
      cases ho:ops[i]? with
      | none=>exact .still (stepG_noOp ho) (.inl rfl)
      | some o =>
       cases hwn:Region.wanted o (yielded ops ts) with
       | false=>exact .still (by rw [fra_run,stepG_unwanted ho hwn]) (.inl rfl)
       | true =>
        have hoo:okOp C.tb C.F (C.D f) o=true:=by
         simp only [okI,Bool.and_eq_true] at hk0;obtain ⟨hi,rfl⟩:=Array.getElem?_eq_some_iff.1 ho;exact List.all_eq_true.1 hk0.1 _ (by simp)
        have he:∀ x,okX C.F (C.D f) x=true→VR C r ((Act.mk ts []).eval x) ((Act.mk ts' []).eval x):=by
         intro x hx;cases x with
         | tmp t=>exact hv.getD hx vr_undef
         | const c=>exact vr_flat hx
         | global g=>cases hx
         | func g=>exact .func hx rfl (fun i x y h=>by simp at h) rfl (fun i x y h=>by simp at h)
        have sim:=simOp ok (fun h=>⟨f,h⟩) (fun g h=>⟨f,h⟩) hoo he (fun _=>rfl) (fun _=>rfl) w v #[] #[] hw ht (by simp);have hki:(base f).kind ≠ .early:=by simp [base]
        simp only [fra_run];cases hrun:(execOp (Act.mk ts []).eval o).run C.Px w with
        | halt h wh =>
         have hni:=sim.2.1 h wh _ (by rw [← hrun,← Sem.runT_fst _ _ _ #[]]);unfold Form;rw [stepG_oper ho hwn];exact .inr (apply_form rfl hrun hni)
        | ok n w1 =>
         obtain ⟨n',v1,fs1,r1,e1,x1,hw1,ht1,hf1,q1⟩:=sim.1 n w1 ((execOp (Act.mk ts []).eval o).runT C.Px w #[]).2 (by rw [← hrun,← Sem.runT_fst _ _ _ #[]]);rcases q1.out with ⟨a,b,rfl,rfl,hab⟩ | ⟨rfl,rfl⟩ | ⟨fn,xs,ys,rfl,rfl,hF,hxy⟩ | ⟨c,c',sh,rfl,rfl,hC⟩;rotate_left 3
         ·simp only [fra_run] at hnc
          refine absurd ?_ hnc;have hy:=yielded_rel hv ops (by simp only [okI,Bool.and_eq_true] at hk0; exact hk0.2);have hwr:Region.wanted o (yielded ops ts')=true:=by rw [← hy]; exact hwn
          have hrun1:(execOp (Act.mk ts' []).eval o).run C.P v = .ok (.comm #[c'] true sh) v1:=by rw [← Sem.runT_fst _ _ _ #[],e1]
          obtain ⟨n,R,es',h1,h2⟩:=sim.2.2;have eR:R.tp w.tape (w.drawn+n) = .ok (.comm #[c] true sh) w1:=by
           have:=Sem.runT_fst C.Px (execOp (Act.mk ts []).eval o) w #[];rw [hrun] at this;rw [show (execOp (Act.mk ts []).eval o).runT C.Px w #[]=(R.tp w.tape (w.drawn+n),es') from h1] at this;exact this
          cases R with
          | halt hh wh=>cases eR
          | ok b u =>
           cases eR;refine ⟨c,c',sh,n,u.tp w.tape (w.drawn+n),v1,r1,_,rfl,rfl,rfl,fun Y t' d' ha=>⟨_,stepG_comm ho hwn hki ?_⟩,fun main Y=>stepG_comm ho hwr hki hrun1,x1,hw1,ht1,fun f1 hm=>hf1 f1 ?_,hC⟩
           ·have:=Sem.runT_fst C.Px (execOp (Act.mk ts []).eval o) (w.tp t' d') #[]
            rw [h2 t' d' ha] at this;exact this.symm
           ·have:=mem_seen hm
            rw [Sem.events,e1] at this;exact this
         ·exact .still (stepG_value ho hwn hki hrun) (.inl rfl)
         ·exact .still (stepG_none ho hwn hki hrun) (.inl rfl)
         ·refine .still (stepG_enter ho hwn hki hrun) (.inl ?_)
          obtain ⟨⟨fc,h1,h2,h3⟩,_⟩:=ok.both hF;have h1':C.Px.funcs[fn]?=some fc:=h1;cases hb:fc.body with
          | none=>rw [hb] at h3; cases h3
          | some c=>rw [enter_at xs h1' hb]; rfl
    | _=>cases hk0
end
end Rn
namespace Rn
open Go.Conc
inductive Rdy:CommCase→CommShape→World→Value→World→Prop
 | send {c cap s r:Nat} {v z:Value} {w:World} {buf:Array Value} {tm:Bool}:w.heap[c]?=some (.chan cap buf false s r tm)→buf.size<cap→Rdy (scase c v z) .send w undef (w.setChan c cap (buf.push v) false (s+1) r tm)
 | recv {c cap s r:Nat} {z:Value} {w:World} {buf:Array Value} {tm cl:Bool} (ok:Bool):w.heap[c]?=some (.chan cap buf cl s r tm)→0<buf.size→Rdy (rcase c z) (.recv ok) w (got ok (buf.getD 0 undef) true) (w.setChan c cap (buf.extract 1 buf.size) cl s (r+1) tm)
 | shut {c cap s r:Nat} {z:Value} {w:World} {tm:Bool} (ok:Bool):w.heap[c]?=some (.chan cap #[] true s r tm)→Rdy (rcase c z) (.recv ok) w (got ok z false) w
theorem Rdy.lone {P:Program} {f:Frame} {L:List Frame} {w w1 w2:World} {es:Array Event} {c:CommCase} {sh:CommShape} {x:Value} (h:Rdy c sh w1 x w2) (hs:stepG P true (G f L) w = .comm (G f L) #[c] true sh w1 es) :
  step P (lone f L w) = .next (lone (f.finish x) L w2):=by
 rw [lone_eq_solo,lone_eq_solo];cases h with
 | send h1 h2=>exact step_lone_send_room hs h1 h2
 | recv ok h1 h2=>exact step_lone_recv_buf ok hs h1 h2
 | shut ok h1=>exact step_lone_recv_shut ok hs h1
theorem solo_blocked {P:Program} {g:Goroutine} {w:World} (hg:g.status = .blocked) (m:Machine):step P (solo g w) ≠ .next m:=by
 intro e;have:∃ o w',step P (solo g w) = .ended o w':=by
  simp [step,stepT,move,solo,ask,askOn,runnable,runnable.go,Goroutine.canRun,hg,due,ahead];generalize endWith w 2 _ _=q;cases q <;> exact ⟨_,_,rfl⟩
 obtain ⟨o,w',h⟩:=this;rw [h] at e;cases e
end Rn
end Go.Proofs.YtjcgklifabcfkaaGreat
