/-
  Texts that the law stands on, part 15.
-/
import Derived.Test.YtodneggnnipcnaaGreatH1
import Derived.Test.YtodneggnnipcnaaGreatH14
import Derived.Test.YtodneggnnipcnaaGreatH4
import Derived.Test.YtodneggnnipcnaaGreatH5
import Derived.Test.YtodneggnnipcnaaGreatH10
import Derived.Test.YtodneggnnipcnaaGreatProg
import Derived.KernelRfl
import Derived.WalkKit
import Derived.Outline
set_option maxRecDepth 100000
set_option linter.unusedVariables false
set_option linter.unusedSimpArgs false
namespace Go.Proofs.YtodneggnnipcnaaGreat
namespace Rn
open Go.Conc
def SLoc2 (P:Program) (f:Frame) (cs:List Frame) (w:World) (f1:Frame) (cs1:List Frame) (w':World):Prop :=
 ∃ n,w'.tape=w.tape∧w'.drawn=w.drawn+n∧∀ (Y:List Frame) t' d',Agree n w.tape w.drawn t' d'→∃ es,stepG P true (G f (cs ++ Y)) (w.tp t' d') = .go (G f1 (cs1 ++ Y)) (w'.tp t' (d'+n)) es
theorem SLoc2.still {P:Program} {X:List Frame} {f f1:Frame} {cs cs1:List Frame} {g':Goroutine} {w w':World} {es:Array Event} (h:∀ Y u,stepG P true (G f (cs ++ Y)) u = .go (G f1 (cs1 ++ Y)) u #[]) (hs:stepG P true (G f (cs ++ X)) w = .go g' w' es) :
  ∃ f1 cs1,g'=G f1 (cs1 ++ X)∧SLoc2 P f cs w f1 cs1 w':=by
 rw [h] at hs;cases hs;exact ⟨f1,cs1,rfl,0,rfl,rfl,fun Y t' d' _=>⟨_,h _ _⟩⟩
theorem SLoc2.run {P:Program} {α:Type} {x:Sem α} {f f1:Frame} {cs cs1:List Frame} {w w1:World} {a:α} (hl:Loc P x w w.tape w.drawn #[]) (hx:x.run P w = .ok a w1)
  (h:∀ Y u u1,x.run P u = .ok a u1→∃ es,stepG P true (G f (cs ++ Y)) u = .go (G f1 (cs1 ++ Y)) u1 es):SLoc2 P f cs w f1 cs1 w1:=by
 obtain ⟨n,R,es',h1,h2⟩:=hl;have e1:R.tp w.tape (w.drawn+n) = .ok a w1:=by
  have:=Sem.runT_fst P x w #[];rw [hx] at this;rw [show x.runT P w #[]=(R.tp w.tape (w.drawn+n),es') from h1] at this;exact this
 cases R with
 | halt hh wh=>cases e1
 | ok b u =>
  cases e1;refine ⟨n,rfl,rfl,fun Y t' d' ha => ?_⟩;refine h _ _ _ ?_;have:=Sem.runT_fst P x (w.tp t' d') #[];rw [h2 t' d' ha] at this;exact this.symm
section
variable {C : Ctx} {r r' : Ren}
theorem stepLoc2 (ok:CtxOk C) {X:List Frame} {f f':Frame} {cs:List Frame} {w v:World} (hf:FrR C r f f') (hw:WR C r w v) (ht:TE w v)
  {g':Goroutine} {w':World} {es:Array Event} (hs:stepG C.Px true (G f (cs ++ X)) w = .go g' w' es) (hn:Nice g') (hnf:¬ (f.mode = .returning∧cs = [])):∃ f1 cs1,g'=G f1 (cs1 ++ X)∧SLoc2 C.Px f cs w f1 cs1 w':=by
 cases hf with
 | @mk f ts ts' todo todo' m hF hv hk =>
  cases m with
  | true =>
   cases cs with
   | nil=>exact absurd ⟨rfl,rfl⟩ hnf
   | cons c L1 =>
    obtain ⟨fn,bd,h1,h2⟩:=hF.body;have sim:=Sim.results fn (ok.res _ _ h1) hv w v #[] #[] hw ht (by simp);cases hrun:(results fn ts).run C.Px w with
    | halt h wh=>exact absurd hs (stepG_leaveH (P:=C.Px) h1 hrun)
    | ok x w1 =>
     rw [List.cons_append,stepG_leaveE (P:=C.Px) h1 hrun] at hs;cases hs;exact ⟨_,L1,rfl,SLoc2.run sim.2.2 hrun fun Y u u1 hu=>⟨_,stepG_leaveE (P:=C.Px) h1 hu⟩⟩
  | false =>
   cases hk with
   | nil=>exact SLoc2.still (fun Y u=>by rw [fra_run,stepG_end]) hs
   | stop h h0=>exact absurd hs stepG_refuse
   | part hk=>exact SLoc2.still (fun Y u=>by rw [fra_run,stepG_seq]) hs
   | @cons x k k' hk0 hk1 =>
    cases x with
    | code c =>
     cases c with
     | skip=>exact SLoc2.still (fun Y u=>by rw [fra_run,stepG_skip]) hs
     | ret=>exact SLoc2.still (fun Y u=>by rw [fra_run,stepG_ret']) hs
     | seq a b=>exact SLoc2.still (fun Y u=>by rw [fra_run,stepG_seq]) hs
     | block id b=>exact SLoc2.still (fun Y u=>by rw [fra_run,stepG_block]) hs
     | loop b=>exact SLoc2.still (fun Y u=>by rw [fra_run,stepG_loop]) hs
     | exit id =>
      cases he:exitTo id k with
      | none=>exact absurd hs (stepG_exit_bad he)
      | some k'=>exact SLoc2.still (fun Y u=>by rw [fra_run,stepG_exit he]) hs
     | cond c a b =>
      by_cases hb:∃ t,(Act.mk ts []).eval c = .bool t
      ·obtain ⟨t,hb⟩:=hb
       exact SLoc2.still (fun Y u=>by rw [fra_run,stepG_cond hb]) hs
      ·exact absurd hs (stepG_cond_bad fun t e=>hb ⟨t,e⟩)
     | region id ops draw =>
      cases draw with
      | false=>exact SLoc2.still (fun Y u=>by rw [fra_run,stepG_region]) hs
      | true =>
       rw [fra_run,stepG_region_draw] at hs;cases hs;refine ⟨_,cs,rfl,1,rfl,rfl,fun Y t' d' ha=>⟨#[],?_⟩⟩;have e0:=ha 0 (.order (base f).fn id) (by omega);simp only [Nat.add_zero] at e0;rw [fra_run,stepG_region_draw];rw [show (w.tp t' d').tape (w.tp t' d').drawn (.order (base f).fn id)=w.tape w.drawn (.order (base f).fn id) from e0.symm];rfl
     | _=>cases hk0
    | inBlock id=>exact SLoc2.still (fun Y u=>by rw [fra_run,stepG_inBlock]) hs
    | inLoop b=>exact SLoc2.still (fun Y u=>by rw [fra_run,stepG_inLoop]) hs
    | inRegion ops is =>
     cases is with
     | nil=>exact SLoc2.still (fun Y u=>by rw [fra_run,stepG_region_end]) hs
     | cons i rest =>
      cases ho:ops[i]? with
      | none=>exact SLoc2.still (fun Y u=>stepG_noOp ho) hs
      | some o =>
       cases hwn:Region.wanted o (yielded ops ts) with
       | false=>exact SLoc2.still (fun Y u=>by rw [fra_run,stepG_unwanted ho hwn]) hs
       | true =>
        have hoo:okOp C.tb C.F (C.D f) o=true:=by
         simp only [okI,Bool.and_eq_true] at hk0;obtain ⟨hi,rfl⟩:=Array.getElem?_eq_some_iff.1 ho;exact List.all_eq_true.1 hk0.1 _ (by simp)
        have he:∀ x,okX C.F (C.D f) x=true→VR C r ((Act.mk ts []).eval x) ((Act.mk ts' []).eval x):=by
         intro x hx;cases x with
         | tmp t=>exact hv.getD hx vr_undef
         | const c=>exact vr_flat hx
         | global g=>cases hx
         | func g=>exact .func hx rfl (fun i x y h=>by simp at h) rfl (fun i x y h=>by simp at h)
        have sim:=simOp ok (fun g h=>⟨f,h⟩) hoo he (fun _=>rfl) (fun _=>rfl) w v #[] #[] hw ht (by simp);have hki:(base f).kind ≠ .early:=by simp [base]
        simp only [fra_run] at hs ⊢;cases hrun:(execOp (Act.mk ts []).eval o).run C.Px w with
        | halt h wh =>
         have hni:=sim.2.1 h wh _ (by rw [← hrun,← Sem.runT_fst _ _ _ #[]]);rw [stepG_oper ho hwn] at hs;exact (apply_halt rfl hrun (fun x e=>by subst e; simp [isInit] at hni) (fun m e=>by subst e; simp [isInit] at hni) (fun m e=>by subst e; simp [isInit] at hni) hs hn).elim
        | ok n w1 =>
         obtain ⟨n',v1,fs1,r1,e1,x1,hw1,ht1,hf1,q1⟩:=sim.1 n w1 ((execOp (Act.mk ts []).eval o).runT C.Px w #[]).2 (by rw [← hrun,← Sem.runT_fst _ _ _ #[]]);rcases q1.out with ⟨a,b,rfl,rfl,hab⟩ | ⟨rfl,rfl⟩ | ⟨fn,xs,ys,rfl,rfl,hF,hxy⟩
         ·rw [stepG_value ho hwn hki hrun] at hs
          cases hs;exact ⟨_,cs,rfl,SLoc2.run sim.2.2 hrun fun Y u u1 hu=>⟨_,stepG_value ho hwn hki hu⟩⟩
         ·rw [stepG_none ho hwn hki hrun] at hs
          cases hs;exact ⟨_,cs,rfl,SLoc2.run sim.2.2 hrun fun Y u u1 hu=>⟨_,stepG_none ho hwn hki hu⟩⟩
         ·rw [stepG_enter ho hwn hki hrun] at hs
          cases hs;exact ⟨_,_ :: cs,rfl,SLoc2.run sim.2.2 hrun fun Y u u1 hu=>⟨_,stepG_enter ho hwn hki hu⟩⟩
    | _=>cases hk0
end
end Rn
namespace Rn
open Go.Conc
section
variable {C : Ctx} {r r' : Ren}
theorem stepRun (ok:CtxOk C) {b:Bool} {fr:Frame} {w':World} {x:Value} (hlv:Ends C.Px b fr w' x) {K:Nat} {f f':Frame} {cs L':List Frame} {w v:World} {bs:List Frame} {main:Bool}
  (hf:FrR C r f f') (hl:LR C r [Xb] bs (cs ++ [Xb]) L') (hw:WR C r w v) (hT:TE w v) (hK:runN C.Px K (lone f (cs ++ [Xb]) w) = .next (lone fr [Xb] w')) :
  (K=0∧cs = []∧f=fr∧w=w') ∨
  ∃ k f1 cs1 w1,K=k+1∧¬ (f.mode = .returning∧cs = [])∧SLoc2 C.Px f cs w f1 cs1 w1∧runN C.Px k (lone f1 (cs1 ++ [Xb]) w1) = .next (lone fr [Xb] w')∧Answers C r [Xb] bs main f' L' w v (G f1 (cs1 ++ [Xb])) w1:=by
 have hcs:∀ c ∈ cs,PlainF C.Px c:=by
  obtain ⟨cs',e,h⟩:=hl.plain;obtain rfl:=List.append_cancel_right e;exact h
 by_cases h0:K=0
 ·subst h0
  simp only [runN] at hK;unfold lone at hK;simp at hK;obtain ⟨e1,e2,e3⟩:=hK;exact .inl ⟨rfl,e3,e2,e1⟩
 ·obtain ⟨k,rfl⟩:∃ k,K=k+1:=⟨K - 1,by omega⟩
  have hfin:¬ (f.mode = .returning∧cs = []):=by
   rintro ⟨hm,rfl⟩;cases hf with
   | @mk fid ts ts' todo todo' m2 hF hv hk =>
    cases m2 with
    | false=>cases hm
    | true =>
     obtain ⟨fn,bd,h1,h2⟩:=hF.body;cases hrun:(results fn ts).run C.Px w with
     | halt h wh =>
      obtain ⟨o,w2,he⟩:=stepG_leaveF (P:=C.Px) (todo:=todo) (cs := [Xb]) h1 hrun;simp only [runN,List.nil_append] at hK;rw [step_lone_ended he] at hK;cases hK
     | ok y w1 =>
      have hs:step C.Px (lone (fra fid ts todo true) [Xb] w) = .next (lone Xb [] w1):=step_lone_go (by
       show (stepG C.Px true (G (fra fid ts todo true) [Xb]) w).bare=_
       rw [stepG_leaveE (P:=C.Px) h1 hrun]
       rfl)
      simp only [runN,List.nil_append,hs] at hK;cases k with
      | zero=>simp only [runN] at hK; unfold lone at hK; simp at hK
      | succ k =>
       simp only [runN] at hK;cases hq:step C.Px (lone Xb [] w1) with
       | next m1=>exact absurd hq (step_Xb _ _ m1)
       | ended o w2=>rw [hq] at hK; cases hK
  have hnf:¬ (f.mode = .returning∧cs ++ [Xb] = [Xb]):=fun ⟨a,e⟩=>hfin ⟨a,by simpa using e⟩
  right;rcases stepForm ok hf hl hw hT hnf with ⟨f1,L1,w1,es,hs,hn⟩ | ⟨f1,w1,es,chain,hs,hm,hd,hfn⟩ | ⟨o,w1,hs⟩
  ·have hans:=stepSim (main:=main) ok hf hl hw hT hs hn hnf
   obtain ⟨f2,cs2,e2,hloc⟩:=stepLoc2 ok hf hw hT hs hn hfin;have h1:step C.Px (lone f (cs ++ [Xb]) w) = .next (lone f1 L1 w1):=step_lone_go (by
    show (stepG C.Px true (G f (cs ++ [Xb])) w).bare=_
    rw [hs]; rfl)
   have e3:f1=f2∧L1=cs2 ++ [Xb]:=by
    unfold G at e2;simpa using e2
   obtain ⟨rfl,rfl⟩:=e3;simp only [runN,h1] at hK;exact ⟨k,f1,cs2,w1,rfl,hfin,hloc,hK,hans⟩
  ·exfalso
   have h1:step C.Px (lone f (cs ++ [Xb]) w) = .next (lone f1 (cs ++ [Xb]) w1):=step_lone_go (by
    show (stepG C.Px true (G f (cs ++ [Xb])) w).bare=_
    rw [hs]; rfl)
   simp only [runN,h1] at hK;have hpf:f.defers = []∧∃ fn,C.Px.funcs[f.fn]?=some fn:=by
    cases hf with
    | mk m hF _ _ =>
     obtain ⟨fn,c,h1,_⟩:=hF.body;exact ⟨rfl,fn,h1⟩
   exact pan_never hm (hd.trans hpf.1) (by rw [hfn]; exact hpf.2) hcs hlv.mode hK
  ·exfalso
   simp only [runN] at hK;rw [step_lone_ended hs] at hK;cases hK
theorem LR.selfs {X:List Frame}:∀ {cs:List Frame},LR C r [Xb] X (cs ++ [Xb]) (cs ++ X)→∀ c ∈ cs,FrR C r c c
 | [],_,c,h=>by simp at h
 | c0 :: cs,h,c,hc=>by
  have key:∀ {A B:List Frame},LR C r [Xb] X A B→A=c0 :: (cs ++ [Xb])→B=c0 :: (cs ++ X)→FrR C r c0 c0∧LR C r [Xb] X (cs ++ [Xb]) (cs ++ X):=by
   intro A B hAB e1 e2;cases hAB with
   | nil=>simp at e1
   | cons a b =>
    simp only [List.cons.injEq] at e1 e2;obtain ⟨rfl,rfl⟩:=e1;obtain ⟨rfl,rfl⟩:=e2;exact ⟨a,b⟩
  obtain ⟨k1,k2⟩:=key h rfl rfl;rcases List.mem_cons.1 hc with rfl | hc
  ·exact k1
  ·exact LR.selfs k2 c hc
theorem LR.ofSelfs {X:List Frame}:∀ {cs:List Frame},(∀ c ∈ cs,FrR C r c c)→LR C r [Xb] X (cs ++ [Xb]) (cs ++ X)
 | [],_ => .nil
 | c :: cs,h => .cons (h c (by simp)) (LR.ofSelfs fun c hc=>h c (by simp [hc]))
theorem self_run (ok:CtxOk C) (hS:C.fs=C.fx) (hall:∀ f n,Entered C f n→Fine C f) {X:List Frame} {b:Bool} {fr:Frame} {w':World} {x:Value} (hlv:Ends C.Px b fr w' x) :
  ∀ (K:Nat) {r:Ren} {f:Frame} {cs:List Frame} {w:World},FrR C r f f→(∀ c ∈ cs,FrR C r c c)→WR C r w w→runN C.Px K (lone f (cs ++ [Xb]) w) = .next (lone fr [Xb] w') →
   ∃ n,LStep C.Px ⟨f,cs ++ X,w⟩ n K ⟨fr,X,w'⟩ w.tape w.drawn∧w'.tape=w.tape∧w'.drawn=w.drawn+n∧∃ r',Sub r r'∧FrR C r' fr fr∧WR C r' w' w':=by
 have hP:C.P=C.Px:=by unfold Ctx.P Ctx.Px; rw [hS]
 intro K;induction K with
 | zero =>
  intro r f cs w hf hcs hw hK;simp only [runN] at hK;unfold lone at hK;simp at hK;obtain ⟨rfl,rfl,rfl⟩:=hK;exact ⟨0,LStep.refl _ _ _ _,rfl,rfl,r,Sub.refl _,hf,hw⟩
 | succ K ih =>
  intro r f cs w hf hcs hw hK;rcases stepRun (main:=true) ok hlv hf (LR.ofSelfs (X:=X) hcs) hw (fun _ _=>rfl) hK with ⟨e,_⟩ | ⟨k,f1,cs1,w1,e,_,⟨n,t1,t2,hloc⟩,hK1,h',v',fs',r',hst,hext,hw1,_,_,hout⟩
  ·omega
  ·obtain rfl:K=k:=by omega
   obtain ⟨es,hs1⟩:=hloc X w.tape w.drawn (fun _ _ _=>rfl);have ew:w.tp w.tape w.drawn=w:=rfl;have ew1:w1.tp w.tape (w.drawn+n)=w1:=by rw [← t1,← t2]; rfl
   rw [ew,ew1] at hs1;rw [hP,hs1] at hst;simp only [GStep.go.injEq] at hst;obtain ⟨rfl,rfl,_⟩:=hst;have hself:FrR C r' f1 f1∧∀ c ∈ cs1,FrR C r' c c:=by
    generalize hA:G f1 (cs1 ++ [Xb])=A at hout;generalize hB:G f1 (cs1 ++ X)=B at hout;cases hout with
    | go a b =>
     unfold G at hA hB;simp at hA hB;obtain ⟨rfl,rfl⟩:=hA;obtain ⟨rfl,rfl⟩:=hB;exact ⟨a,b.selfs⟩
    | call hF hn _ _ _=>exact absurd (hall _ _ hF) hn
   obtain ⟨n2,hL,u1,u2,r2,s2,hfr,hwr⟩:=ih hself.1 hself.2 hw1 hK1;have h1:LStep C.Px ⟨f,cs ++ X,w⟩ n 1 ⟨f1,cs1 ++ X,w1⟩ w.tape w.drawn:=fun t' d' ha=>by
    obtain ⟨es',hs'⟩:=hloc X t' d' ha;show runN C.Px 1 (lone f (cs ++ X) (w.tp t' d'))=_
    have:step C.Px (lone f (cs ++ X) (w.tp t' d')) = .next (lone f1 (cs1 ++ X) (w1.tp t' (d'+n))):=step_lone_go (by
     show (stepG C.Px true (G f (cs ++ X)) (w.tp t' d')).bare=_
     rw [hs']
     rfl)
    simp only [runN,this];rfl
   refine ⟨n+n2,fun t' d' ha => ?_,u1.trans t1,by rw [u2,t2,Nat.add_assoc],r2,hext.le.trans s2,hfr,hwr⟩;rw [Nat.add_comm K 1,runN_add,h1 t' d' (fun i q hi=>ha i q (by omega))];have h2:=hL t' (d'+n) (fun i q hi=>by
    have:=ha (n+i) q (by omega);rw [t1,t2,Nat.add_assoc,this,Nat.add_assoc])
   rw [← Nat.add_assoc];exact h2
end
end Rn
namespace Rn
open Go.Conc
def Ahead (P:Program) (f:Frame) (L:List Frame) (w:World):Prop:=∃ K b fr w' x,runN P K (lone f L w) = .next (lone fr [Xb] w')∧Ends P b fr w' x
section
variable {P : Program} {f : Frame} {cs : List Frame} {w : World}
theorem Ahead.next (h:Ahead P f (cs ++ [Xb]) w) (hcs:cs ≠ []):∃ m,step P (lone f (cs ++ [Xb]) w) = .next m∧∃ K b fr w' x,runN P K m = .next (lone fr [Xb] w')∧Ends P b fr w' x:=by
 obtain ⟨K,b,fr,w',x,hK,he⟩:=h;cases K with
 | zero =>
  exfalso
  simp only [runN] at hK;unfold lone at hK;simp at hK;exact hcs hK.2.2
 | succ K =>
  simp only [runN] at hK;cases hs:step P (lone f (cs ++ [Xb]) w) with
  | next m=>rw [hs] at hK; exact ⟨m,rfl,K,b,fr,w',x,hK,he⟩
  | ended o w2=>rw [hs] at hK; cases hK
theorem Ahead.go (h:Ahead P f (cs ++ [Xb]) w) (hcs:cs ≠ []) {f1:Frame} {L1:List Frame} {w1:World} (hs:step P (lone f (cs ++ [Xb]) w) = .next (lone f1 L1 w1)):Ahead P f1 L1 w1:=by
 obtain ⟨m,e,K,b,fr,w',x,hK,he⟩:=h.next hcs;rw [hs] at e;cases e;exact ⟨K,b,fr,w',x,hK,he⟩
theorem Ahead.not_ended (h:Ahead P f (cs ++ [Xb]) w) (hcs:cs ≠ []) {o:Outcome} {w1:World} (hs:step P (lone f (cs ++ [Xb]) w) = .ended o w1):False:=by
 obtain ⟨m,e,_⟩:=h.next hcs;rw [hs] at e;cases e
end
section
variable {S : Ctx} {r : Ren}
theorem Ahead.op (ok:CtxOk S) (hS:S.fs=S.fx) {f:FuncId} {ts:Array Value} {ops:Array Oper} {i:Nat} {rest:List Nat} {k:List Item} {cs:List Frame} {w:World}
  (h:Ahead S.Px ((base f).at ⟨ts,[]⟩ (.inRegion ops (i :: rest) :: k)) (cs ++ [Xb]) w) (hcs:cs ≠ []) (hpl:∀ c ∈ cs,PlainF S.Px c) (hfn:∃ fn,S.Px.funcs[f]?=some fn) {o:Oper} (ho:ops[i]?=some o) (hwn:Region.wanted o (yielded ops ts)=true)
  (hoo:okOp S.tb S.F (S.D f) o=true) (hv:VAll S r ts ts) (hw:WR S r w w) :
  ∃ n w1 r1,(execOp (Act.mk ts []).eval o).run S.Px w = .ok n w1∧Sub r r1∧WR S r1 w1 w1 ∧
   ∀ v,n = .value v→VAll S r1 ((Act.mk ts []).put o.dst v).tmps ((Act.mk ts []).put o.dst v).tmps∧Ahead S.Px ((base f).at ((Act.mk ts []).put o.dst v) (.inRegion ops rest :: k)) (cs ++ [Xb]) w1:=by
 have hP:S.P=S.Px:=by unfold Ctx.P Ctx.Px; rw [hS]
 have he:∀ x,okX S.F (S.D f) x=true→VR S r ((Act.mk ts []).eval x) ((Act.mk ts []).eval x):=by
  intro x hx;cases x with
  | tmp t=>exact hv.getD t vr_undef
  | const c=>exact vr_flat hx
  | global g=>cases hx
  | func g=>exact .func hx rfl (fun i x y h=>by simp at h) rfl (fun i x y h=>by simp at h)
 have sim:=simOp ok (fun g h=>⟨f,h⟩) hoo he (fun _=>rfl) (fun _=>rfl) w w #[] #[] hw (fun _ _=>rfl) (by simp);have hki:(base f).kind ≠ .early:=by simp [base]
 cases hrun:(execOp (Act.mk ts []).eval o).run S.Px w with
 | halt hh wh =>
  exfalso
  have hni:=sim.2.1 hh wh ((execOp (Act.mk ts []).eval o).runT S.Px w #[]).2 (by rw [← hrun,← Sem.runT_fst _ _ _ #[]]);have hst:stepG S.Px true (G ((base f).at ⟨ts,[]⟩ (.inRegion ops (i :: rest) :: k)) (cs ++ [Xb])) w=_:=stepG_oper ho hwn;rcases apply_form (P:=S.Px) (cs:=cs ++ [Xb]) (fr:=(base f).at ⟨ts,[]⟩ (.inRegion ops (i :: rest) :: k)) rfl hrun hni with ⟨f1,w1,es,chain,hs,hm,hd,hf1⟩ | ⟨oo,w1,hs⟩
  ·rw [hs] at hst
   obtain ⟨K,b,fr,w',x,hK,hend⟩:=h.go hcs (step_lone_go (by
    show (stepG S.Px true (G ((base f).at ⟨ts,[]⟩ (.inRegion ops (i :: rest) :: k)) (cs ++ [Xb])) w).bare=_
    rw [hst]; rfl):step S.Px (lone ((base f).at ⟨ts,[]⟩ (.inRegion ops (i :: rest) :: k)) (cs ++ [Xb]) w) = .next (lone f1 (cs ++ [Xb]) w1))
   exact pan_never hm hd (by rw [hf1]; exact hfn) hpl hend.mode hK
  ·rw [← hst] at hs
   exact h.not_ended hcs (step_lone_ended hs)
 | ok n w1 =>
  obtain ⟨n',v1,fs1,r1,e1,x1,hw1,_,_,q1⟩:=sim.1 n w1 ((execOp (Act.mk ts []).eval o).runT S.Px w #[]).2 (by rw [← hrun,← Sem.runT_fst _ _ _ #[]]);have hrun1:(execOp (Act.mk ts []).eval o).run S.P w = .ok n' v1:=by rw [← Sem.runT_fst _ _ _ #[],e1]
  rw [hP,hrun] at hrun1;cases hrun1;refine ⟨n,w1,r1,rfl,x1.le,hw1,?_⟩;rintro v rfl;have hvr:VR S r1 v v:=q1;have hst:stepG S.Px true (G ((base f).at ⟨ts,[]⟩ (.inRegion ops (i :: rest) :: k)) (cs ++ [Xb])) w=_:=stepG_value ho hwn hki hrun;refine ⟨?_,h.go hcs (step_lone_go (by
   show (stepG S.Px true (G ((base f).at ⟨ts,[]⟩ (.inRegion ops (i :: rest) :: k)) (cs ++ [Xb])) w).bare=_
   rw [hst]; rfl))⟩
  unfold Act.put;cases o.dst with
  | none=>exact hv.mono x1.le
  | some d=>exact (hv.mono x1.le).set d hvr
end
end Rn
end Go.Proofs.YtodneggnnipcnaaGreat
section
namespace Go.Proofs.Tryzx
def rd3 : Code := (.region 7 #[{ dst := some 9, op := .call { callee := .value (.func 101), args := #[.tmp 0], argTypes := #[125] }, type := 81, pos := "", after := #[], guard := none }] false)
def rd4 : Code := (.region 8 #[{ dst := some 10, op := .call { callee := .builtin .append, args := #[.const (.slice none 0 0), .tmp 9], argTypes := #[81, 81] }, type := 81, pos := "", after := #[], guard := none }] false)
def bodyX : Code := .seq (.seq (.region 0 #[{ dst := some 1, op := .move (.const (.int .i64 0)), type := 3, pos := "", after := #[], guard := none }, { dst := some 2, op := .call { callee := .builtin .len, args := #[.tmp 0], argTypes := #[125] }, type := 3, pos := "", after := #[], guard := none }, { dst := some 3, op := .binOp .lss 3 (.tmp 2) (.const (.int .i64 1048577)) 3, type := 4, pos := "", after := #[{ on := 1, ground := .data }], guard := none }] false) (.seq (.cond (.tmp 3) .skip (.exit 9)) (.seq (.block 0 (.loop (.seq (.region 1 #[{ dst := some 4, op := .binOp .lss 3 (.tmp 1) (.tmp 2) 3, type := 4, pos := "", after := #[], guard := none }] false) (.seq (.cond (.tmp 4) .skip (.exit 0)) (.seq (.region 2 #[{ dst := some 5, op := .indexAddr 125 (.tmp 0) (.tmp 1), type := 0, pos := "", after := #[], guard := none }, { dst := some 6, op := .fieldAddr 168 (.tmp 5) 0, type := 0, pos := "", after := #[{ on := 0, ground := .data }], guard := none }, { dst := some 7, op := .load 3 (.tmp 6), type := 3, pos := "", after := #[{ on := 1, ground := .data }], guard := none }, { dst := some 8, op := .binOp .mul 3 (.tmp 7) (.const (.int .i64 1)) 3, type := 3, pos := "", after := #[{ on := 2, ground := .data }], guard := none }] false) (.seq (.region 3 #[{ dst := some 5, op := .indexAddr 125 (.tmp 0) (.tmp 1), type := 0, pos := "", after := #[], guard := none }, { dst := some 6, op := .fieldAddr 168 (.tmp 5) 1, type := 0, pos := "", after := #[{ on := 0, ground := .data }], guard := none }, { dst := some 7, op := .load 3 (.tmp 6), type := 3, pos := "", after := #[{ on := 1, ground := .data }], guard := none }, { dst := some 8, op := .binOp .mul 3 (.tmp 7) (.const (.int .i64 1)) 3, type := 3, pos := "", after := #[{ on := 2, ground := .data }], guard := none }] false) (.seq (.region 4 #[{ dst := some 5, op := .indexAddr 125 (.tmp 0) (.tmp 1), type := 0, pos := "", after := #[], guard := none }, { dst := some 6, op := .fieldAddr 168 (.tmp 5) 2, type := 0, pos := "", after := #[{ on := 0, ground := .data }], guard := none }, { dst := some 7, op := .load 3 (.tmp 6), type := 3, pos := "", after := #[{ on := 1, ground := .data }], guard := none }, { dst := some 8, op := .binOp .mul 3 (.tmp 7) (.const (.int .i64 1)) 3, type := 3, pos := "", after := #[{ on := 2, ground := .data }], guard := none }] false) (.seq (.region 5 #[{ dst := some 5, op := .indexAddr 125 (.tmp 0) (.tmp 1), type := 0, pos := "", after := #[], guard := none }, { dst := some 6, op := .fieldAddr 168 (.tmp 5) 3, type := 0, pos := "", after := #[{ on := 0, ground := .data }], guard := none }, { dst := some 7, op := .load 3 (.tmp 6), type := 3, pos := "", after := #[{ on := 1, ground := .data }], guard := none }, { dst := some 8, op := .binOp .mul 3 (.tmp 7) (.const (.int .i64 1)) 3, type := 3, pos := "", after := #[{ on := 2, ground := .data }], guard := none }] false) (.region 6 #[{ dst := some 1, op := .binOp .add 3 (.tmp 1) (.const (.int .i64 1)) 3, type := 3, pos := "", after := #[], guard := none }] false))))))))) (.seq (.region 9 #[{ dst := some 11, op := .binOp .eql 3 (.tmp 2) (.const (.int .i64 0)) 3, type := 4, pos := "", after := #[], guard := none }] false) (.cond (.tmp 11) (.seq (.region 10 #[{ dst := some 12, op := .binOp .eql 125 (.tmp 0) (.const (.slice none 0 0)) 125, type := 4, pos := "", after := #[], guard := none }] false) (.cond (.tmp 12) .skip (.exit 9))) .skip))))) (.seq (.region 7 #[{ dst := some 9, op := .call { callee := .value (.func 101), args := #[.tmp 0], argTypes := #[125] }, type := 81, pos := "", after := #[], guard := none }] false) (.seq (.region 8 #[{ dst := some 10, op := .call { callee := .builtin .append, args := #[.const (.slice none 0 0), .tmp 9], argTypes := #[81, 81] }, type := 81, pos := "", after := #[], guard := none }] false) .ret))
noncomputable def f92 : Func := { name := Tryz.f92.name, origin := "", params := #[125], resultTypes := #[81], nfree := 0, ntmps := 13, results := #[.tmp 10], body := some bodyX, norace := false, tmpNames := #[] }
noncomputable def funcs:Array Func :=
(([Tryz.f0,Tryz.f1,Tryz.f2,Tryz.f3,Tryz.f4,Tryz.f5,
      Tryz.f6,Tryz.f7,Tryz.f8,Tryz.f9,Tryz.f10,
      Tryz.f11,Tryz.f12,Tryz.f13,Tryz.f14,Tryz.f15,
      Tryz.f16,Tryz.f17,Tryz.f18,Tryz.f19,Tryz.f20,
      Tryz.f21,Tryz.f22,Tryz.f23,Tryz.f24,Tryz.f25,
      Tryz.f26,Tryz.f27,Tryz.f28,Tryz.f29,Tryz.f30,
      Tryz.f31,Tryz.f32,Tryz.f33,Tryz.f34,Tryz.f35,
      Tryz.f36,Tryz.f37,Tryz.f38,Tryz.f39,Tryz.f40,
      Tryz.f41,Tryz.f42,Tryz.f43,Tryz.f44,Tryz.f45,
      Tryz.f46,Tryz.f47,Tryz.f48,Tryz.f49].append
    [Tryz.f50,Tryz.f51,Tryz.f52,Tryz.f53,Tryz.f54,
     Tryz.f55,Tryz.f56,Tryz.f57,Tryz.f58,Tryz.f59,
     Tryz.f60,Tryz.f61,Tryz.f62,Tryz.f63,Tryz.f64,
     Tryz.f65,Tryz.f66,Tryz.f67,Tryz.f68,Tryz.f69,
     Tryz.f70,Tryz.f71,Tryz.f72,Tryz.f73,Tryz.f74,
     Tryz.f75,Tryz.f76,Tryz.f77,Tryz.f78,Tryz.f79,
     Tryz.f80,Tryz.f81,Tryz.f82,Tryz.f83,Tryz.f84,
     Tryz.f85,Tryz.f86,Tryz.f87,Tryz.f88,Tryz.f89,
     Tryz.f90,Tryz.f91,f92,Tryz.f93,Tryz.f94,
     Tryz.f95,Tryz.f96,Tryz.f97,Tryz.f98,Tryz.f99,
     Tryz.f100]).append
  ([Tryz.f101,Tryz.f102,Tryz.f103,Tryz.f104,Tryz.f105,
     Tryz.f106,Tryz.f107,Tryz.f108,Tryz.f109,Tryz.f110,
     Tryz.f111,Tryz.f112,Tryz.f113,Tryz.f114,Tryz.f115,
     Tryz.f116,Tryz.f117,Tryz.f118,Tryz.f119,Tryz.f120,
     Tryz.f121,Tryz.f122,Tryz.f123,Tryz.f124,Tryz.f125,
     Tryz.f126,Tryz.f127,Tryz.f128,Tryz.f129,Tryz.f130,
     Tryz.f131,Tryz.f132,Tryz.f133,Tryz.f134,Tryz.f135,
     Tryz.f136,Tryz.f137,Tryz.f138,Tryz.f139,Tryz.f140,
     Tryz.f141,Tryz.f142,Tryz.f143,Tryz.f144,Tryz.f145,
     Tryz.f146,Tryz.f147,Tryz.f148,Tryz.f149,Tryz.f150,
     Tryz.f151].append
   [Tryz.f152,Tryz.f153,Tryz.f154,Tryz.f155,Tryz.f156,
    Tryz.f157,Tryz.f158,Tryz.f159,Tryz.f160,Tryz.f161,
    Tryz.f162,Tryz.f163,Tryz.f164,Tryz.f165,Tryz.f166,
    Tryz.f167,Tryz.f168,Tryz.f169,Tryz.f170,Tryz.f171,
    Tryz.f172,Tryz.f173,Tryz.f174,Tryz.f175,Tryz.f176,
    Tryz.f177,Tryz.f178,Tryz.f179,Tryz.f180,Tryz.f181,
    Tryz.f182,Tryz.f183,Tryz.f184,Tryz.f185,Tryz.f186,
    Tryz.f187,Tryz.f188,Tryz.f189,Tryz.f190,Tryz.f191,
    Tryz.f192,Tryz.f193,Tryz.f194,Tryz.f195,Tryz.f196,
    Tryz.f197,Tryz.f198,Tryz.f199,Tryz.f200,Tryz.f201,
    Tryz.f202])).toArray
noncomputable def prog:Program := { toTables:=Tryz.progTables,funcs:=funcs }
theorem under_tb {p q:Program} (h:p.toTables=q.toTables) (t:TypeId):p.underlying t=q.underlying t:=by
 cases p; cases q; simp only at h; subst h; rfl
theorem depth_tb {p q:Program} (h:p.toTables=q.toTables):p.depth=q.depth:=by
 cases p; cases q; simp only at h; subst h; rfl
theorem tables_eq:prog.toTables=Tryz.prog.toTables:=rfl
@[simp] theorem info_x (t:TypeId):prog.info? t=Tryz.prog.info? t:=rfl
@[simp] theorem underlying_x (t:TypeId):prog.underlying t=Tryz.prog.underlying t:=under_tb tables_eq t
@[simp] theorem depth_x:prog.depth=Tryz.prog.depth:=depth_tb tables_eq
@[simp] theorem run_underlying_x (t:TypeId) (w:World):Sem.run prog (underlying t) w=Sem.run Tryz.prog (underlying t) w:=by
 simp only [underlying,program,Bind.bind,Sem.bind,Sem.run,underlying_x];cases Tryz.prog.underlying t <;> rfl
@[simp] theorem sizeOf_x (t:TypeId) (w:World):Sem.run prog (sizeOf t) w=Sem.run Tryz.prog (sizeOf t) w:=by
 simp only [sizeOf,typeInfo,program,Bind.bind,Sem.bind,Sem.run,info_x];cases Tryz.prog.info? t <;> rfl
@[simp] theorem isAgg_x (t:TypeId) (w:World):Sem.run prog (isAgg t) w=Sem.run Tryz.prog (isAgg t) w:=by
 simp only [isAgg,underlying,program,Bind.bind,Sem.bind,Sem.run,underlying_x];cases Tryz.prog.underlying t with
 | none=>rfl
 | some d=>cases d <;> rfl
@[simp] theorem zeroValue_x (t:TypeId) (w:World):Sem.run prog (zeroValue t) w=Sem.run Tryz.prog (zeroValue t) w:=by
 simp only [zeroValue,typeInfo,program,Bind.bind,Sem.bind,Sem.run,info_x];cases Tryz.prog.info? t with
 | none=>rfl
 | some i=>cases h:i.zero <;> simp [h,Sem.bind,Sem.run,pure,unsupported]
@[simp] theorem eqGuardType_x:∀ (d:Nat) (t:TypeId),prog.eqGuardType d t=Tryz.prog.eqGuardType d t
 | 0,_=>rfl
 | d+1,t=>by
  unfold Program.eqGuardType;simp only [underlying_x,eqGuardType_x d]
theorem func9:prog.funcs[9]?=some Tryz.f9:=by kernel_rfl
theorem func10:prog.funcs[10]?=some Tryz.f10:=by kernel_rfl
theorem func12:prog.funcs[12]?=some Tryz.f12:=by kernel_rfl
theorem func13:prog.funcs[13]?=some Tryz.f13:=by kernel_rfl
theorem func15:prog.funcs[15]?=some Tryz.f15:=by kernel_rfl
theorem func16:prog.funcs[16]?=some Tryz.f16:=by kernel_rfl
theorem func19:prog.funcs[19]?=some Tryz.f19:=by kernel_rfl
theorem func21:prog.funcs[21]?=some Tryz.f21:=by kernel_rfl
theorem func23:prog.funcs[23]?=some Tryz.f23:=by kernel_rfl
theorem func26:prog.funcs[26]?=some Tryz.f26:=by kernel_rfl
theorem func27:prog.funcs[27]?=some Tryz.f27:=by kernel_rfl
theorem func29:prog.funcs[29]?=some Tryz.f29:=by kernel_rfl
theorem func31:prog.funcs[31]?=some Tryz.f31:=by kernel_rfl
theorem func34:prog.funcs[34]?=some Tryz.f34:=by kernel_rfl
theorem func37:prog.funcs[37]?=some Tryz.f37:=by kernel_rfl
theorem func38:prog.funcs[38]?=some Tryz.f38:=by kernel_rfl
theorem func39:prog.funcs[39]?=some Tryz.f39:=by kernel_rfl
theorem func43:prog.funcs[43]?=some Tryz.f43:=by kernel_rfl
theorem func44:prog.funcs[44]?=some Tryz.f44:=by kernel_rfl
theorem func50:prog.funcs[50]?=some Tryz.f50:=by kernel_rfl
theorem func51:prog.funcs[51]?=some Tryz.f51:=by kernel_rfl
theorem func53:prog.funcs[53]?=some Tryz.f53:=by kernel_rfl
theorem func54:prog.funcs[54]?=some Tryz.f54:=by kernel_rfl
theorem func56:prog.funcs[56]?=some Tryz.f56:=by kernel_rfl
theorem func57:prog.funcs[57]?=some Tryz.f57:=by kernel_rfl
theorem func63:prog.funcs[63]?=some Tryz.f63:=by kernel_rfl
theorem func64:prog.funcs[64]?=some Tryz.f64:=by kernel_rfl
theorem func65:prog.funcs[65]?=some Tryz.f65:=by kernel_rfl
theorem func69:prog.funcs[69]?=some Tryz.f69:=by kernel_rfl
theorem func72:prog.funcs[72]?=some Tryz.f72:=by kernel_rfl
theorem func74:prog.funcs[74]?=some Tryz.f74:=by kernel_rfl
theorem func79:prog.funcs[79]?=some Tryz.f79:=by kernel_rfl
theorem func80:prog.funcs[80]?=some Tryz.f80:=by kernel_rfl
theorem func83:prog.funcs[83]?=some Tryz.f83:=by kernel_rfl
theorem func89:prog.funcs[89]?=some Tryz.f89:=by kernel_rfl
theorem func90:prog.funcs[90]?=some Tryz.f90:=by kernel_rfl
theorem func91:prog.funcs[91]?=some Tryz.f91:=by kernel_rfl
theorem func92:prog.funcs[92]?=some f92:=by kernel_rfl
theorem func93:prog.funcs[93]?=some Tryz.f93:=by kernel_rfl
theorem func96:prog.funcs[96]?=some Tryz.f96:=by kernel_rfl
theorem func97:prog.funcs[97]?=some Tryz.f97:=by kernel_rfl
theorem func98:prog.funcs[98]?=some Tryz.f98:=by kernel_rfl
theorem func99:prog.funcs[99]?=some Tryz.f99:=by kernel_rfl
theorem func100:prog.funcs[100]?=some Tryz.f100:=by kernel_rfl
theorem func101:prog.funcs[101]?=some Tryz.f101:=by kernel_rfl
theorem func102:prog.funcs[102]?=some Tryz.f102:=by kernel_rfl
theorem func103:prog.funcs[103]?=some Tryz.f103:=by kernel_rfl
theorem func105:prog.funcs[105]?=some Tryz.f105:=by kernel_rfl
theorem func108:prog.funcs[108]?=some Tryz.f108:=by kernel_rfl
theorem func114:prog.funcs[114]?=some Tryz.f114:=by kernel_rfl
theorem func115:prog.funcs[115]?=some Tryz.f115:=by kernel_rfl
theorem func116:prog.funcs[116]?=some Tryz.f116:=by kernel_rfl
theorem func123:prog.funcs[123]?=some Tryz.f123:=by kernel_rfl
theorem func124:prog.funcs[124]?=some Tryz.f124:=by kernel_rfl
theorem func125:prog.funcs[125]?=some Tryz.f125:=by kernel_rfl
theorem func126:prog.funcs[126]?=some Tryz.f126:=by kernel_rfl
theorem func127:prog.funcs[127]?=some Tryz.f127:=by kernel_rfl
theorem func128:prog.funcs[128]?=some Tryz.f128:=by kernel_rfl
theorem func129:prog.funcs[129]?=some Tryz.f129:=by kernel_rfl
theorem func131:prog.funcs[131]?=some Tryz.f131:=by kernel_rfl
theorem func132:prog.funcs[132]?=some Tryz.f132:=by kernel_rfl
theorem func134:prog.funcs[134]?=some Tryz.f134:=by kernel_rfl
theorem func135:prog.funcs[135]?=some Tryz.f135:=by kernel_rfl
theorem func156:prog.funcs[156]?=some Tryz.f156:=by kernel_rfl
theorem func157:prog.funcs[157]?=some Tryz.f157:=by kernel_rfl
theorem func158:prog.funcs[158]?=some Tryz.f158:=by kernel_rfl
theorem func159:prog.funcs[159]?=some Tryz.f159:=by kernel_rfl
theorem func160:prog.funcs[160]?=some Tryz.f160:=by kernel_rfl
theorem func161:prog.funcs[161]?=some Tryz.f161:=by kernel_rfl
theorem func162:prog.funcs[162]?=some Tryz.f162:=by kernel_rfl
theorem func163:prog.funcs[163]?=some Tryz.f163:=by kernel_rfl
theorem func165:prog.funcs[165]?=some Tryz.f165:=by kernel_rfl
theorem func175:prog.funcs[175]?=some Tryz.f175:=by kernel_rfl
theorem func176:prog.funcs[176]?=some Tryz.f176:=by kernel_rfl
theorem func177:prog.funcs[177]?=some Tryz.f177:=by kernel_rfl
theorem func178:prog.funcs[178]?=some Tryz.f178:=by kernel_rfl
theorem func179:prog.funcs[179]?=some Tryz.f179:=by kernel_rfl
theorem func180:prog.funcs[180]?=some Tryz.f180:=by kernel_rfl
theorem func181:prog.funcs[181]?=some Tryz.f181:=by kernel_rfl
theorem func182:prog.funcs[182]?=some Tryz.f182:=by kernel_rfl
theorem func183:prog.funcs[183]?=some Tryz.f183:=by kernel_rfl
theorem func184:prog.funcs[184]?=some Tryz.f184:=by kernel_rfl
theorem ntmps92:f92.ntmps=13:=rfl
attribute [simp] func9 func10 func12 func13 func15 func16 func19 func21 func23 func26 func27 func29 func31 func34 func37 func38 func39 func43 func44 func50 func51 func53 func54 func56 func57 func63 func64 func65 func69 func72 func74 func79 func80 func83 func89 func90 func91 func92 func93 func96 func97 func98 func99 func100 func101 func102 func103 func105 func108 func114 func115 func116 func123 func124 func125 func126 func127 func128 func129 func131 func132 func134 func135 func156 func157 func158 func159 func160 func161 func162 func163 func165 func175 func176 func177 func178 func179 func180 func181 func182 func183 func184 ntmps92
@[simp] theorem stoodInHeld40:prog.stoodInHeld 40=false:=by kernel_rfl
theorem underlying3:prog.underlying 3=some (Go.TypeDesc.int Go.IntKind.i64):=(underlying_x 3).trans Tryz.underlying3
theorem underlying4:prog.underlying 4=some Go.TypeDesc.bool:=(underlying_x 4).trans Tryz.underlying4
theorem underlying22:prog.underlying 22=some (Go.TypeDesc.slice 104):=(underlying_x 22).trans Tryz.underlying22
theorem underlying24 : prog.underlying 24 = some (Go.TypeDesc.struct #[{ name := "Joints", type := 22, offset := 0, embedded := false, tag := "", pkgPath := "", byteOffset := 0 }]) := (underlying_x 24).trans Tryz.underlying24
theorem underlying30:prog.underlying 30=some (Go.TypeDesc.slice 100):=(underlying_x 30).trans Tryz.underlying30
theorem underlying34:prog.underlying 34=some (Go.TypeDesc.slice 75):=(underlying_x 34).trans Tryz.underlying34
theorem underlying45:prog.underlying 45=some (Go.TypeDesc.slice 3):=(underlying_x 45).trans Tryz.underlying45
theorem underlying81:prog.underlying 81=some (Go.TypeDesc.slice 40):=(underlying_x 81).trans Tryz.underlying81
theorem underlying102 : prog.underlying 102 = some (Go.TypeDesc.struct #[{ name := "X", type := 3, offset := 0, embedded := false, tag := "", pkgPath := "", byteOffset := 0 }, { name := "Y", type := 3, offset := 1, embedded := false, tag := "", pkgPath := "", byteOffset := 8 }]) := (underlying_x 102).trans Tryz.underlying102
theorem underlying104 : prog.underlying 104 = some (Go.TypeDesc.struct #[{ name := "Inner", type := 102, offset := 0, embedded := false, tag := "", pkgPath := "", byteOffset := 0 }, { name := "Outer", type := 102, offset := 2, embedded := false, tag := "", pkgPath := "", byteOffset := 16 }]) := (underlying_x 104).trans Tryz.underlying104
theorem underlying121:prog.underlying 121=some (Go.TypeDesc.slice 98):=(underlying_x 121).trans Tryz.underlying121
theorem underlying125:prog.underlying 125=some (Go.TypeDesc.slice 168):=(underlying_x 125).trans Tryz.underlying125
theorem underlying128:prog.underlying 128=some (Go.TypeDesc.slice 130):=(underlying_x 128).trans Tryz.underlying128
theorem underlying164:prog.underlying 164=some (Go.TypeDesc.slice 142):=(underlying_x 164).trans Tryz.underlying164
theorem underlying168 : prog.underlying 168 = some (Go.TypeDesc.struct #[{ name := "A", type := 3, offset := 0, embedded := false, tag := "", pkgPath := "", byteOffset := 0 }, { name := "B", type := 3, offset := 1, embedded := false, tag := "", pkgPath := "", byteOffset := 8 }, { name := "C", type := 3, offset := 2, embedded := false, tag := "", pkgPath := "", byteOffset := 16 }, { name := "D", type := 3, offset := 3, embedded := false, tag := "", pkgPath := "", byteOffset := 24 }]) := (underlying_x 168).trans Tryz.underlying168
theorem call_x (k : Nat) (args : Array Value) (w : World) {fn : Func} (hf : prog.funcs[k]? = some fn) (hn : (fn.name == "runtime.NumGoroutine") = false := by kernel_rfl) (hb : fn.body.isNone = false := by kernel_rfl) : Sem.run prog (callFunc k args) w = .ok (.enter k args) w := by
 simp only [callFunc, program, Bind.bind, Sem.bind, Sem.run, hf, hn, hb, Bool.false_eq_true, if_false];rfl
@[simp] theorem call9 (args w):Sem.run prog (callFunc 9 args) w = .ok (.enter 9 args) w:=call_x 9 args w func9
@[simp] theorem call10 (args w):Sem.run prog (callFunc 10 args) w = .ok (.enter 10 args) w:=call_x 10 args w func10
@[simp] theorem call12 (args w):Sem.run prog (callFunc 12 args) w = .ok (.enter 12 args) w:=call_x 12 args w func12
@[simp] theorem call13 (args w):Sem.run prog (callFunc 13 args) w = .ok (.enter 13 args) w:=call_x 13 args w func13
@[simp] theorem call15 (args w):Sem.run prog (callFunc 15 args) w = .ok (.enter 15 args) w:=call_x 15 args w func15
@[simp] theorem call16 (args w):Sem.run prog (callFunc 16 args) w = .ok (.enter 16 args) w:=call_x 16 args w func16
@[simp] theorem call19 (args w):Sem.run prog (callFunc 19 args) w = .ok (.enter 19 args) w:=call_x 19 args w func19
@[simp] theorem call21 (args w):Sem.run prog (callFunc 21 args) w = .ok (.enter 21 args) w:=call_x 21 args w func21
@[simp] theorem call23 (args w):Sem.run prog (callFunc 23 args) w = .ok (.enter 23 args) w:=call_x 23 args w func23
@[simp] theorem call26 (args w):Sem.run prog (callFunc 26 args) w = .ok (.enter 26 args) w:=call_x 26 args w func26
@[simp] theorem call27 (args w):Sem.run prog (callFunc 27 args) w = .ok (.enter 27 args) w:=call_x 27 args w func27
@[simp] theorem call29 (args w):Sem.run prog (callFunc 29 args) w = .ok (.enter 29 args) w:=call_x 29 args w func29
@[simp] theorem call31 (args w):Sem.run prog (callFunc 31 args) w = .ok (.enter 31 args) w:=call_x 31 args w func31
@[simp] theorem call34 (args w):Sem.run prog (callFunc 34 args) w = .ok (.enter 34 args) w:=call_x 34 args w func34
@[simp] theorem call37 (args w):Sem.run prog (callFunc 37 args) w = .ok (.enter 37 args) w:=call_x 37 args w func37
@[simp] theorem call38 (args w):Sem.run prog (callFunc 38 args) w = .ok (.enter 38 args) w:=call_x 38 args w func38
@[simp] theorem call39 (args w):Sem.run prog (callFunc 39 args) w = .ok (.enter 39 args) w:=call_x 39 args w func39
@[simp] theorem call43 (args w):Sem.run prog (callFunc 43 args) w = .ok (.enter 43 args) w:=call_x 43 args w func43
@[simp] theorem call44 (args w):Sem.run prog (callFunc 44 args) w = .ok (.enter 44 args) w:=call_x 44 args w func44
@[simp] theorem call50 (args w):Sem.run prog (callFunc 50 args) w = .ok (.enter 50 args) w:=call_x 50 args w func50
@[simp] theorem call51 (args w):Sem.run prog (callFunc 51 args) w = .ok (.enter 51 args) w:=call_x 51 args w func51
@[simp] theorem call53 (args w):Sem.run prog (callFunc 53 args) w = .ok (.enter 53 args) w:=call_x 53 args w func53
@[simp] theorem call54 (args w):Sem.run prog (callFunc 54 args) w = .ok (.enter 54 args) w:=call_x 54 args w func54
@[simp] theorem call56 (args w):Sem.run prog (callFunc 56 args) w = .ok (.enter 56 args) w:=call_x 56 args w func56
@[simp] theorem call57 (args w):Sem.run prog (callFunc 57 args) w = .ok (.enter 57 args) w:=call_x 57 args w func57
@[simp] theorem call63 (args w):Sem.run prog (callFunc 63 args) w = .ok (.enter 63 args) w:=call_x 63 args w func63
@[simp] theorem call64 (args w):Sem.run prog (callFunc 64 args) w = .ok (.enter 64 args) w:=call_x 64 args w func64
@[simp] theorem call65 (args w):Sem.run prog (callFunc 65 args) w = .ok (.enter 65 args) w:=call_x 65 args w func65
@[simp] theorem call69 (args w):Sem.run prog (callFunc 69 args) w = .ok (.enter 69 args) w:=call_x 69 args w func69
@[simp] theorem call72 (args w):Sem.run prog (callFunc 72 args) w = .ok (.enter 72 args) w:=call_x 72 args w func72
@[simp] theorem call74 (args w):Sem.run prog (callFunc 74 args) w = .ok (.enter 74 args) w:=call_x 74 args w func74
@[simp] theorem call79 (args w):Sem.run prog (callFunc 79 args) w = .ok (.enter 79 args) w:=call_x 79 args w func79
@[simp] theorem call80 (args w):Sem.run prog (callFunc 80 args) w = .ok (.enter 80 args) w:=call_x 80 args w func80
@[simp] theorem call83 (args w):Sem.run prog (callFunc 83 args) w = .ok (.enter 83 args) w:=call_x 83 args w func83
@[simp] theorem call89 (args w):Sem.run prog (callFunc 89 args) w = .ok (.enter 89 args) w:=call_x 89 args w func89
@[simp] theorem call90 (args w):Sem.run prog (callFunc 90 args) w = .ok (.enter 90 args) w:=call_x 90 args w func90
@[simp] theorem call91 (args w):Sem.run prog (callFunc 91 args) w = .ok (.enter 91 args) w:=call_x 91 args w func91
@[simp] theorem call92 (args w):Sem.run prog (callFunc 92 args) w = .ok (.enter 92 args) w:=call_x 92 args w func92
@[simp] theorem call93 (args w):Sem.run prog (callFunc 93 args) w = .ok (.enter 93 args) w:=call_x 93 args w func93
@[simp] theorem call96 (args w):Sem.run prog (callFunc 96 args) w = .ok (.enter 96 args) w:=call_x 96 args w func96
@[simp] theorem call97 (args w):Sem.run prog (callFunc 97 args) w = .ok (.enter 97 args) w:=call_x 97 args w func97
@[simp] theorem call98 (args w):Sem.run prog (callFunc 98 args) w = .ok (.enter 98 args) w:=call_x 98 args w func98
@[simp] theorem call99 (args w):Sem.run prog (callFunc 99 args) w = .ok (.enter 99 args) w:=call_x 99 args w func99
@[simp] theorem call100 (args w):Sem.run prog (callFunc 100 args) w = .ok (.enter 100 args) w:=call_x 100 args w func100
@[simp] theorem call101 (args w):Sem.run prog (callFunc 101 args) w = .ok (.enter 101 args) w:=call_x 101 args w func101
@[simp] theorem call102 (args w):Sem.run prog (callFunc 102 args) w = .ok (.enter 102 args) w:=call_x 102 args w func102
@[simp] theorem call103 (args w):Sem.run prog (callFunc 103 args) w = .ok (.enter 103 args) w:=call_x 103 args w func103
@[simp] theorem call105 (args w):Sem.run prog (callFunc 105 args) w = .ok (.enter 105 args) w:=call_x 105 args w func105
@[simp] theorem call108 (args w):Sem.run prog (callFunc 108 args) w = .ok (.enter 108 args) w:=call_x 108 args w func108
@[simp] theorem call114 (args w):Sem.run prog (callFunc 114 args) w = .ok (.enter 114 args) w:=call_x 114 args w func114
@[simp] theorem call115 (args w):Sem.run prog (callFunc 115 args) w = .ok (.enter 115 args) w:=call_x 115 args w func115
@[simp] theorem call116 (args w):Sem.run prog (callFunc 116 args) w = .ok (.enter 116 args) w:=call_x 116 args w func116
@[simp] theorem call123 (args w):Sem.run prog (callFunc 123 args) w = .ok (.enter 123 args) w:=call_x 123 args w func123
@[simp] theorem call124 (args w):Sem.run prog (callFunc 124 args) w = .ok (.enter 124 args) w:=call_x 124 args w func124
@[simp] theorem call125 (args w):Sem.run prog (callFunc 125 args) w = .ok (.enter 125 args) w:=call_x 125 args w func125
@[simp] theorem call126 (args w):Sem.run prog (callFunc 126 args) w = .ok (.enter 126 args) w:=call_x 126 args w func126
@[simp] theorem call127 (args w):Sem.run prog (callFunc 127 args) w = .ok (.enter 127 args) w:=call_x 127 args w func127
@[simp] theorem call128 (args w):Sem.run prog (callFunc 128 args) w = .ok (.enter 128 args) w:=call_x 128 args w func128
@[simp] theorem call129 (args w):Sem.run prog (callFunc 129 args) w = .ok (.enter 129 args) w:=call_x 129 args w func129
@[simp] theorem call131 (args w):Sem.run prog (callFunc 131 args) w = .ok (.enter 131 args) w:=call_x 131 args w func131
@[simp] theorem call132 (args w):Sem.run prog (callFunc 132 args) w = .ok (.enter 132 args) w:=call_x 132 args w func132
@[simp] theorem call134 (args w):Sem.run prog (callFunc 134 args) w = .ok (.enter 134 args) w:=call_x 134 args w func134
@[simp] theorem call135 (args w):Sem.run prog (callFunc 135 args) w = .ok (.enter 135 args) w:=call_x 135 args w func135
@[simp] theorem call156 (args w):Sem.run prog (callFunc 156 args) w = .ok (.enter 156 args) w:=call_x 156 args w func156
@[simp] theorem call157 (args w):Sem.run prog (callFunc 157 args) w = .ok (.enter 157 args) w:=call_x 157 args w func157
@[simp] theorem call158 (args w):Sem.run prog (callFunc 158 args) w = .ok (.enter 158 args) w:=call_x 158 args w func158
@[simp] theorem call159 (args w):Sem.run prog (callFunc 159 args) w = .ok (.enter 159 args) w:=call_x 159 args w func159
@[simp] theorem call160 (args w):Sem.run prog (callFunc 160 args) w = .ok (.enter 160 args) w:=call_x 160 args w func160
@[simp] theorem call161 (args w):Sem.run prog (callFunc 161 args) w = .ok (.enter 161 args) w:=call_x 161 args w func161
@[simp] theorem call162 (args w):Sem.run prog (callFunc 162 args) w = .ok (.enter 162 args) w:=call_x 162 args w func162
@[simp] theorem call163 (args w):Sem.run prog (callFunc 163 args) w = .ok (.enter 163 args) w:=call_x 163 args w func163
@[simp] theorem call165 (args w):Sem.run prog (callFunc 165 args) w = .ok (.enter 165 args) w:=call_x 165 args w func165
@[simp] theorem call175 (args w):Sem.run prog (callFunc 175 args) w = .ok (.enter 175 args) w:=call_x 175 args w func175
@[simp] theorem call176 (args w):Sem.run prog (callFunc 176 args) w = .ok (.enter 176 args) w:=call_x 176 args w func176
@[simp] theorem call177 (args w):Sem.run prog (callFunc 177 args) w = .ok (.enter 177 args) w:=call_x 177 args w func177
@[simp] theorem call178 (args w):Sem.run prog (callFunc 178 args) w = .ok (.enter 178 args) w:=call_x 178 args w func178
@[simp] theorem call179 (args w):Sem.run prog (callFunc 179 args) w = .ok (.enter 179 args) w:=call_x 179 args w func179
@[simp] theorem call180 (args w):Sem.run prog (callFunc 180 args) w = .ok (.enter 180 args) w:=call_x 180 args w func180
@[simp] theorem call181 (args w):Sem.run prog (callFunc 181 args) w = .ok (.enter 181 args) w:=call_x 181 args w func181
@[simp] theorem call182 (args w):Sem.run prog (callFunc 182 args) w = .ok (.enter 182 args) w:=call_x 182 args w func182
@[simp] theorem call183 (args w):Sem.run prog (callFunc 183 args) w = .ok (.enter 183 args) w:=call_x 183 args w func183
@[simp] theorem call184 (args w):Sem.run prog (callFunc 184 args) w = .ok (.enter 184 args) w:=call_x 184 args w func184
end Go.Proofs.Tryzx
end
section
namespace Go.Proofs.Tryzx
def lawL:List Nat := [3,4,5,6,7,8,9,10,11,12,13,14,15,16,17,18,19,20,21,22,23,24,25,26,27,28,29,30,31,32,33,34,35,36,37,38,39,40,41,42,43,44,45,46,47,48,49,50,51,52,53,54,55,56,57,58,59,60,61,62,63,64,65,66,67,68,69,70,71,72,73,74,75,76,77,78,79,80,81,82,83,84,85,86,87,88,89,90,91,93,94,95,96,97,98,99,100,101,102,103,104,105,106,107,108,109,110,111,112,113,114,115,116,123,124,125,126,127,128,129,130,131,132,133,134,135,156,157,158,159,160,161,162,163,164,165,175,176,177,178,179,180,181,182,183,184]
end Go.Proofs.Tryzx
end
namespace Go.Proofs.YtodneggnnipcnaaGreat
namespace Rn
open Go.Conc
def lawF:Nat→Bool:=fun k=>Tryzx.lawL.contains k
def lawD:Nat→Bool:=fun i=>i != specAt 92
theorem law_all : Tryzx.lawL.all (fun f => (f != 92) && match Tryz.prog.funcs[f]? with | some fn => (fn.name != "runtime.NumGoroutine") && (match fn.body with | some c => okC Tryz.prog.toTables lawF lawD c | none => false) | none => false) = true := by decide +kernel
theorem law_one {f : Nat} (h : lawF f = true) : f ≠ 92 ∧ ∃ fn c, Tryz.prog.funcs[f]? = some fn ∧ (fn.name == "runtime.NumGoroutine") = false ∧ fn.body = some c ∧ okC Tryz.prog.toTables lawF lawD c = true := by
 have hm : f ∈ Tryzx.lawL := by simpa [lawF] using h
 have := List.all_eq_true.1 law_all f hm;rw [Bool.and_eq_true] at this;obtain ⟨hne, this⟩ := this;refine ⟨by simpa using hne, ?_⟩;cases hf : Tryz.prog.funcs[f]? with
 | none => rw [hf] at this; cases this
 | some fn =>
  rw [hf] at this;dsimp only at this;cases hb : fn.body with
  | none => rw [hb] at this; simp at this
  | some c =>
   rw [hb] at this;simp only [Bool.and_eq_true] at this;exact ⟨fn, c, rfl, by simpa using this.1, hb, this.2⟩
theorem xset:Tryzx.prog.funcs=Tryz.prog.funcs.setIfInBounds 92 Tryzx.f92:=by kernel_rfl
theorem xfuncs (f:Nat) (hf:f ≠ 92):Tryzx.prog.funcs[f]?=Tryz.prog.funcs[f]?:=by
 rw [xset,Array.getElem?_setIfInBounds_ne (Ne.symm hf)]
theorem lawD_spec {f:Nat} (h:lawD (specAt f)=false):f=92:=by
 simp only [lawD,specAt,bne_eq_false_iff_eq] at h;omega
theorem small_res {fn:Func} (h:(fn.results.toList.all fun x=>match x with | .tmp t=>decide (t<1000000) | .cell a _=>decide (a<1000000))=true):resD fn lawD=true:=by
 unfold resD;rw [List.all_eq_true] at h ⊢;intro x hx;have:=h x hx;have key:∀ t,t<1000000→lawD t=true:=fun t ht=>by simp only [lawD,specAt,bne_iff_ne,ne_eq]; omega
 cases x with
 | tmp t=>exact key t (by simpa using this)
 | cell a _=>exact key a (by simpa using this)
theorem law_res:(Tryzx.prog.funcs.toList.all fun fn=>fn.results.toList.all fun x=>match x with | .tmp t=>decide (t<1000000) | .cell a _=>decide (a<1000000))=true:=by decide +kernel
theorem law_resD {f:Nat} {fn:Func} (h:Tryzx.prog.funcs[f]?=some fn):resD fn lawD=true:=by
 refine small_res (List.all_eq_true.1 law_res fn ?_);obtain ⟨hi,rfl⟩:=Array.getElem?_eq_some_iff.1 h;simp
structure Win where
 live:Bool
 blk:Nat
 off:Nat
 cells:Array Value
noncomputable def gctx (noT:TypeId) (ws:List Win):Ctx where
 tb:=Tryz.prog.toTables
 fx:=Tryzx.prog.funcs
 fs:=Tryz.prog.funcs
 F:=lawF
 RO:=fun a=>Tryz.prog.globals.size≤a∧a<Tryz.prog.globals.size+ws.length
 sh:=fun a=>if Tryz.prog.globals.size≤a∧a<Tryz.prog.globals.size+ws.length then ((ws[a - Tryz.prog.globals.size]?).map (·.off)).getD 0 else 0
 noT:=noT
 D:=fun _=>lawD
noncomputable def sctx (noT:TypeId) (ws:List Win):Ctx where
 tb:=Tryz.prog.toTables
 fx:=Tryzx.prog.funcs
 fs:=Tryzx.prog.funcs
 F:=lawF
 RO:=fun a=>Tryz.prog.globals.size≤a∧a<Tryz.prog.globals.size+ws.length
 sh:=fun _=>0
 noT:=noT
 D:=fun _=>lawD
section
variable {noT : TypeId} {ws : List Win}
theorem gok:CtxOk (gctx noT ws):=by
 refine ⟨fun f h => ?_,fun f h => ?_,fun f fn h=>law_resD h,fun k f h => ?_,fun k f h => ?_⟩
 ·obtain ⟨hne,fn,c,h1,h2,h3,_⟩:=law_one h
  exact ⟨fn,(xfuncs f hne).trans h1,h2,by rw [h3]; rfl⟩
 ·obtain ⟨hne,fn,c,h1,h2,h3,_⟩:=law_one h
  exact ⟨fn,h1,h2,by rw [h3]; rfl⟩
 ·obtain rfl:=lawD_spec h
  exact ⟨_,Tryzx.func92,by decide,rfl⟩
 ·obtain rfl:=lawD_spec h
  exact ⟨_,Tryz.func92,by decide +kernel,by rw [pbody_body]; rfl⟩
theorem gfine {f:Nat} (h:lawF f=true):Fine (gctx noT ws) f:=by
 obtain ⟨hne,fn,c,h1,h2,h3,h4⟩:=law_one h;exact ⟨(xfuncs f hne).symm,fn,c,(xfuncs f hne).trans h1,h3,h4⟩
theorem sok : CtxOk (sctx noT ws) := by
 have one : ∀ f, lawF f = true → ∃ fn, Tryzx.prog.funcs[f]? = some fn ∧ (fn.name == "runtime.NumGoroutine") = false ∧ fn.body.isNone = false := fun f h => by
  obtain ⟨hne, fn, c, h1, h2, h3, _⟩ := law_one h;exact ⟨fn, (xfuncs f hne).trans h1, h2, by rw [h3]; rfl⟩
 have two : ∀ k f, (sctx noT ws).D k (specAt f) = false → ∃ fn, Tryzx.prog.funcs[f]? = some fn ∧ (fn.name == "runtime.NumGoroutine") = false ∧ fn.body.isNone = false := fun k f h => by
  obtain rfl := lawD_spec h;exact ⟨_, Tryzx.func92, by decide, rfl⟩
 exact ⟨one, one, fun f fn h => law_resD h, two, two⟩
theorem bodyX_ok:okC Tryz.prog.toTables lawF lawD Tryzx.bodyX=true:=by decide +kernel
theorem sfine:∀ f n,Entered (sctx noT ws) f n→Fine (sctx noT ws) f:=by
 rintro f n (h | ⟨⟨k,h⟩,_⟩)
 ·obtain ⟨hne,fn,c,h1,h2,h3,h4⟩:=law_one h
  exact ⟨rfl,fn,c,(xfuncs f hne).trans h1,h3,h4⟩
 ·obtain rfl:=lawD_spec h
  exact ⟨rfl,_,_,Tryzx.func92,rfl,bodyX_ok⟩
theorem cfine:Fine (sctx noT ws) 92:=⟨rfl,_,_,Tryzx.func92,rfl,bodyX_ok⟩
def dg (r:Ren):Ren:=fun a a'=>a=a'∧∃ b,r a b
variable {r : Ren} {w v : World}
theorem ar_self {a b:Addr} (h:AR (gctx noT ws) r a b):AR (sctx noT ws) (dg r) a a:=⟨⟨rfl,_,h.1⟩,rfl,rfl⟩
theorem vr_self {x y:Value} (h:VR (gctx noT ws) r x y):VR (sctx noT ws) (dg r) x x:=by
 induction h with
 | bool b=>exact .bool b
 | int k n=>exact .int k n
 | ptr0=>exact .ptr0
 | ptr a=>exact .ptr (ar_self a)
 | sl0 n c=>exact .sl0 n c
 | sl n c a=>exact .sl n c (ar_self a)
 | map0=>exact .map0
 | map a=>exact .map ⟨rfl,_,a⟩
 | @func f xs ys xs' ys' hf e _ e' _ ih ih' =>
  refine .func hf rfl (fun i x y hx hy => ?_) rfl (fun i x y hx hy => ?_)
  ·rw [hx] at hy; cases hy
   have hi:=(Array.getElem?_eq_some_iff.1 hx).1;exact ih i x _ hx (Array.getElem?_eq_getElem (e ▸ hi))
  ·rw [hx] at hy; cases hy
   have hi:=(Array.getElem?_eq_some_iff.1 hx).1;exact ih' i x _ hx (Array.getElem?_eq_getElem (e' ▸ hi))
 | nilFunc=>exact .nilFunc
 | @agg xs ys e _ ih =>
  refine .agg rfl fun i x y hx hy => ?_
  rw [hx] at hy; cases hy;have hi:=(Array.getElem?_eq_some_iff.1 hx).1;exact ih i x _ hx (Array.getElem?_eq_getElem (e ▸ hi))
 | @tuple xs ys e _ ih =>
  refine .tuple rfl fun i x y hx hy => ?_
  rw [hx] at hy; cases hy;have hi:=(Array.getElem?_eq_some_iff.1 hx).1;exact ih i x _ hx (Array.getElem?_eq_getElem (e ▸ hi))
theorem vall_self {xs ys:Array Value} (h:VAll (gctx noT ws) r xs ys):VAll (sctx noT ws) (dg r) xs xs:=by
 refine ⟨rfl,fun i x y hx hy => ?_⟩;rw [hx] at hy; cases hy;obtain ⟨y,_,hy⟩:=h.get? hx;exact vr_self hy
theorem or_self {x y:Option Obj} (h:OR (gctx noT ws) r x y):OR (sctx noT ws) (dg r) x x:=by
 cases h with
 | cells va=>exact .cells (vall_self va)
 | @map es es' k m =>
  refine .map ⟨rfl,fun i e e' he he' => ?_⟩;rw [he] at he'; cases he';have hi:=(Array.getElem?_eq_some_iff.1 he).1;have:=m.get i e _ he (Array.getElem?_eq_getElem (m.size ▸ hi));exact ⟨vr_self this.key,vr_self this.val,rfl⟩
 | number l a=>exact .number l (ar_self a)
theorem wr_self (h:WR (gctx noT ws) r w v):WR (sctx noT ws) (dg r) w w where
 lt:=by rintro a _ ⟨rfl,b,hb⟩; exact ⟨(h.lt _ _ hb).1,(h.lt _ _ hb).1⟩
 fn:=by rintro a b b' ⟨rfl,_⟩ ⟨rfl,_⟩; rfl
 inj:=by rintro a a' b ⟨rfl,_⟩ ⟨rfl,_⟩; exact .inl rfl
 obj:=by rintro a _ ⟨rfl,b,hb⟩ hr; exact or_self (h.obj _ _ hb hr)
 win:=by
  rintro a _ ⟨rfl,b,hb⟩ hr;obtain ⟨c,hi,c',t',z',h1,h2,h3,h4⟩:=h.win _ _ hb hr;refine ⟨c,hi,c,_,_,h1,h2,h1,fun i u hu=>⟨u,by simpa [sctx] using hu,?_⟩⟩;obtain ⟨u',_,hv⟩:=h4 i u hu;exact vr_self hv
 winG:=by rintro a _ ⟨rfl,b,hb⟩ hr; exact h.winG _ _ hb hr
 glob:=by rintro a _ ⟨rfl,b,hb⟩ _ _; rfl
 big:=⟨h.big.1,h.big.1⟩
 shz:=fun a _=>rfl
 roLt:=h.roLt
 noInfo:=h.noInfo
end
end Rn
namespace X
open Go.RowKit
theorem l01In_any (x a b:Int) (w:World):Calls Tryzx.prog 79 #[.int .i64 x,.int .i64 a,.int .i64 b] w fun e w'=>e = .returned (.bool (inB x a b))∧w=w':=by
 by_cases c1:a≤x
 ·by_cases c2:x≤b
  ·have H:=Lib.hid (inB_t ⟨c1,c2⟩)
   go_enter Tryzx.func79,Tryz.ntmps79;go_wp2;go_ret;exact ⟨ret_bool H.out.symm,rfl⟩
  ·have H:=Lib.hid (inB_f (x:=x) (a:=a) (b:=b) (by omega))
   go_enter Tryzx.func79,Tryz.ntmps79;go_wp2;go_ret;exact ⟨ret_bool H.out.symm,rfl⟩
 ·have H:=Lib.hid (inB_f (x:=x) (a:=a) (b:=b) (by omega))
  go_enter Tryzx.func79,Tryz.ntmps79;go_wp2;go_ret;exact ⟨ret_bool H.out.symm,rfl⟩
theorem within_any (x a b:Int) (w:World):Calls Tryzx.prog 80 #[.int .i64 x,.int .i64 a,.int .i64 b] w fun e w'=>e = .returned (.bool (inB x a b))∧w=w':=by
 by_cases c1:a≤x
 ·by_cases c2:x≤b
  ·have H:=Lib.hid (inB_t ⟨c1,c2⟩)
   go_enter Tryzx.func80,Tryz.ntmps80;go_wp2;go_ret;exact ⟨ret_bool H.out.symm,rfl⟩
  ·have H:=Lib.hid (inB_f (x:=x) (a:=a) (b:=b) (by omega))
   go_enter Tryzx.func80,Tryz.ntmps80;go_wp2;go_ret;exact ⟨ret_bool H.out.symm,rfl⟩
 ·have H:=Lib.hid (inB_f (x:=x) (a:=a) (b:=b) (by omega))
  go_enter Tryzx.func80,Tryz.ntmps80;go_wp2;go_ret;exact ⟨ret_bool H.out.symm,rfl⟩
end X
namespace X
open Go.RowKit
theorem isPlace_any (x:Int) (w:World):Calls Tryzx.prog 105 #[.int .i64 x] w fun e w'=>e = .returned (.bool (inB x (-60) 60))∧w=w':=by
 go_enter Tryzx.func105,Tryz.ntmps105;go_wp2_with (go_at_call 80; refine (within_any _ _ _ _).mono ?_; rintro e w' ⟨rfl,rfl⟩);go_ret;exact ⟨rfl,rfl⟩
theorem ok_any (x y:Int) (w:World):Calls Tryzx.prog 180 #[.agg #[.int .i64 x,.int .i64 y]] w fun e w'=>e = .returned (.bool (ptB x y))∧Below w.heap.size w w':=by
 cases h1:inB x (-60) 60
 ·have HF:=Lib.hid (show ptB x y=false by simp [ptB,h1])
  go_enter Tryzx.func180,Tryz.ntmps180;go_wp2_with (go_at_call 105; refine (isPlace_any _ _).mono ?_; rintro e w' ⟨rfl,rfl⟩);go_ret;exact ⟨ret_bool HF.out.symm,(Below.refl _ _).alloc (Nat.le_refl _) _⟩
 ·have HF:=Lib.hid (show ptB x y=inB y (-60) 60 by simp [ptB,h1])
  go_enter Tryzx.func180,Tryz.ntmps180;go_wp2_with (go_at_call 105; refine (isPlace_any _ _).mono ?_; rintro e w' ⟨rfl,rfl⟩);go_ret;exact ⟨ret_bool HF.out.symm,(Below.refl _ _).alloc (Nat.le_refl _) _⟩
theorem pointOk_any (x y:Int) (w:World):Calls Tryzx.prog 165 #[.agg #[.int .i64 x,.int .i64 y]] w fun e w'=>e = .returned (.bool (ptB x y))∧Below w.heap.size w w':=by
 cases h1:inB x (-60) 60
 ·have HF:=Lib.hid (show ptB x y=false by simp [ptB,h1])
  go_enter Tryzx.func165,Tryz.ntmps165;go_wp2_with (go_at_call 79; refine (l01In_any _ _ _ _).mono ?_; rintro e w' ⟨rfl,rfl⟩);go_ret;exact ⟨ret_bool HF.out.symm,(Below.refl _ _).alloc (Nat.le_refl _) _⟩
 ·have HF:=Lib.hid (show ptB x y=inB y (-60) 60 by simp [ptB,h1])
  go_enter Tryzx.func165,Tryz.ntmps165;go_wp2_with (go_at_call 79; refine (l01In_any _ _ _ _).mono ?_; rintro e w' ⟨rfl,rfl⟩);go_ret;exact ⟨ret_bool HF.out.symm,(Below.refl _ _).alloc (Nat.le_refl _) _⟩
set_option maxHeartbeats 800000 in
theorem side_any (ax ay bx b_y cx cy:Int) (w:World) (ha:ptB ax ay=true) (hb:ptB bx b_y=true) (hc:ptB cx cy=true) :
  Calls Tryzx.prog 181 #[.agg #[.int .i64 cx,.int .i64 cy],.agg #[.int .i64 ax,.int .i64 ay],.agg #[.int .i64 bx,.int .i64 b_y]] w fun e w'=>e = .returned (.int .i64 (sideI ax ay bx b_y cx cy))∧Below w.heap.size w w':=by
 have hbd:=sideI_bd ha hb hc;have HS:Hid (sideI ax ay bx b_y cx cy=(bx - ax)*(cy - ay) - (b_y - ay)*(cx - ax)):=rfl;rw [HS.out] at hbd;rw [ptB_iff] at ha hb hc;have h1:=mul120 (a:=bx - ax) (b:=cy - ay) (by omega) (by omega);have h2:=mul120 (a:=b_y - ay) (b:=cx - ax) (by omega) (by omega);go_enter Tryzx.func181,Tryz.ntmps181;go_wp2;go_ret;exact ⟨rfl,(((Below.refl _ _).alloc (Nat.le_refl _) _).alloc (by simp) _).alloc (by simp; omega) _⟩
theorem l02Side_any (ax ay bx b_y cx cy:Int) (w:World) (ha:ptB ax ay=true) (hb:ptB bx b_y=true) (hc:ptB cx cy=true) :
  Calls Tryzx.prog 90 #[.agg #[.int .i64 ax,.int .i64 ay],.agg #[.int .i64 bx,.int .i64 b_y],.agg #[.int .i64 cx,.int .i64 cy]] w fun e w'=>e = .returned (.int .i64 (sideI ax ay bx b_y cx cy))∧Below w.heap.size w w':=by
 have hbd:=sideI_bd ha hb hc;have HS:Hid (sideI ax ay bx b_y cx cy=(bx - ax)*(cy - ay) - (b_y - ay)*(cx - ax)):=rfl;rw [HS.out] at hbd;rw [ptB_iff] at ha hb hc;have h1:=mul120 (a:=bx - ax) (b:=cy - ay) (by omega) (by omega);have h2:=mul120 (a:=b_y - ay) (b:=cx - ax) (by omega) (by omega);go_enter Tryzx.func90,Tryz.ntmps90;go_wp2;go_ret;exact ⟨rfl,(((Below.refl _ _).alloc (Nat.le_refl _) _).alloc (by simp) _).alloc (by simp; omega) _⟩
end X
end Go.Proofs.YtodneggnnipcnaaGreat
