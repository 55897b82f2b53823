/-
  Texts that the law stands on, part 20.
-/
import Derived.Test.YtodneggnnipcnaaGreatH1
import Derived.Test.YtodneggnnipcnaaGreatH15
import Derived.Test.YtodneggnnipcnaaGreatH19
import Derived.Test.YtodneggnnipcnaaGreatH10
import Derived.Deep.RegionHeld3
import Derived.Outline
set_option maxRecDepth 100000
set_option linter.unusedVariables false
set_option linter.unusedSimpArgs false
namespace Go.Proofs.YtodneggnnipcnaaGreat
namespace Rn
open Go.Conc
theorem stepG_leave0 {P:Program} {f:FuncId} {ts:Array Value} {todo:List Item} {w w1:World} {fn:Func} {v:Value} (hf:P.funcs[f]?=some fn) (hi:P.inits.idxOf? f=none) (hr:(results fn ts).run P w = .ok v w1) :
  stepG P true (G (fra f ts todo true) []) w = .ended (.done v) w1 (seen P f ((results fn ts).events P w #[])):=by
 simp [G,fra,stepG,unwind,doReturn,Frame.at,base,hf,hr,hi,GStep.after]
theorem end_step {C:Ctx} (ok:CtxOk C) {r:Ren} {f f':Frame} {w v:World} {x:Value} (hf:FrR C r f f') (hw:WR C r w v) (ht:TE w v) (hl:f.leaving C.Px w (.returned x)) (hi:C.P.inits.idxOf? f.fn=none) :
  ∃ y v1 es r1,stepG C.P true (G f' []) v = .ended (.done y) v1 es∧Ext C r w v r1 w v1∧WR C r1 w v1∧(∀ e ∈ es,EvOk C r1 e)∧VR C r1 x y:=by
 cases hf with
 | @mk fid ts ts' todo todo' m hF hv hk =>
  obtain ⟨hm,_,_,fn,hfn,hres⟩:=hl;cases m with
  | false=>cases hm
  | true =>
   obtain ⟨fn',bd,h1,h2⟩:=hF.body;have h1':C.P.funcs[fid]?=some fn':=by rw [← h1]; exact hF.same
   have e:fn=fn':=Option.some.inj (hfn.symm.trans h1);subst e;have sim:=Sim.results fn (ok.res _ _ h1) hv w v #[] #[] hw ht (by simp);generalize hx:(results fn ts).runT C.Px w #[]=rx at sim;obtain ⟨R,es0⟩:=rx;have hrun:(results fn ts).run C.Px w=R:=by rw [← Sem.runT_fst _ _ _ #[],hx]
   have hres':(results fn ts).run C.Px w = .ok x w:=hres;rw [hrun] at hres';subst hres';obtain ⟨y,v1,fs1,r1,e1,x1,hw1,ht1,hf1,q1⟩:=sim.1 _ _ _ rfl;have hrun1:(results fn ts').run C.P v = .ok y v1:=by rw [← Sem.runT_fst _ _ _ #[],e1]
   exact ⟨y,v1,_,r1,stepG_leave0 h1' hi hrun1,x1,hw1,fun f1 hf1'=>hf1 f1 (by have:=mem_seen hf1'; rw [Sem.events,e1] at this; exact this),q1⟩
section
variable {C : Ctx} {r : Ren} {w v w2 v2 : World}
theorem WR.tpR (h:WR C r w v) (t:Tp) (d:Nat):WR C r w (v.tp t d):=⟨h.lt,h.fn,h.inj,h.obj,h.win,h.winG,h.glob,h.big,h.shz,h.roLt,h.noInfo⟩
theorem WR.atR (h:WR C r w v) (d:Nat):WR C r w (v.at d):=⟨h.lt,h.fn,h.inj,h.obj,h.win,h.winG,h.glob,h.big,h.shz,h.roLt,h.noInfo⟩
theorem WR.grow (h:WR C r w v) (sl:w.heap.size≤w2.heap.size) (sr:v.heap.size≤v2.heap.size) (hl:∀ a,a<w.heap.size→w2.heap[a]?=w.heap[a]?) (hr:∀ b,b<v.heap.size→v2.heap[b]?=v.heap[b]?):WR C r w2 v2 where
 lt a b ab:=⟨Nat.lt_of_lt_of_le (h.lt a b ab).1 sl,Nat.lt_of_lt_of_le (h.lt a b ab).2 sr⟩
 fn:=h.fn
 inj:=h.inj
 obj a b ab ho:=by rw [hl a (h.lt a b ab).1,hr b (h.lt a b ab).2]; exact h.obj a b ab ho
 win a b ab ho:=by rw [hl a (h.lt a b ab).1,hr b (h.lt a b ab).2]; exact h.win a b ab ho
 winG:=h.winG
 glob:=h.glob
 big:=⟨Nat.le_trans h.big.1 sl,Nat.le_trans h.big.2 sr⟩
 shz:=h.shz
 roLt a ha:=Nat.lt_of_lt_of_le (h.roLt a ha) sl
 noInfo:=h.noInfo
theorem WR.pair (h:WR C r w v) {g g':Nat} (lg:g<w.heap.size) (lg':g'<v.heap.size) (ng:∀ b,¬ r g b) (ng':∀ a,¬ r a g') (hro:¬ C.RO g) (hG:C.tb.globals.size≤g∧C.tb.globals.size≤g') (ho:OR C (r.ext g g') (w.heap[g]?) (v.heap[g']?)):WR C (r.ext g g') w v where
 lt a b ab:=by
  rcases ab with ab | ⟨rfl,rfl⟩
  ·exact h.lt a b ab
  ·exact ⟨lg,lg'⟩
 fn a b b' k k':=by
  rcases k with k | ⟨e1,e2⟩ <;> rcases k' with k' | ⟨e1',e2'⟩
  ·exact h.fn _ _ _ k k'
  ·subst e1'; exact absurd k (ng _)
  ·subst e1; exact absurd k' (ng _)
  ·exact e2.trans e2'.symm
 inj a a' b k k':=by
  rcases k with k | ⟨e1,e2⟩ <;> rcases k' with k' | ⟨e1',e2'⟩
  ·exact h.inj _ _ _ k k'
  ·subst e2'; exact absurd k (ng' _)
  ·subst e2; exact absurd k' (ng' _)
  ·exact .inl (e1.trans e1'.symm)
 obj a b ab hr:=by
  rcases ab with ab | ⟨rfl,rfl⟩
  ·exact (h.obj a b ab hr).mono (Ren.sub_ext _ _ _)
  ·exact ho
 win a b ab hr:=by
  rcases ab with ab | ⟨rfl,rfl⟩
  ·exact (h.win a b ab hr).mono (Ren.sub_ext _ _ _)
  ·exact absurd hr hro
 winG a b ab hr:=by
  rcases ab with ab | ⟨rfl,rfl⟩
  ·exact h.winG a b ab hr
  ·exact hG.1
 glob a b ab hr hx:=by
  rcases ab with ab | ⟨rfl,rfl⟩
  ·exact h.glob a b ab hr hx
  ·have:=hG.1; have:=hG.2; omega
 big:=h.big
 shz:=h.shz
 roLt:=h.roLt
 noInfo:=h.noInfo
end
section
variable {noT : TypeId} {ws : List Win} {r : Ren} {w v : World}
theorem rows_real (hw:WR (gctx noT ws) r w v) {A:Option Addr} {n c:Nat} {xs:List Int} {x':Value} (hx:VR (gctx noT ws) r (.slice A n c) x') (hin:RowsIn A n xs w) :
  ∃ A',x' = .slice A' n c∧RowsIn A' n xs v∧∀ a,A'=some a→∃ b,r b a.block:=by
 obtain ⟨hn,hl,h⟩:=hin;cases hx with
 | sl0 n c =>
  rcases h with ⟨rfl,_⟩ | ⟨_,blk,off,e,_⟩
  ·exact ⟨none,rfl,⟨hn,hl,.inl ⟨rfl,rfl⟩⟩,fun a e=>by cases e⟩
  ·cases e
 | @sl a b n c hab =>
  rcases h with ⟨_,e⟩ | ⟨h1,blk,off,e,hc⟩
  ·cases e
  cases e;obtain ⟨k,e1,e2⟩:=hab;obtain ⟨b0,b1,b2⟩:=b;simp only at k e1 e2;subst e1; subst e2;refine ⟨_,rfl,⟨hn,hl,.inr ⟨h1,b0,_,rfl,fun j hj => ?_⟩⟩,fun a e=>by cases e; exact ⟨_,k⟩⟩;obtain ⟨y,hy,hv⟩:=hw.cell (a:=⟨blk,off+j,none⟩) (b:=⟨b0,off+j+(gctx noT ws).sh blk,none⟩) ⟨k,rfl,rfl⟩ (hc j hj);cases hv;rw [show off+(gctx noT ws).sh blk+j=off+j+(gctx noT ws).sh blk by omega];exact hy
theorem x_cornL0:X.cornL=cornL:=by kernel_rfl
theorem x_cornL (xs:List Int) (n:Nat):X.cornL xs n=cornL xs n:=by rw [x_cornL0]
theorem x_cornN (xs:List Int) (n:Nat):X.cornN xs n=cornN xs n:=by unfold X.cornN cornN; rw [x_cornL0]
def LoneV (rs:List Int) (n:Nat) (cc base:Nat) (y:Value) (w:World):Prop :=
 (y = .slice none 0 0∧cornL rs n = []) ∨ ∃ g,base≤g∧g<w.heap.size∧1≤cornN rs n∧y = .slice (some ⟨g,0,none⟩) (cornN rs n) cc ∧
  w.heap[g]?=some (.cells (((cornL rs n).map (Value.int .i64)).toArray ++ Builtin.zeroCells #[.int .i64 0,.int .i64 0,.int .i64 0,.int .i64 0] (cc - cornN rs n)) 40 (0,0))
theorem lone_call (hw:WR (gctx noT ws) r w v) {A:Option Addr} {n c:Nat} {xs:List Int} {x':Value} (hx:VR (gctx noT ws) r (.slice A n c) x') (hin:RowsIn A n xs w) {cc:Nat} (h1:cornN xs n≤cc) (h2:cc≤maxLen) (f:Frame) (L:List Frame) :
  ∃ m N w' y,1≤N∧Path Tryzx.prog ⟨Frame.enter Tryzx.prog 92 #[.slice A n c] .normal,f :: L,w⟩ m N ⟨f.finish y,L,w'⟩∧LoneV xs n cc w.heap.size y w'∧w.heap.size≤w'.heap.size∧∀ a,a<w.heap.size→w'.heap[a]?=w.heap[a]?:=by
 let T:Tp:=fun _ q=>match q with | .appendCap _ _ _=>cc - cornN xs n | _=>0
 obtain ⟨hn,hl,h⟩:=hin;have hrec:RecsAt (w.tp T 0) (w.tp T 0).heap.size 4 A n xs:=by
  refine ⟨hl,fun hp => ?_⟩;rcases h with ⟨e,_⟩ | ⟨_,blk,off,rfl,hc⟩
  ·omega
  ·refine ⟨blk,off,rfl,?_,fun i hi=>hc i (by omega)⟩
   obtain ⟨_,_,_,k,_⟩:=cells_of (hc 0 (by omega));exact (Array.getElem?_eq_some_iff.1 k).1
 have hcall:=X.xCorners_any A n c xs (w.tp T 0) hrec hn (fun e=>by
  rcases h with ⟨_,e2⟩ | ⟨h1,_⟩
  ·exact e2
  ·omega)
 obtain ⟨e,w',fr,⟨y,rfl,hend,hbel⟩,⟨K,hK⟩,hfn,hlv⟩:=hcall [Xb];have hself:FrR (sctx noT ws) (dg r) (Frame.enter Tryzx.prog 92 #[.slice A n c] .normal) (Frame.enter Tryzx.prog 92 #[.slice A n c] .normal) :=
  enter_FrR (C:=sctx noT ws) cfine (VAll.one (vr_self hx))
 obtain ⟨m,hL,ht,hd,_⟩:=self_run (C:=sctx noT ws) (X:=f :: L) sok rfl sfine (b:=false) (fr:=fr) (w':=w') (x:=y) (.inl ⟨rfl,hlv⟩) K (cs := []) hself (fun c hc=>by simp at hc) (((wr_self hw).tp T 0).tpR T 0) hK;have hret:∀ t d,step Tryzx.prog (lone fr (f :: L) (w'.tp t d)) = .next (lone (f.finish y) L (w'.tp t d)):=fun t d=>by
  refine step_leave_returned ?_;obtain ⟨k1,k2,k3,fn,k4,k5⟩:=hlv;refine ⟨k1,k2,k3,fn,k4,?_⟩;rw [hfn,Tryzx.func92] at k4;obtain rfl:=Option.some.inj k4;have e:∀ u:World,(results Tryzx.f92 fr.tmps).run Tryzx.prog u = .ok (fr.tmps.getD 10 undef) u:=fun u=>results_tmp rfl _ _ _
  rw [e] at k5 ⊢;cases k5;rfl
 refine ⟨m,K+1,w',y,by omega,⟨T,0,fun t' d' ha => ?_⟩,?_,hbel.size,fun a ha=>hbel.block a ha⟩
 ·have h3:=hL t' d' ha
  rw [runN_add,show (St.at ⟨Frame.enter Tryzx.prog 92 #[.slice A n c] .normal,f :: L,w⟩ t' d')=St.at ⟨Frame.enter (sctx noT ws).Px 92 #[.slice A n c] .normal,[] ++ f :: L,w.tp T 0⟩ t' d' from rfl];rw [show runN Tryzx.prog K (St.at ⟨Frame.enter (sctx noT ws).Px 92 #[.slice A n c] .normal,[] ++ f :: L,w.tp T 0⟩ t' d')=_ from h3];simp only [runN,St.at,hret]
 ·rcases hend with ⟨rfl,hnil⟩ | ⟨g,d,hg,hq,rfl,hh⟩
  ·exact .inl ⟨rfl,(x_cornL xs n).symm.trans hnil⟩
  ·rw [x_cornL,x_cornN] at hh
   rw [x_cornN] at hq;rw [x_cornN];have hT:w'.tape=T:=hbel.tape;have hcc:capOf w'.tape d (cornN xs n) 40=cc:=by rw [hT]; exact capOf_set _ h1 h2 d
   rw [hcc] at hh ⊢;exact .inr ⟨g,hg,(Array.getElem?_eq_some_iff.1 hh).1,hq,rfl,hh⟩
end
end Rn
namespace Rn
open Go.Conc
theorem evOk_evC {C:Ctx} {r:Ren} {SB:Bl} {B:Nat} {e:Event} (h:EvOk C r e) (hr:∀ a b,r a b→b<B∧¬ SB b):EvC SB B e:=by
 refine evOwn_evC (own:=fun b=>∃ a,r a b) (ro:=fun _=>False) ?_ (fun b hb=>by
  rcases hb with ⟨a,ab⟩ | hb
  ·exact hr a b ab
  ·exact hb.elim)
 rcases h with ⟨hs,⟨q,hq,a,ab,_⟩ | ⟨b,hq,a,ab,_⟩⟩ | h
 ·exact .inl ⟨hs,.inl ⟨q,hq,.inl ⟨a,ab⟩⟩⟩
 ·exact .inl ⟨hs,.inr ⟨b,hq,.inl ⟨a,ab⟩⟩⟩
 ·exact .inr h
theorem Rel.comp {P:Program} {s s1 s2:St} (h:Rel P s1 s) {n N:Nat} (hp:Path P s1 n N s2):Rel P s2 s:=by
 obtain ⟨m,M,h1,h2⟩:=h;exact ⟨m+n,M+N,by omega,h2.trans hp⟩
theorem end_fn {P:Program} {s0:St} {f0:Nat} {R:Value→World→Prop} (hR:∀ t d,∃ K v w' fr,runN P K (s0.at t d) = .next (lone fr [Xb] w')∧R v w'∧fr.fn=f0∧fr.leaving P w' (.returned v))
  {n N:Nat} {f:Frame} {w:World} (hp:Path P s0 n N ⟨f,[Xb],w⟩) {u:Tp} {d:Nat} {x:Value} (he:f.leaving P (w.tp u d) (.returned x)):f.fn=f0:=by
 obtain ⟨t,h1,h2⟩:=hp.under u d;obtain ⟨K,v,w',fr,h3,_,h4,h5⟩:=hR t 0;have key:lone f [Xb] (w.tp t n)=lone fr [Xb] w'→f.fn=f0:=fun e=>by
  unfold lone at e;simp at e;obtain ⟨_,e2⟩:=e;rw [e2]; exact h4
 have hE:Ends P false fr w' v := .inl ⟨rfl,h5⟩;have hf:f.mode = .returning:=he.1;by_cases hK:K≤N
 ·have:=runN_add P K (N - K) (s0.at t 0)
  rw [show K+(N - K)=N by omega,h1,h3] at this;rcases run_past hE this.symm with ⟨_,e⟩ | ⟨_,e⟩
  ·exact key e
  ·exfalso
   unfold St.at lone at e;simp at e
 ·obtain ⟨j,rfl⟩:∃ j,K=N+(j+1):=⟨K - N - 1,by omega⟩
  rw [runN_add,h1] at h3;exfalso
  obtain ⟨k1,k2,k3,fn,k4,k5⟩:=he;have hs:∃ o w2,step P (lone f [Xb] (w.tp t n)) = .ended o w2 ∨ ∃ w3,step P (lone f [Xb] (w.tp t n)) = .next (lone Xb [] w3):=by
   cases hr:(results fn f.tmps).run P (w.tp t n) with
   | ok y w1=>exact ⟨.done undef,w,.inr ⟨w1,step_lone_go (by simp [stepG,unwind,doReturn,k1,k2,k3,k4,hr,Xb_finish])⟩⟩
   | halt hh wh =>
    have:∃ o w2,(stepG P true { frame:=f,callers := [Xb],status := .running,dying:=none } (w.tp t n)).bare = .ended o w2:=by
     cases hh <;> exact ⟨_,_,by simp [stepG,unwind,k1,k2,k4,hr]; first | rfl | exact ⟨rfl,rfl⟩⟩
    obtain ⟨o,w2,h⟩:=this;exact ⟨o,w2,.inl (step_lone_ended h)⟩
  obtain ⟨o,w2,hs⟩:=hs;simp only [St.at] at h3;simp only [runN] at h3;rcases hs with hs | ⟨w3,hs⟩
  ·rw [hs] at h3; cases h3
  ·rw [hs] at h3
   cases j with
   | zero =>
    simp only [runN] at h3;unfold lone at h3;simp at h3
   | succ j =>
    simp only [runN] at h3;cases hq:step P (lone Xb [] w3) with
    | next m=>exact absurd hq (step_Xb _ _ _)
    | ended o2 w4=>rw [hq] at h3; cases h3
section
variable {noT : TypeId} {ws : List Win}
theorem engine_loop (hno:Tryz.prog.toTables.info? noT=none) {R:Value→World→Prop} {s0:St} {f0:Nat}
  (hR0:∀ t d,∃ K v w' fr,runN Tryzx.prog K (s0.at t d) = .next (lone fr [Xb] w')∧R v w'∧fr.fn=f0∧fr.leaving Tryzx.prog w' (.returned v)) (hi0:Tryz.prog.inits.idxOf? f0=none) (v0:World) {Post:Value→World→Prop}
  (hpost:∀ r w x v y,VR (gctx noT ws) r x y→R x w→Stays (fun b=>b<v0.heap.size) v0 v→Post y v) :
  ∀ s,Acc (Rel Tryzx.prog) s→∀ {n N:Nat} {r:Ren} {f':Frame} {L':List Frame} {v:World} {gs:Array Goroutine} (sl:Option (Nat × Nat)) {t:Trace} {SB:Bl},Path Tryzx.prog s0 n N s→FrR (gctx noT ws) r s.f f'→LR (gctx noT ws) r [Xb] [] s.L L'→WR (gctx noT ws) r s.w v →
   Calm Tryz.prog SB gs v t→gs[0]?=some (G f' L')→(∀ a b,r a b→¬ SB b)→(∀ a b,r a b→¬ (gctx noT ws).RO a→v0.heap.size≤b)→Stays (fun b=>b<v0.heap.size) v0 v →
   ∃ M last o w' t',runNT Tryz.prog (M+1) (crowd gs v sl) t=(.ended o w',t')∧runN Tryz.prog M (crowd gs v sl) = .next last∧step Tryz.prog last = .ended o w'∧Go.Conc.Good Tryz.prog Post last o w' t':=by
 have hR:Res (gctx noT ws).Px (fun b x w=>b=false∧R x w) s0:=fun t d=>by
  obtain ⟨K,v,w',fr,h1,h2,_,h3⟩:=hR0 t d;exact ⟨K,false,v,w',fr,h1,⟨rfl,h2⟩,.inl ⟨rfl,h3⟩⟩
 intro s hacc;induction hacc with
 | intro s _ ih =>
  obtain ⟨f,L,w⟩:=s;intro n N r f' L' v gs sl t SB hp hf hl hw hc h0 hsb hnew hst;by_cases hend:f.mode = .returning∧L = [Xb]
  ·obtain ⟨hm,rfl⟩:=hend
   have hL':L' = []:=by
    generalize hX : [Xb]=X at hl;cases hl with
    | nil=>rfl
    | cons a b=>simp only [List.cons.injEq] at hX; obtain ⟨_,rfl⟩:=hX; cases b
   subst hL';obtain ⟨q,hq⟩:=hc.fuel;refine beside_last (a:=G f' []) (sl:=sl) _ (Nat.le_refl _) hc hq h0 rfl fun d => ?_
   obtain ⟨u,e,hT,⟨_,b,x,⟨rfl,hRx⟩,hends⟩ | ⟨f1,L1,w1,m,hnf,_⟩⟩:=stepOn (main:=true) gok hR hp hf hl (hw.atR d);rotate_left
   ·exact absurd ⟨hm,rfl⟩ hnf
   have hlv:f.leaving Tryzx.prog (w.tp u e) (.returned x):=by
    rcases hends with ⟨_,h⟩ | ⟨h,_⟩
    ·exact h
    ·cases h
   have hfn:=end_fn hR0 hp hlv;obtain ⟨y,v1,es,r1,hs,hext,hw1,hev,hvr⟩:=end_step gok hf ((hw.atR d).tp u e) hT hlv (by rw [hfn]; exact hi0);have hsz:v.heap.size≤v1.heap.size:=by
    have:=hext.size;have:=hext.sizeL;show (v.at d).heap.size≤_
    omega
   refine ⟨y,v1,es,hs,hpost r1 _ x v1 y hvr hRx ?_,fun ev hev1=>evOk_evC (hev ev hev1) fun a b ab=>⟨(hw1.lt a b ab).2,fun hx => ?_⟩⟩
   ·refine ⟨hext.tape.trans hst.tape,hext.os.trans hst.os,hext.output.trans hst.output,Nat.le_trans hst.size hsz,fun b hb _ => ?_⟩
    rw [← hst.block b hb hb];show v1.heap[b]?=(v.at d).heap[b]?
    by_cases hx:∃ a,r a b
    ·obtain ⟨a,ab⟩:=hx
     by_cases hr:(gctx noT ws).RO a
     ·exact hext.keepRO a b ab hr
     ·exact absurd (hnew a b ab hr) (by omega)
    ·exact hext.keep b (Nat.lt_of_lt_of_le hb hst.size) fun a ab=>hx ⟨a,ab⟩
   ·rcases hext.new a b ab with h1 | ⟨i,_,rfl⟩
    ·exact hsb a b h1 hx
    ·have:=hc.sb _ hx
     have h2:(v.at d).heap.size=v.heap.size:=rfl;omega
  ·have hall:∀ d,∃ u e,TE (w.tp u e) (v.at d)∧∃ f1 L1 w1 m,Path Tryzx.prog s0 (n+m) (N+1) ⟨f1,L1,w1⟩∧Rel Tryzx.prog ⟨f1,L1,w1⟩ ⟨f,L,w⟩∧Answers (gctx noT ws) r [Xb] [] true f' L' (w.tp u e) (v.at d) (G f1 L1) w1:=fun d=>by
    obtain ⟨u,e,hT,⟨hL,b,x,⟨rfl,hRx⟩,hends⟩ | ⟨f1,L1,w1,m,hnf,_,hp1,hrel,hans⟩⟩:=stepOn (main:=true) gok hR hp hf hl (hw.atR d)
    ·exfalso
     rcases hends with ⟨_,h⟩ | ⟨h,_⟩
     ·exact hend ⟨h.1,hL⟩
     ·cases h
    ·exact ⟨u,e,hT,f1,L1,w1,m,hp1,hrel,hans⟩
   have hfacts:∀ (d:Nat) (r1:Ren) (w1 v1:World) (u:Tp) (e:Nat),Ext (gctx noT ws) r (w.tp u e) (v.at d) r1 w1 v1→WR (gctx noT ws) r1 w1 v1→v.heap.size≤v1.heap.size∧(∀ a b,r1 a b→¬ SB b)∧(∀ a b,r1 a b→¬ (gctx noT ws).RO a→v0.heap.size≤b)∧Stays (fun b=>b<v0.heap.size) v0 v1:=by
    intro d r1 w1 v1 u e hext hw1;have h2:(v.at d).heap.size=v.heap.size:=rfl;have hsz:v.heap.size≤v1.heap.size:=by
     have:=hext.size;have:=hext.sizeL;omega
    refine ⟨hsz,fun a b ab hx => ?_,fun a b ab hr => ?_,hext.tape.trans hst.tape,hext.os.trans hst.os,hext.output.trans hst.output,Nat.le_trans hst.size hsz,fun b hb _ => ?_⟩
    ·rcases hext.new a b ab with h1 | ⟨i,_,rfl⟩
     ·exact hsb a b h1 hx
     ·have:=hc.sb _ hx
      omega
    ·rcases hext.new a b ab with h1 | ⟨i,_,rfl⟩
     ·exact hnew a b h1 hr
     ·have:=hst.size
      omega
    ·rw [← hst.block b hb hb]
     show v1.heap[b]?=(v.at d).heap[b]?
     by_cases hx:∃ a,r a b
     ·obtain ⟨a,ab⟩:=hx
      by_cases hr:(gctx noT ws).RO a
      ·exact hext.keepRO a b ab hr
      ·exact absurd (hnew a b ab hr) (by omega)
     ·exact hext.keep b (Nat.lt_of_lt_of_le hb hst.size) fun a ab=>hx ⟨a,ab⟩
   obtain ⟨N1,gs1,sl1,t1,d,a1,v1,es,e1,e2,e3,c1,g1,s1⟩:=beside_step sl hc h0 rfl fun d=>by
    obtain ⟨u,e,hT,f1,L1,w1,m,hp1,hrel,h',v',es,r',hstep,hext,hw',hT',hev,hout⟩:=hall d;obtain ⟨k1,k2,_,_⟩:=hfacts d r' w1 v' u e hext hw';exact ⟨h',v',es,hstep,k1,fun ev hev1=>evOk_evC (hev ev hev1) fun a b ab=>⟨(hw'.lt a b ab).2,k2 a b ab⟩⟩
   obtain ⟨u,e,hT,f1,L1,w1,m,hp1,hrel,h',v',es',r1,hstep,hext,hw1,hT1,hev,hout⟩:=hall d;rw [show stepG Tryz.prog true (G f' L') (v.at d)=_ from hstep] at e3;simp only [GStep.go.injEq] at e3;obtain ⟨rfl,rfl,_⟩:=e3;obtain ⟨k1,k2,k3,k4⟩:=hfacts d r1 w1 v' u e hext hw1;suffices hs:∃ M last o w' t',runNT Tryz.prog (M+1) (crowd gs1 v' sl1) t1=(.ended o w',t')∧runN Tryz.prog M (crowd gs1 v' sl1) = .next last∧step Tryz.prog last = .ended o w'∧Go.Conc.Good Tryz.prog Post last o w' t' by
    obtain ⟨M,last,o,w',t',q1,q2,q3,q4⟩:=hs;exact ⟨N1+M,last,o,w',t',by rw [Nat.add_assoc,runNT_add,e1]; exact q1,by rw [runN_add,e2]; exact q2,q3,q4⟩
   generalize hgl:G f1 L1=gl at hout;cases hout with
   | @go f2 f2' L2 L2' a b =>
    unfold G at hgl;simp at hgl;obtain ⟨rfl,rfl⟩:=hgl;exact ih ⟨f1,L1,w1⟩ hrel sl1 hp1 a b hw1 c1 g1 k2 k3 k4
   | @call fn args args' f2 f2' L2 L2' hent hnf hargs hf2 hl2 =>
    unfold G at hgl;simp at hgl;obtain ⟨rfl,rfl⟩:=hgl;have hfn:fn=92∧args.size=1:=by
     rcases hent with h | ⟨⟨k,h⟩,h1⟩
     ·exact absurd (gfine h) hnf
     ·exact ⟨lawD_spec h,h1⟩
    obtain ⟨rfl,hsz⟩:=hfn;obtain ⟨x,rfl⟩:∃ x,args = #[x]:=Array.size_eq_one_iff.1 hsz;have hsz':args'.size=1:=by rw [← hargs.size]; rfl
    obtain ⟨x',rfl⟩:∃ x,args' = #[x]:=Array.size_eq_one_iff.1 hsz';have hx:VR (gctx noT ws) r1 x x':=hargs.get 0 _ _ rfl rfl;obtain ⟨cs2,rfl,hpl⟩:=hl2.plain;have hplf:PlainF Tryzx.prog f2:=by
     cases hf2 with
     | mk m hF _ _ =>
      obtain ⟨fn,c,h1,_⟩:=hF.body;exact ⟨rfl,⟨fn,h1⟩,by cases m <;> first | exact .inl rfl | exact .inr rfl⟩
    obtain ⟨t',_,K,b,xx,w',fr,hK,hRx,hE⟩:=hR.ahead hp1 (by simp) (fun _ _=>0) 0;have hah:Ahead Tryzx.prog (Frame.enter Tryzx.prog 92 #[x] .normal) ((f2 :: cs2) ++ [Xb]) (w1.tp t' (n+m)):=⟨K,b,fr,w',xx,hK,hE⟩;obtain ⟨A,nn,c,xs,rfl,hin⟩:=inv_rows (by simp) (fun q hq=>by
     rcases List.mem_cons.1 hq with rfl | hq
     ·exact hplf
     ·exact hpl q hq) hah (vr_self hx) (((wr_self hw1).tp t' _).tpR t' _)
    have hin1:RowsIn A nn xs w1:=hin;obtain ⟨A',rfl,hin',hA'⟩:=rows_real hw1 hx hin1;obtain ⟨N2,gs2,sl2,t2,v2,SB2,y',own,e4,c2,hSB,g2,hst2,hown,hval⟩:=cornersWhole hno sl1 c1 g1 hin' (fun a ha=>by
     obtain ⟨b,hb⟩:=hA' a ha;exact ⟨(hw1.lt _ _ hb).2,k2 _ _ hb⟩) hw1.big.2
    have e5:runN Tryz.prog N2 (crowd gs1 v' sl1) = .next (crowd gs2 v2 sl2):=by rw [← runNT_fst _ _ _ t1,e4]
    have hlen:=(corn_acc xs nn).len;have hfew:=(corn_acc xs nn).few;obtain ⟨cc,hc1,hc2,hcc⟩:∃ cc,cornN xs nn≤cc∧cc≤maxLen∧∀ g q cap,y' = .slice (some ⟨g,0,none⟩) q cap→cap=cc∧q=cornN xs nn:=by
     rcases hval with ⟨rfl,hnil⟩ | ⟨g,q,cap,cur,rfl,_,hq,_,hqc,hcm,_⟩
     ·exact ⟨cornN xs nn,Nat.le_refl _,by unfold maxLen; omega,fun g q cap e=>by cases e⟩
     ·exact ⟨cap,by omega,hcm,fun g' q' cap' e=>by cases e; exact ⟨rfl,by omega⟩⟩
    obtain ⟨m2,N3,w2,y,hN3,hp2,hlv,hsz2,hold⟩:=lone_call hw1 hx hin1 hc1 hc2 f2 (cs2 ++ [Xb]);have hp3:=hp1.trans hp2;have hrel3:=hrel.comp hp2;have hwg:=hw1.grow hsz2 hst2.size hold (fun b hb=>hst2.block b hb hb);have hSB2:∀ a b,r1 a b→¬ SB2 b:=fun a b ab hx=>by
     rcases hSB b hx with h | h
     ·exact k2 a b ab h
     ·have:=(hw1.lt a b ab).2; omega
    have hst3:Stays (fun b=>b<v0.heap.size) v0 v2:=⟨hst2.tape.trans k4.tape,hst2.os.trans k4.os,hst2.output.trans k4.output,Nat.le_trans k4.size hst2.size,fun b hb _=>(hst2.block b (Nat.lt_of_lt_of_le hb k4.size) (Nat.lt_of_lt_of_le hb k4.size)).trans (k4.block b hb hb)⟩;suffices hs:∃ M last o w' t',runNT Tryz.prog (M+1) (crowd gs2 v2 sl2) t2=(.ended o w',t')∧runN Tryz.prog M (crowd gs2 v2 sl2) = .next last∧step Tryz.prog last = .ended o w'∧Go.Conc.Good Tryz.prog Post last o w' t' by
     obtain ⟨M,last,o,w',t',q1,q2,q3,q4⟩:=hs;exact ⟨N2+M,last,o,w',t',by rw [Nat.add_assoc,runNT_add,e4]; exact q1,by rw [runN_add,e5]; exact q2,q3,q4⟩
    rcases hlv with ⟨rfl,hnil⟩ | ⟨g,hg,hglt,hq,rfl,hh⟩
    ·have hy:y' = .slice none 0 0:=by
      rcases hval with ⟨rfl,_⟩ | ⟨g,q,cap,cur,rfl,_,hq,hq1,_⟩
      ·rfl
      ·rw [hnil] at hq; simp at hq; omega
     subst hy;exact ih ⟨f2.finish (.slice none 0 0),cs2 ++ [Xb],w2⟩ hrel3 sl2 hp3 (hf2.finish (.sl0 0 0)) hl2 hwg c2 g2 hSB2 k3 hst3
    ·rcases hval with ⟨rfl,hnil⟩ | ⟨g',q,cap,cur,rfl,hog,hq4,hq1,hqc,hcm,hh',hcs,hcx,hcz⟩
     ·exfalso
      rw [cornN,hnil] at hq;simp at hq
     obtain ⟨rfl,rfl⟩:=hcc _ _ _ rfl;obtain ⟨hg1,hg2,hg3⟩:=hown _ hog;have hx1:∀ b,¬ r1 g b:=fun b hb=>by have:=(hw1.lt _ _ hb).1; omega
     have hx2:∀ a,¬ r1 a g':=fun a ha=>by have:=(hw1.lt _ _ ha).2; omega
     have hro:¬ (gctx noT ws).RO g:=fun h=>by have:=hw1.roLt _ h; omega
     have hva:VAll (gctx noT ws) (r1.ext g g') (((cornL xs nn).map (Value.int .i64)).toArray ++ Builtin.zeroCells #[.int .i64 0,.int .i64 0,.int .i64 0,.int .i64 0] (cap - cornN xs nn)) cur:=by
      refine ⟨?_,fun i x y hxi hyi => ?_⟩
      ·rw [Array.size_append,size_zeroCells,hcs]
       simp only [List.size_toArray,List.length_map,hlen,List.length_cons,List.length_nil,Nat.reduceAdd];omega
      ·have hilt:=(Array.getElem?_eq_some_iff.1 hyi).1
       rw [hcs] at hilt;rw [Array.getElem?_append] at hxi;by_cases hi:i<cornN xs nn*4
       ·rw [hcx i hi] at hyi
        cases hyi;rw [if_pos (by simpa [hlen] using hi)] at hxi;have hil:i<(cornL xs nn).length:=by omega
        simp only [List.getElem?_toArray,List.getElem?_map,List.getElem?_eq_getElem hil,Option.map_some,Option.some.injEq] at hxi;subst hxi;rw [nth_get _ i hil];exact .int _ _
       ·rw [hcz i (by omega) hilt] at hyi
        cases hyi;rw [if_neg (by simpa [hlen] using hi)] at hxi;rw [zeroCells_at zz4 (Array.getElem?_eq_some_iff.1 hxi).1] at hxi;cases hxi;exact .int _ _
     have hw3:=hwg.pair hglt hg2 hx1 hx2 hro ⟨Nat.le_trans hw1.big.1 hg,Nat.le_trans hw1.big.2 hg1⟩ (by rw [hh,hh']; exact .cells hva);have hvr:VR (gctx noT ws) (r1.ext g g') (.slice (some ⟨g,0,none⟩) (cornN xs nn) cap) (.slice (some ⟨g',0,none⟩) (cornN xs nn) cap) := .sl _ _ ⟨.inr ⟨rfl,rfl⟩,by show 0=0+(gctx noT ws).sh g; rw [hw3.shz _ hro],rfl⟩;have hsub:=Ren.sub_ext r1 g g';refine ih ⟨f2.finish (.slice (some ⟨g,0,none⟩) (cornN xs nn) cap),cs2 ++ [Xb],w2⟩ hrel3 sl2 hp3 ((hf2.mono hsub).finish hvr) (hl2.mono hsub) hw3 c2 g2 (fun a b ab => ?_) (fun a b ab hr => ?_) hst3
     ·rcases ab with ab | ⟨rfl,rfl⟩
      ·exact hSB2 a b ab
      ·exact hg3
     ·rcases ab with ab | ⟨rfl,rfl⟩
      ·exact k3 a b ab hr
      ·have:=k4.size; omega
end
end Rn
namespace Rn
open Go.Conc
noncomputable def lworld (noT:TypeId) (ws:List Win) (v:World):World := { v with heap:=(Array.replicate Tryz.prog.globals.size (Obj.map #[] 0)) ++ (ws.map fun x=>Obj.cells x.cells noT (0,x.cells.size)).toArray }
def lR (ws:List Win):Ren:=fun a b=>∃ (i:Nat) (x:Win),ws[i]?=some x∧x.live=true∧a=Tryz.prog.globals.size+i∧b=x.blk
section
variable {noT : TypeId} {ws : List Win} {v : World}
theorem l_size:(lworld noT ws v).heap.size=Tryz.prog.globals.size+ws.length:=by
 show ((Array.replicate Tryz.prog.globals.size (Obj.map #[] 0)) ++ (ws.map fun x=>Obj.cells x.cells noT (0,x.cells.size)).toArray).size=_
 simp
theorem l_at {i:Nat} {x:Win} (h:ws[i]?=some x):(lworld noT ws v).heap[Tryz.prog.globals.size+i]?=some (.cells x.cells noT (0,x.cells.size)):=by
 show ((Array.replicate Tryz.prog.globals.size (Obj.map #[] 0)) ++ (ws.map fun x=>Obj.cells x.cells noT (0,x.cells.size)).toArray)[Tryz.prog.globals.size+i]?=_
 rw [Array.getElem?_append,if_neg (by simp)];simp [h]
def WinsOk (noT:TypeId) (ws:List Win) (v:World):Prop:=∀ (i:Nat) (x:Win),ws[i]?=some x→x.live=true→∃ c' t' z',v.heap[x.blk]?=some (.cells c' t' z')∧∀ (k:Nat) u,x.cells[k]?=some u→∃ u',c'[k+x.off]?=some u'∧VR (gctx noT ws) (lR ws) u u'
theorem l_wr (hno:Tryz.prog.toTables.info? noT=none) (hG:Tryz.prog.globals.size≤v.heap.size) (h:WinsOk noT ws v):WR (gctx noT ws) (lR ws) (lworld noT ws v) v where
 lt:=by
  rintro a b ⟨i,x,hi,hl,rfl,rfl⟩;obtain ⟨c',t',z',k,_⟩:=h i x hi hl;exact ⟨by rw [l_size]; have:=(List.getElem?_eq_some_iff.1 hi).1; omega,(Array.getElem?_eq_some_iff.1 k).1⟩
 fn:=by
  rintro a b b' ⟨i,x,hi,_,rfl,rfl⟩ ⟨i',x',hi',_,e,rfl⟩;obtain rfl:i=i':=by omega
  rw [hi] at hi'; cases hi'; rfl
 inj:=by
  rintro a a' b ⟨i,x,hi,_,rfl,_⟩ ⟨i',x',hi',_,rfl,_⟩;have:=(List.getElem?_eq_some_iff.1 hi).1;have:=(List.getElem?_eq_some_iff.1 hi').1;exact .inr ⟨⟨by omega,by omega⟩,⟨by omega,by omega⟩⟩
 obj:=by
  rintro a b ⟨i,x,hi,_,rfl,_⟩ hr;have:=(List.getElem?_eq_some_iff.1 hi).1;exact absurd (show (gctx noT ws).RO _ from ⟨by omega,by omega⟩) hr
 win:=by
  rintro a b ⟨i,x,hi,hl,rfl,rfl⟩ hr;obtain ⟨c',t',z',k,hk⟩:=h i x hi hl;have hlt:=(List.getElem?_eq_some_iff.1 hi).1;refine ⟨x.cells,x.cells.size,c',t',z',l_at hi,Nat.le_refl _,k,fun j u hu => ?_⟩;have e:(gctx noT ws).sh (Tryz.prog.globals.size+i)=x.off:=by
   show (if Tryz.prog.globals.size≤Tryz.prog.globals.size+i∧Tryz.prog.globals.size+i<Tryz.prog.globals.size+ws.length then ((ws[Tryz.prog.globals.size+i - Tryz.prog.globals.size]?).map (·.off)).getD 0 else 0)=_
   rw [if_pos ⟨by omega,by omega⟩,Nat.add_sub_cancel_left,hi];rfl
  rw [e];exact hk j u hu
 winG:=by rintro a b ⟨i,x,hi,_,rfl,_⟩ _; exact Nat.le_add_right _ _
 glob:=by
  rintro a b ⟨i,x,hi,_,rfl,_⟩ hr;have:=(List.getElem?_eq_some_iff.1 hi).1;exact absurd (show (gctx noT ws).RO _ from ⟨by omega,by omega⟩) hr
 big:=⟨by rw [l_size]; exact Nat.le_add_right _ _,hG⟩;shz:=by
  intro a hr;show (if Tryz.prog.globals.size≤a∧a<Tryz.prog.globals.size+ws.length then _ else 0)=0
  rw [if_neg (show ¬ (Tryz.prog.globals.size≤a∧a<Tryz.prog.globals.size+ws.length) from hr)]
 roLt:=by rintro a ⟨_,h2⟩; rw [l_size]; exact h2
 noInfo:=hno
theorem calm0 (g:Goroutine) (w:World):Calm Tryz.prog (fun _=>False) #[g] w #[] where
 old:=fun i x hi hx=>by
  have:=(Array.getElem?_eq_some_iff.1 hx).1;simp at this;omega
 above:=fun k _=>rfl
 past:=⟨fun said ⟨i,j,h⟩=>by
  obtain ⟨_,⟨a,b,ha,_⟩,_⟩:=h;simp [Trace.act?] at ha,fun i a ha=>by simp [touchAt,Trace.act?] at ha,fun i g hg=>by simp [Trace.g?] at hg,rfl⟩
 seen:=fun op hop=>by simp at hop
 norel:=fun op hop=>by simp at hop
 sb:=fun b h=>h.elim
theorem engine (hno:Tryz.prog.toTables.info? noT=none) {f0:Nat} (hf0:lawF f0=true) (hi0:Tryz.prog.inits.idxOf? f0=none) {largs args:Array Value} (hG:Tryz.prog.globals.size≤v.heap.size) (hws:WinsOk noT ws v) (hargs:VAll (gctx noT ws) (lR ws) largs args)
  (hcalls:∀ t d,Calls Tryzx.prog f0 largs ((lworld noT ws v).tp t d) fun e _=>e = .returned (.bool true)) :
  ∃ M last o w' t',runNT Tryz.prog (M+1) (solo (G (Frame.enter Tryz.prog f0 args .normal) []) v) #[]=(.ended o w',t')∧runN Tryz.prog M (solo (G (Frame.enter Tryz.prog f0 args .normal) []) v) = .next last∧step Tryz.prog last = .ended o w' ∧
   Go.Conc.Good Tryz.prog (fun y w'=>y = .bool true∧Stays (fun b=>b<v.heap.size) v w') last o w' t':=by
 have hR0:∀ t d,∃ K x w' fr,runN Tryzx.prog K (St.at ⟨Frame.enter Tryzx.prog f0 largs .normal,[Xb],lworld noT ws v⟩ t d) = .next (lone fr [Xb] w')∧x = .bool true∧fr.fn=f0∧fr.leaving Tryzx.prog w' (.returned x):=fun t d=>by
  obtain ⟨e,w',fr,rfl,⟨K,hK⟩,h1,h2⟩:=hcalls t d [Xb];exact ⟨K,_,w',fr,hK,rfl,h1,h2⟩
 have hres:Res Tryzx.prog (fun b x w=>b=false∧x = .bool true) ⟨Frame.enter Tryzx.prog f0 largs .normal,[Xb],lworld noT ws v⟩:=fun t d=>by
  obtain ⟨K,x,w',fr,h1,h2,_,h3⟩:=hR0 t d;exact ⟨K,false,x,w',fr,h1,⟨rfl,h2⟩,.inl ⟨rfl,h3⟩⟩
 have hwr:=l_wr hno hG hws;have hfr:=enter_FrR (C:=gctx noT ws) (gfine hf0) hargs;rw [solo_eq_crowd];have hpost:∀ (r:Ren) (w:World) (x:Value) (u:World) (y:Value),VR (gctx noT ws) r x y→x = .bool true→Stays (fun b=>b<v.heap.size) v u→y = .bool true∧Stays (fun b=>b<v.heap.size) v u:=fun r w x u y hv hx hst=>by
  subst hx;cases hv;exact ⟨rfl,hst⟩
 have hnew:∀ a b,lR ws a b→¬ (gctx noT ws).RO a→v.heap.size≤b:=fun a b ab hr=>by
  obtain ⟨i,x,hi,_,rfl,_⟩:=ab;have:=(List.getElem?_eq_some_iff.1 hi).1;exact absurd (show (gctx noT ws).RO _ from ⟨by omega,by omega⟩) hr
 exact engine_loop (noT:=noT) (ws:=ws) hno (R:=fun x _=>x = .bool true) hR0 hi0 v hpost _ hres.acc none (Path.refl _ _) hfr (LR.nil) hwr (calm0 _ _) rfl (fun a b _ h=>h) hnew (.refl _ _)
end
end Rn
namespace Rn
open Go.Conc Go.WideShapes
def AtCells (v:World) (A:Option Addr):Prop:=∀ a,A=some a→a.spot=none∧∃ c t z,v.heap[a.block]?=some (.cells c t z)
section
variable {P : Program} {w : World} {r : Reach} {base : Nat} {t e u : TypeId} {fs : Array Field} {A : Option Addr} {n c : Nat}
theorem has_cells {a:Addr} {k:Nat} (h:World.has P w r base a e k):a.spot=none∧∃ c t z,w.heap[a.block]?=some (.cells c t z):=by
 obtain ⟨_,h1,row,cells,h2,_⟩:=h;refine ⟨h1,?_⟩;unfold World.shape? at h2;split at h2
 ·rename_i c el z h; exact ⟨_,_,_,h⟩
 ·cases h2
theorem cell_atCells (ht:P.underlying t=some (.slice e)) (h:Cell.okWide P w r base t (.slice A n c)):AtCells w A:=by
 intro a ha; subst ha;simp only [Cell.okWide,ht,Cell.ok] at h;exact has_cells h.2.2
theorem slice_atCells (ht:P.underlying t=some (.slice e)) (h:Value.okWide P w r base t (.slice A n c)):AtCells w A:=by
 simp only [Value.okWide,ht] at h;exact cell_atCells ht h
theorem hold_atCells (ht:P.underlying t=some (.struct fs)) (hc:P.cellTypes P.depth t=some [u]) (hu:P.underlying u=some (.slice e)) (h:Value.okWide P w r base t (.agg #[.slice A n c])):AtCells w A:=by
 simp only [Value.okWide,ht] at h;obtain ⟨cs,e1,_,ts,h2,_,h3⟩:=h;cases e1;rw [hc] at h2; cases h2;obtain ⟨u',hu',h4⟩:=h3 0 _ rfl;simp at hu'; subst hu';exact cell_atCells hu h4
end
noncomputable def winOf (k:IntKind) (A:Option Addr) (m:Nat) (zs:List Int):Win:=match A with
 | none=>⟨false,0,0,#[]⟩
 | some a=>⟨true,a.block,a.off,((List.range m).map fun i=>Value.int k (nth zs i)).toArray⟩
noncomputable def lA (A:Option Addr) (i:Nat):Option Addr:=match A with | none=>none | some _=>some ⟨Tryz.prog.globals.size+i,0,none⟩
section
variable {noT : TypeId} {ws : List Win} {v : World} {B K n i : Nat} {A : Option Addr} {zs : List Int}
def WinOk (noT:TypeId) (ws:List Win) (v:World) (x:Win):Prop:=x.live=true→∃ c' t' z',v.heap[x.blk]?=some (.cells c' t' z')∧∀ (k:Nat) u,x.cells[k]?=some u→∃ u',c'[k+x.off]?=some u'∧VR (gctx noT ws) (lR ws) u u'
theorem winOf_ok (hat:AtCells v A) (h:RecsAt v B K A n zs):WinOk noT ws v (winOf .i64 A (n*K) zs):=by
 cases A with
 | none=>intro hl; cases hl
 | some a =>
  intro _;obtain ⟨hs,c,t,z,hh⟩:=hat a rfl;refine ⟨c,t,z,hh,fun k u hu => ?_⟩;have hk:k<n*K:=by
   have:=(Array.getElem?_eq_some_iff.1 hu).1;simpa [winOf] using this
  have hn:0<n:=by
   rcases Nat.eq_zero_or_pos n with e | e
   ·rw [e,Nat.zero_mul] at hk; omega
   ·exact e
  have hu':u = .int .i64 (nth zs k):=by
   simp [winOf,hk] at hu;exact hu.symm
  subst hu';obtain ⟨b,off,e,_,hc⟩:=h.2 hn;cases e;have:=hc k hk;simp only [World.cell?,hh,Option.isSome_none,Bool.false_eq_true,if_false] at this;exact ⟨_,by rw [Nat.add_comm]; exact this,.int _ _⟩
theorem winsOk_nil:WinsOk noT ws v ↔ ∀ x ∈ ws,WinOk noT ws v x:=by
 refine ⟨fun h x hx => ?_,fun h i x hi=>h x (List.mem_of_getElem? hi)⟩;obtain ⟨i,hi⟩:=List.getElem?_of_mem hx;exact h i x hi
theorem lone_recs (h:RecsAt v B K A n zs) (hi:ws[i]?=some (winOf .i64 A (n*K) zs)) (t:Tp) (d:Nat):RecsAt ((lworld noT ws v).tp t d) ((lworld noT ws v).tp t d).heap.size K (lA A i) n zs:=by
 refine ⟨h.1,fun hn => ?_⟩;obtain ⟨b,off,rfl,_,_⟩:=h.2 hn;refine ⟨Tryz.prog.globals.size+i,0,rfl,?_,fun k hk => ?_⟩
 ·show _<(lworld noT ws v).heap.size
  rw [l_size];have:=(List.getElem?_eq_some_iff.1 hi).1;omega
 ·show (match (lworld noT ws v).heap[Tryz.prog.globals.size+i]? with | some (.cells c _ _)=>c[0+k]? | _=>none)=_
  rw [l_at hi];simp [winOf,hk]
theorem vr_slice {k:IntKind} {m c:Nat} (hat:AtCells v A) (hi:ws[i]?=some (winOf k A m zs)):VR (gctx noT ws) (lR ws) (.slice (lA A i) n c) (.slice A n c):=by
 cases A with
 | none=>exact .sl0 _ _
 | some a =>
  refine .sl _ _ ⟨⟨i,_,hi,rfl,rfl,rfl⟩,?_,(hat a rfl).1⟩;have hlt:=(List.getElem?_eq_some_iff.1 hi).1;show a.off=0+(if Tryz.prog.globals.size≤Tryz.prog.globals.size+i∧Tryz.prog.globals.size+i<Tryz.prog.globals.size+ws.length then ((ws[Tryz.prog.globals.size+i - Tryz.prog.globals.size]?).map (·.off)).getD 0 else 0)
  rw [if_pos ⟨by omega,by omega⟩,Nat.add_sub_cancel_left,hi];simp [winOf]
theorem vr_hold {x y:Value} (h:VR (gctx noT ws) (lR ws) x y):VR (gctx noT ws) (lR ws) (.agg #[x]) (.agg #[y]) := .aggA (VAll.nil.push h)
theorem stays_below {v w:World} (h:Stays (fun b=>b<v.heap.size) v w):Go.RowKit.Below v.heap.size v w:=⟨h.os,h.tape,h.output,h.size,fun k hk=>h.block k hk hk⟩
end
end Rn
end Go.Proofs.YtodneggnnipcnaaGreat
section
namespace Go.Proofs.Tryzx
theorem ntmps9:Tryz.f9.ntmps=12:=Tryz.ntmps9
theorem ntmps10:Tryz.f10.ntmps=12:=Tryz.ntmps10
theorem ntmps12:Tryz.f12.ntmps=9:=Tryz.ntmps12
theorem ntmps13:Tryz.f13.ntmps=23:=Tryz.ntmps13
theorem ntmps15:Tryz.f15.ntmps=11:=Tryz.ntmps15
theorem ntmps16:Tryz.f16.ntmps=27:=Tryz.ntmps16
theorem ntmps19:Tryz.f19.ntmps=25:=Tryz.ntmps19
theorem ntmps21:Tryz.f21.ntmps=22:=Tryz.ntmps21
theorem ntmps23:Tryz.f23.ntmps=26:=Tryz.ntmps23
theorem ntmps26:Tryz.f26.ntmps=20:=Tryz.ntmps26
theorem ntmps27:Tryz.f27.ntmps=18:=Tryz.ntmps27
theorem ntmps29:Tryz.f29.ntmps=13:=Tryz.ntmps29
theorem ntmps31:Tryz.f31.ntmps=17:=Tryz.ntmps31
theorem ntmps34:Tryz.f34.ntmps=12:=Tryz.ntmps34
theorem ntmps38:Tryz.f38.ntmps=23:=Tryz.ntmps38
theorem ntmps39:Tryz.f39.ntmps=14:=Tryz.ntmps39
theorem ntmps43:Tryz.f43.ntmps=27:=Tryz.ntmps43
theorem ntmps44:Tryz.f44.ntmps=20:=Tryz.ntmps44
theorem ntmps50:Tryz.f50.ntmps=27:=Tryz.ntmps50
theorem ntmps51:Tryz.f51.ntmps=27:=Tryz.ntmps51
theorem ntmps53:Tryz.f53.ntmps=23:=Tryz.ntmps53
theorem ntmps54:Tryz.f54.ntmps=23:=Tryz.ntmps54
theorem ntmps56:Tryz.f56.ntmps=27:=Tryz.ntmps56
theorem ntmps57:Tryz.f57.ntmps=27:=Tryz.ntmps57
theorem ntmps64:Tryz.f64.ntmps=13:=Tryz.ntmps64
theorem ntmps72:Tryz.f72.ntmps=17:=Tryz.ntmps72
theorem ntmps91:Tryz.f91.ntmps=11:=Tryz.ntmps91
theorem ntmps100:Tryz.f100.ntmps=15:=Tryz.ntmps100
end Go.Proofs.Tryzx
end
namespace Go.Proofs.YtodneggnnipcnaaGreat
namespace X
open Go.RowKit
set_option maxHeartbeats 400000 in
theorem toPoint_any (x0 x1:Int) (w:World):Calls Tryzx.prog 91 #[.agg #[.int .i64 x0,.int .i64 x1]] w fun e w'=>e = .returned (.agg #[.int .i64 x0,.int .i64 x1])∧Below w.heap.size w w':=by
 go_enter Tryzx.func91,Tryz.ntmps91;go_wp2;exact bodyPost_ret (v := .agg #[.int .i64 x0,.int .i64 x1]) (by simp [results,Tryz.results91,go_sem]) rfl ⟨rfl,(((Below.refl _ _).alloc (Nat.le_refl _) _).alloc (by simp) _).alloc (by simp; omega) _⟩
end X
namespace X
open Go.RowKit
theorem infoJoint:(Tryzx.prog.info? 100).map (fun i=>(i.zero,i.size,i.bytes))=some (some (.agg #[.int .i64 0,.int .i64 0,.int .i64 0,.int .i64 0]),4,32):=by kernel_rfl
set_option maxHeartbeats 400000 in
theorem toJoint_any (x0 x1 x2 x3:Int) (w:World):Calls Tryzx.prog 64 #[.agg #[.int .i64 x0,.int .i64 x1,.int .i64 x2,.int .i64 x3]] w fun e w'=>e = .returned (.agg #[.int .i64 x0,.int .i64 x1,.int .i64 x2,.int .i64 x3])∧Below w.heap.size w w':=by
 go_enter Tryzx.func64,Tryz.ntmps64;go_wp2_with fail
 refine (toPoint_any _ _ _).mono ?_;rintro e w1 ⟨rfl,hb1⟩;have hz1:=hb1.size;simp at hz1;have ra:RowF w1 w.heap.size 104 4 (ints [x0,x1,x2,x3]):=(((RowF.of_row (World.rowIs_alloc w #[.int .i64 x0,.int .i64 x1,.int .i64 x2,.int .i64 x3] _ _ (fun j hj=>by simp at hj; match j,hj with | 0,_=>rfl | 1,_=>rfl | 2,_=>rfl | 3,_=>rfl))).alloc _).alloc _).after hb1
 have rr:RowF w1 (w.heap.size+1) 100 4 (ints [0,0,0,0]):=by
  have h:=((RowF.of_row (World.rowIs_alloc (w.alloc (.cells #[.int .i64 x0,.int .i64 x1,.int .i64 x2,.int .i64 x3] 104)) #[.int .i64 0,.int .i64 0,.int .i64 0,.int .i64 0] 100 (ints [0,0,0,0]) (fun j hj=>by simp at hj; match j,hj with | 0,_=>rfl | 1,_=>rfl | 2,_=>rfl | 3,_=>rfl))).alloc (.cells #[.int .i64 0,.int .i64 0,.int .i64 0,.int .i64 0] 100)).after hb1
  simpa using h
 have ro:RowF w1 (w.heap.size+1+1) 100 4 (ints [0,0,0,0]):=by
  have h:=(RowF.of_row (World.rowIs_alloc ((w.alloc (.cells #[.int .i64 x0,.int .i64 x1,.int .i64 x2,.int .i64 x3] 104)).alloc (.cells #[.int .i64 0,.int .i64 0,.int .i64 0,.int .i64 0] 100)) #[.int .i64 0,.int .i64 0,.int .i64 0,.int .i64 0] 100 (ints [0,0,0,0]) (fun j hj=>by simp at hj; match j,hj with | 0,_=>rfl | 1,_=>rfl | 2,_=>rfl | 3,_=>rfl))).after hb1
  simpa using h
 have a2:w1.cell? ⟨w.heap.size,2,none⟩=some (.int .i64 x2):=ra.cell (by omega);have a3:w1.cell? ⟨w.heap.size,3,none⟩=some (.int .i64 x3):=ra.cell (by omega);have o0:w1.cell? ⟨w.heap.size+1+1,0,none⟩=some (.int .i64 0):=ro.cell (by omega);have o1:w1.cell? ⟨w.heap.size+1+1,1,none⟩=some (.int .i64 0):=ro.cell (by omega);have f0:=ro.frozen 0;have f1:=ro.frozen 1;have HB1:=Lib.hid ((((Below.refl _ w).alloc (Nat.le_refl _) _).alloc (by simp) _).alloc (by simp; omega) _ |>.trans (hb1.mono (by simp; omega)))
 have ro2:=(ro.set 0 (.int .i64 x0)).set 1 (.int .i64 x1);have rr2:RowF ((w1.setCell ⟨w.heap.size+1+1,0,none⟩ (.int .i64 x0)).setCell ⟨w.heap.size+1+1,1,none⟩ (.int .i64 x1)) (w.heap.size+1) 100 4 (ints [0,0,0,0]):=(rr.set_other (by simp) _).set_other (by simp) _;clear hb1;go_wp2_with fail
 refine (toPoint_any _ _ _).mono ?_;rintro e w2 ⟨rfl,hb2⟩;have hz2:=hb2.size;simp at hz2;have s:=ro2.after hb2;have r:=rr2.after hb2;have HB2:=Lib.hid (((HB1.out.setCell (p:=⟨w.heap.size+1+1,0,none⟩) (by simp; omega) _).setCell (p:=⟨w.heap.size+1+1,1,none⟩) (by simp; omega) _).trans (hb2.mono (by simp; omega)))
 have s0:w2.cell? ⟨w.heap.size+1+1,0,none⟩=some (.int .i64 x0):=s.cell (by omega);have s1:w2.cell? ⟨w.heap.size+1+1,1,none⟩=some (.int .i64 x1):=s.cell (by omega);have s2:w2.cell? ⟨w.heap.size+1+1,2,none⟩=some (.int .i64 0):=s.cell (by omega);have s3:w2.cell? ⟨w.heap.size+1+1,3,none⟩=some (.int .i64 0):=s.cell (by omega);have g2:=s.frozen 2;have g3:=s.frozen 3;have r0:w2.cell? ⟨w.heap.size+1,0,none⟩=some (.int .i64 0):=r.cell (by omega);have r1:w2.cell? ⟨w.heap.size+1,1,none⟩=some (.int .i64 0):=r.cell (by omega);have r2:w2.cell? ⟨w.heap.size+1,2,none⟩=some (.int .i64 0):=r.cell (by omega);have r3:w2.cell? ⟨w.heap.size+1,3,none⟩=some (.int .i64 0):=r.cell (by omega);have k0:=r.frozen 0;have k1:=r.frozen 1;have k2:=r.frozen 2;have k3:=r.frozen 3;clear hb2 ro2 rr2 s r ra rr ro a2 a3 o0 o1 f0 f1;go_wp2;refine bodyPost_ret (v := .agg #[.int .i64 x0,.int .i64 x1,.int .i64 x2,.int .i64 x3]) (by simp [results,Tryz.results64,go_sem, *]) rfl ⟨rfl,?_⟩;exact (((((HB2.out.setCell (p:=⟨w.heap.size+1+1,2,none⟩) (by simp; omega) _).setCell (p:=⟨w.heap.size+1+1,3,none⟩) (by simp; omega) _).setCell (p:=⟨w.heap.size+1,0,none⟩) (by simp) _).setCell (p:=⟨w.heap.size+1,1,none⟩) (by simp) _).setCell (p:=⟨w.heap.size+1,2,none⟩) (by simp) _).setCell (p:=⟨w.heap.size+1,3,none⟩) (by simp) _
set_option maxHeartbeats 800000 in
theorem toJointS_any (A:Option Addr) (n c:Nat) (zs:List Int) (w:World) (h:RecsAt w w.heap.size 4 A n zs) (hn:n≤1048576) :
  Calls Tryzx.prog 38 #[.slice A n c] w fun e w'=>e = .returned (.slice (some ⟨w.heap.size,0,none⟩) n n)∧w'.rowIs w.heap.size 100 (n*4) (ints zs)∧Below w.heap.size w w':=by
 have H:=Lib.hid h;clear h;have hmk:=fun W=>run_make_recs (P:=Tryzx.prog) 30 100 4 32 #[.int .i64 0,.int .i64 0,.int .i64 0,.int .i64 0] Tryzx.underlying30 infoJoint n (by omega) hn W
 go_enter Tryzx.func38,Tryz.ntmps38;go_wp2;clear hmk;go_loopw [4] (fun i wr=>∃ k:Nat,k≤n∧i = .int .i64 k∧wr.rowIs w.heap.size 100 (n*4) (fill zs (k*4))∧Below w.heap.size w wr) (fun i _=>n - (intOf i).toNat)
 case atStart=>exact ⟨0,Nat.zero_le _,rfl,by rw [Nat.zero_mul]; exact rowIs_made0 w _ _ _ (fun j hj=>by simp at hj; match j,hj with | 0,_=>rfl | 1,_=>rfl | 2,_=>rfl | 3,_=>rfl) (by simp) zs,(Below.refl _ _).alloc (Nat.le_refl _) _⟩
 case round =>
  obtain ⟨k,hk,rfl,hrow,hb⟩:=hrel;by_cases hlt:k<n
  ·obtain ⟨b,off,rfl,hbB,hc⟩:=H.out.2 (by omega)
   have hgl:=hrow.lt;have hx0:wr.cell? ⟨b,off+k*4,none⟩=some (.int .i64 (nth zs (k*4))):=(hb.cell (by exact hbB)).trans (hc (k*4) (by omega));have hx1:wr.cell? ⟨b,off+k*4+1,none⟩=some (.int .i64 (nth zs (k*4+1))):=(hb.cell (by exact hbB)).trans (by have:=hc (k*4+1) (by omega); rwa [← Nat.add_assoc] at this)
   have hx2:wr.cell? ⟨b,off+k*4+2,none⟩=some (.int .i64 (nth zs (k*4+2))):=(hb.cell (by exact hbB)).trans (by have:=hc (k*4+2) (by omega); rwa [← Nat.add_assoc] at this)
   have hx3:wr.cell? ⟨b,off+k*4+3,none⟩=some (.int .i64 (nth zs (k*4+3))):=(hb.cell (by exact hbB)).trans (by have:=hc (k*4+3) (by omega); rwa [← Nat.add_assoc] at this)
   have HR:=Lib.hid hrow;have HB:=Lib.hid hb;clear hrow hb hc;go_wp2_with fail
   refine (toJoint_any _ _ _ _ _).mono ?_;rintro e w1 ⟨rfl,hb1⟩;have HR1:=Lib.hid (below_row hb1 HR.out hgl);have HB1:=Lib.hid (HB.out.trans (hb1.mono HB.out.size));clear hb1;have hy0:w1.cell? ⟨w.heap.size,k*4,none⟩=some (.int .i64 0):=by rw [HR1.out.cell (by omega),fill_at zs (by omega)]
   have hf0:w1.frozen? ⟨w.heap.size,k*4,none⟩=false:=HR1.out.frozen _;have hy1:w1.cell? ⟨w.heap.size,k*4+1,none⟩=some (.int .i64 0):=by rw [HR1.out.cell (by omega),fill_at zs (by omega)]
   have hf1:w1.frozen? ⟨w.heap.size,k*4+1,none⟩=false:=HR1.out.frozen _;have hy2:w1.cell? ⟨w.heap.size,k*4+2,none⟩=some (.int .i64 0):=by rw [HR1.out.cell (by omega),fill_at zs (by omega)]
   have hf2:w1.frozen? ⟨w.heap.size,k*4+2,none⟩=false:=HR1.out.frozen _;have hy3:w1.cell? ⟨w.heap.size,k*4+3,none⟩=some (.int .i64 0):=by rw [HR1.out.cell (by omega),fill_at zs (by omega)]
   have hf3:w1.frozen? ⟨w.heap.size,k*4+3,none⟩=false:=HR1.out.frozen _;go_wp2;go_roundw
   case rel=>exact ⟨k+1,by omega,by go_num,by rw [Nat.add_mul,Nat.one_mul]; exact World.rowIs.congr (World.rowIs.set (World.rowIs.set (World.rowIs.set (World.rowIs.set HR1.out (k*4) _) (k*4+1) _) (k*4+2) _) (k*4+3) _) (fun j _=>fill_step4 zs (k*4) j),((((HB1.out.setCell (Nat.le_refl _) _).setCell (Nat.le_refl _) _).setCell (Nat.le_refl _) _).setCell (Nat.le_refl _) _)⟩
   case measure=>simp [intOf]; omega
  ·have hkn:k=n:=by omega
   subst hkn;have HR:=Lib.hid hrow;have HB:=Lib.hid hb;clear hrow hb;go_wp2;go_ret;exact ⟨rfl,HR.out.congr (fun j hj=>fill_end zs hj),HB.out⟩
theorem szJointS_ok (A:Option Addr) (n c:Nat) (l:Int) (w:World) (h0:0≤l) (h1:l≤1048576) (hn:n≤9223372036854775807) (h:(n:Int)≤l):Calls Tryzx.prog 34 #[.slice A n c,.int .i64 l] w fun e w'=>e = .returned (.int .i64 (l - n))∧w=w':=by
 have ht:¬ l - (n:Int)<0:=by omega
 go_enter Tryzx.func34,Tryz.ntmps34;go_wp2;go_ret;exact ⟨rfl,rfl⟩
theorem szJointS_no (A:Option Addr) (n c:Nat) (l:Int) (w:World) (h0:0≤l) (h1:l≤1048576) (hn:n≤9223372036854775807) (h:l<(n:Int)):Calls Tryzx.prog 34 #[.slice A n c,.int .i64 l] w fun e w'=>e = .returned (.int .i64 (-1))∧w=w':=by
 have ht:l - (n:Int)<0:=by omega
 go_enter Tryzx.func34,Tryz.ntmps34;go_wp2;go_ret;exact ⟨rfl,rfl⟩
set_option maxHeartbeats 400000 in
theorem eqJoint_same (x0 x1 x2 x3:Int) (w:World):Calls Tryzx.prog 72 #[.agg #[.int .i64 x0,.int .i64 x1,.int .i64 x2,.int .i64 x3],.agg #[.int .i64 x0,.int .i64 x1,.int .i64 x2,.int .i64 x3]] w fun e w'=>e = .returned (.bool true)∧Below w.heap.size w w':=by
 have t0:(x0 != x0)=false:=by simp
 have t1:(x1 != x1)=false:=by simp
 have t2:(x2 != x2)=false:=by simp
 have t3:(x3 != x3)=false:=by simp
 go_enter Tryzx.func72,Tryz.ntmps72;go_wp2;go_ret;exact ⟨rfl,((((((Below.refl _ _).alloc (Nat.le_refl _) _).alloc (by simp) _).alloc (by simp; omega) _).alloc (by simp; omega) _).alloc (by simp; omega) _).alloc (by simp; omega) _⟩
set_option maxHeartbeats 800000 in
theorem eqJointS_same (A A':Option Addr) (n c c':Nat) (zs:List Int) (w:World) (hx:RecsAt w w.heap.size 4 A n zs) (hy:RecsAt w w.heap.size 4 A' n zs) (hn:n≤1048576) :
  Calls Tryzx.prog 43 #[.slice A n c,.slice A' n c'] w fun e w'=>e = .returned (.bool true)∧Below w.heap.size w w':=by
 have HX:=Lib.hid hx;have HY:=Lib.hid hy;clear hx hy;have ht:((n:Int) != (n:Int))=false:=by simp
 go_enter Tryzx.func43,Tryz.ntmps43;go_wp2;go_loopw [5] (fun i wr=>∃ k:Nat,k≤n∧i = .int .i64 k∧Below w.heap.size w wr) (fun i _=>n - (intOf i).toNat)
 case atStart=>exact ⟨0,Nat.zero_le _,rfl,Below.refl _ _⟩
 case round =>
  obtain ⟨k,hk,rfl,hb⟩:=hrel;have HB:=Lib.hid hb;by_cases hlt:k<n
  ·obtain ⟨b,off,rfl,hbB,hc⟩:=HX.out.2 (by omega)
   obtain ⟨b',off',rfl,hbB',hc'⟩:=HY.out.2 (by omega);have hz:=hb.size;have cx0:wr.cell? ⟨b,off+k*4,none⟩=some (.int .i64 (nth zs (k*4))):=(hb.cell (by exact hbB)).trans (hc (k*4) (by omega));have cy0:wr.cell? ⟨b',off'+k*4,none⟩=some (.int .i64 (nth zs (k*4))):=(hb.cell (by exact hbB')).trans (hc' (k*4) (by omega));have cx1:wr.cell? ⟨b,off+k*4+1,none⟩=some (.int .i64 (nth zs (k*4+1))):=(hb.cell (by exact hbB)).trans (by have:=hc (k*4+1) (by omega); rwa [← Nat.add_assoc] at this)
   have cy1:wr.cell? ⟨b',off'+k*4+1,none⟩=some (.int .i64 (nth zs (k*4+1))):=(hb.cell (by exact hbB')).trans (by have:=hc' (k*4+1) (by omega); rwa [← Nat.add_assoc] at this)
   have cx2:wr.cell? ⟨b,off+k*4+2,none⟩=some (.int .i64 (nth zs (k*4+2))):=(hb.cell (by exact hbB)).trans (by have:=hc (k*4+2) (by omega); rwa [← Nat.add_assoc] at this)
   have cy2:wr.cell? ⟨b',off'+k*4+2,none⟩=some (.int .i64 (nth zs (k*4+2))):=(hb.cell (by exact hbB')).trans (by have:=hc' (k*4+2) (by omega); rwa [← Nat.add_assoc] at this)
   have cx3:wr.cell? ⟨b,off+k*4+3,none⟩=some (.int .i64 (nth zs (k*4+3))):=(hb.cell (by exact hbB)).trans (by have:=hc (k*4+3) (by omega); rwa [← Nat.add_assoc] at this)
   have cy3:wr.cell? ⟨b',off'+k*4+3,none⟩=some (.int .i64 (nth zs (k*4+3))):=(hb.cell (by exact hbB')).trans (by have:=hc' (k*4+3) (by omega); rwa [← Nat.add_assoc] at this)
   generalize nth zs (k*4)=u0 at *
   generalize nth zs (k*4+1)=u1 at *
   generalize nth zs (k*4+2)=u2 at *
   generalize nth zs (k*4+3)=u3 at *
   have ki:(k:Int)<(n:Int):=by omega
   have k0:(0:Int)≤(k:Int):=by omega
   clear hc hc' hb;go_wp2;go_region_held3 (fun w'=>w'.cell? ⟨b,off+k*4,none⟩=some (.int .i64 u0)∧w'.cell? ⟨b,off+k*4+1,none⟩=some (.int .i64 u1)∧w'.cell? ⟨b,off+k*4+2,none⟩=some (.int .i64 u2)∧w'.cell? ⟨b,off+k*4+3,none⟩=some (.int .i64 u3)∧w'.cell? ⟨b',off'+k*4,none⟩=some (.int .i64 u0)∧w'.cell? ⟨b',off'+k*4+1,none⟩=some (.int .i64 u1)∧w'.cell? ⟨b',off'+k*4+2,none⟩=some (.int .i64 u2)∧w'.cell? ⟨b',off'+k*4+3,none⟩=some (.int .i64 u3)) (first | (go_keep; done) | (refine ⟨?_,?_,?_,?_,?_,?_,?_,?_⟩ <;> (rw [hcc _ _ (by simp <;> omega)]; go_keep))) ((go_at_call 72; refine (eqJoint_same _ _ _ _ _).mono ?_; rintro e w1 ⟨rfl,hb1⟩; obtain ⟨hcc,hff⟩:=bcell hb1));have HB1:=Lib.hid (HB.out.drew.trans (hb1.mono (by have:=HB.out.size; simp; omega)))
   clear hcc hff hb1;go_wp2;go_roundw
   case rel=>exact ⟨k+1,by omega,by go_num,HB1.out⟩
   case measure=>simp [intOf]; omega
  ·have hkn:k=n:=by omega
   subst hkn;clear hb;go_wp2;go_ret;exact ⟨rfl,HB.out⟩
end X
namespace X
open Go.RowKit
theorem toArch_any (A:Option Addr) (n c:Nat) (zs:List Int) (w:World) (h:RecsAt w w.heap.size 4 A n zs) (hn:n≤1048576) :
  Calls Tryzx.prog 12 #[.agg #[.slice A n c]] w fun e w'=>∃ g,e = .returned (.agg #[.slice (some ⟨g,0,none⟩) n n])∧w.heap.size≤g∧w'.rowIs g 100 (n*4) (ints zs)∧Below w.heap.size w w':=by
 have H3:RecsAt (((w.alloc (.cells #[.slice A n c] 24)).alloc (.cells #[.slice none 0 0] 32)).alloc (.cells #[.slice none 0 0] 32)) (((w.alloc (.cells #[.slice A n c] 24)).alloc (.cells #[.slice none 0 0] 32)).alloc (.cells #[.slice none 0 0] 32)).heap.size 4 A n zs :=
  (((h.alloc (Nat.le_refl _) _).alloc (by simp) _).alloc (by simp; omega) _).mono (by simp; omega)
 go_enter Tryzx.func12,Tryz.ntmps12;go_wp2_with fail
 refine (toJointS_any _ _ _ zs _ H3 hn).mono ?_;rintro e w1 ⟨rfl,r1,hb1⟩;have rr:RowF w1 (w.heap.size+1) 32 1 (fun _ => .slice none 0 0):=by
  have h:=((RowF.of_row (World.rowIs_alloc (w.alloc (.cells #[.slice A n c] 24)) #[.slice none 0 0] 32 (fun _ => .slice none 0 0) (fun j hj=>by simp at hj; subst hj; rfl))).alloc (.cells #[.slice none 0 0] 32)).after hb1
  simpa using h
 have ro:RowF w1 (w.heap.size+1+1) 32 1 (fun _ => .slice none 0 0):=by
  have h:=(RowF.of_row (World.rowIs_alloc ((w.alloc (.cells #[.slice A n c] 24)).alloc (.cells #[.slice none 0 0] 32)) #[.slice none 0 0] 32 (fun _ => .slice none 0 0) (fun j hj=>by simp at hj; subst hj; rfl))).after hb1
  simpa using h
 have e1:=rr.cell (i:=0) (by omega);have e2:=ro.cell (i:=0) (by omega);have f1:=rr.frozen 0;have f2:=ro.frozen 0;have HB1:=Lib.hid (((((Below.refl _ w).alloc (Nat.le_refl _) _).alloc (by simp) _).alloc (by simp; omega) _).trans (hb1.mono (by simp; omega)))
 have HR:=Lib.hid r1;clear r1 hb1 rr ro H3;go_wp2;refine bodyPost_ret (v := .agg #[.slice (some ⟨w.heap.size+1+1+1,0,none⟩) n n]) (by simp [results,Tryz.results12,go_sem, *]) rfl ⟨w.heap.size+1+1+1,rfl,by omega,?_,?_⟩
 ·have h:=HR.out
  simp at h;exact (h.of_block (Below.heap_setCell _ _ _ _ (by simp <;> omega))).of_block (Below.heap_setCell _ _ _ _ (by simp <;> omega))
 ·exact (HB1.out.setCell (p:=⟨w.heap.size+1+1,0,none⟩) (by simp; omega) _).setCell (p:=⟨w.heap.size+1,0,none⟩) (by simp) _
theorem szArch_ok (A:Option Addr) (n c:Nat) (l:Int) (w:World) (h0:0≤l) (h1:l≤1048576) (hn:n≤9223372036854775807) (h:(n:Int)≤l):Calls Tryzx.prog 9 #[.agg #[.slice A n c],.int .i64 l] w fun e w'=>e = .returned (.int .i64 (l - n))∧Below w.heap.size w w':=by
 have ht:¬ l - (n:Int)<0:=by omega
 go_enter Tryzx.func9,Tryz.ntmps9;go_wp2_with (go_at_call 34; refine (szJointS_ok _ _ _ _ _ h0 h1 hn h).mono ?_; rintro e w' ⟨rfl,rfl⟩);go_ret;exact ⟨rfl,(Below.refl _ _).alloc (Nat.le_refl _) _⟩
theorem szArch_no (A:Option Addr) (n c:Nat) (l:Int) (w:World) (h0:0≤l) (h1:l≤1048576) (hn:n≤9223372036854775807) (h:l<(n:Int)):Calls Tryzx.prog 9 #[.agg #[.slice A n c],.int .i64 l] w fun e w'=>e = .returned (.int .i64 (-1))∧Below w.heap.size w w':=by
 go_enter Tryzx.func9,Tryz.ntmps9;go_wp2_with (go_at_call 34; refine (szJointS_no _ _ _ _ _ h0 h1 hn h).mono ?_; rintro e w' ⟨rfl,rfl⟩);go_ret;exact ⟨rfl,(Below.refl _ _).alloc (Nat.le_refl _) _⟩
theorem eqArch_same (A A':Option Addr) (n c c':Nat) (zs:List Int) (w:World) (hx:RecsAt w w.heap.size 4 A n zs) (hy:RecsAt w w.heap.size 4 A' n zs) (hn:n≤1048576) :
  Calls Tryzx.prog 15 #[.agg #[.slice A n c],.agg #[.slice A' n c']] w fun e w'=>e = .returned (.bool true)∧Below w.heap.size w w':=by
 have hx2:=((hx.alloc (Nat.le_refl _) (.cells #[.slice A n c] 32)).alloc (by simp) (.cells #[.slice A' n c'] 32)).mono (B':=((w.alloc (.cells #[.slice A n c] 32)).alloc (.cells #[.slice A' n c'] 32)).heap.size) (by simp; omega)
 have hy2:=((hy.alloc (Nat.le_refl _) (.cells #[.slice A n c] 32)).alloc (by simp) (.cells #[.slice A' n c'] 32)).mono (B':=((w.alloc (.cells #[.slice A n c] 32)).alloc (.cells #[.slice A' n c'] 32)).heap.size) (by simp; omega)
 go_enter Tryzx.func15,Tryz.ntmps15;go_wp2_with fail
 refine (eqJointS_same _ _ _ _ _ zs _ hx2 hy2 hn).mono ?_;rintro e w1 ⟨rfl,hb1⟩;go_wp2;go_ret;exact ⟨rfl,(((Below.refl _ w).alloc (Nat.le_refl _) _).alloc (by simp) _).trans (hb1.mono (by simp; omega))⟩
end X
end Go.Proofs.YtodneggnnipcnaaGreat
