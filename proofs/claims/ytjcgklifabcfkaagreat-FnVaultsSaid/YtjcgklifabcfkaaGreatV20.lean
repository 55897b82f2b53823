/-
  Texts that the law stands on, part 20.
-/
import Derived.Test.YtjcgklifabcfkaaGreatV19
set_option maxRecDepth 100000
set_option linter.unusedVariables false
set_option linter.unusedSimpArgs false
set_option maxHeartbeats 12800000
namespace Go.Proofs.YtjcgklifabcfkaaGreat
namespace Rn
open Go.Conc
theorem stepG_leave0 {P:Program} {f:FuncId} {ts:Array Value} {todo:List Item} {w w1:World} {fn:Func} {v:Value} (hf:P.funcs[f]?=some fn) (hi:P.inits.idxOf? f=none) (hr:(results fn ts).run P w = .ok v w1) :
  stepG P true (G (fra f ts todo true) []) w = .ended (.done v) w1 (seen P f ((results fn ts).events P w #[])):=by
 simp [G,fra,stepG,unwind,doReturn,Frame.at,base,hf,hr,hi,GStep.after]
theorem end_step {C:Ctx} (ok:CtxOk C) {r:Ren} {f f':Frame} {w v:World} {x:Value} (hf:FrR C r f f') (hw:WR C r w v) (ht:TE w v) (hl:f.leaving C.Px w (.returned x)) (hi:C.P.inits.idxOf? f.fn=none) :
  ∃ y v1 es r1,stepG C.P true (G f' []) v = .ended (.done y) v1 es/\Ext C r w v r1 w v1/\WR C r1 w v1/\(∀ e ∈ es,EvOk C r1 e)/\VR C r1 x y:=by
 cases hf with
 | @mk fid ts ts' todo todo' m hF hv hk =>
  obtain ⟨hm,_,_,fn,hfn,hres⟩:=hl;cases m with
  | false=>cases hm
  | true =>
   obtain ⟨fn',bd,h1,h2⟩:=hF.body;have h1':C.P.funcs[fid]?=some fn':=by rw [<- h1]; exact hF.same
   have e:fn=fn':=Option.some.inj (hfn.symm.trans h1);subst e;have sim:=Sim.results fn (ok.res _ _ h1) hv w v #[] #[] hw ht (by simp);generalize hx:(results fn ts).runT C.Px w #[]=rx at sim;obtain ⟨R,es0⟩:=rx;have hrun:(results fn ts).run C.Px w=R:=by rw [<- Sem.runT_fst _ _ _ #[],hx]
   have hres':(results fn ts).run C.Px w = .ok x w:=hres;rw [hrun] at hres';subst hres';obtain ⟨y,v1,fs1,r1,e1,x1,hw1,ht1,hf1,q1⟩:=sim.1 _ _ _ rfl;have hrun1:(results fn ts').run C.P v = .ok y v1:=by rw [<- Sem.runT_fst _ _ _ #[],e1]
   exact ⟨y,v1,_,r1,stepG_leave0 h1' hi hrun1,x1,hw1,fun f1 hf1'=>hf1 f1 (by have:=mem_seen hf1'; rw [Sem.events,e1] at this; exact this),q1⟩
section
variable {C : Ctx} {r : Ren} {w v w2 v2 : World}
theorem WR.tpR (h:WR C r w v) (t:Tp) (d:Nat):WR C r w (v.tp t d):=⟨h.lt,h.fn,h.inj,h.obj,h.win,h.winG,h.glob,h.big,h.shz,h.roLt,h.noInfo⟩
theorem WR.atR (h:WR C r w v) (d:Nat):WR C r w (v.at d):=⟨h.lt,h.fn,h.inj,h.obj,h.win,h.winG,h.glob,h.big,h.shz,h.roLt,h.noInfo⟩
theorem WR.grow (h:WR C r w v) (sl:w.heap.size<=w2.heap.size) (sr:v.heap.size<=v2.heap.size) (hl:∀ a,a<w.heap.size->w2.heap[a]?=w.heap[a]?) (hr:∀ b,b<v.heap.size->v2.heap[b]?=v.heap[b]?):WR C r w2 v2 where
 lt a b ab:=⟨Nat.lt_of_lt_of_le (h.lt a b ab).1 sl,Nat.lt_of_lt_of_le (h.lt a b ab).2 sr⟩
 fn:=h.fn
 inj:=h.inj
 obj a b ab ho:=by rw [hl a (h.lt a b ab).1,hr b (h.lt a b ab).2]; exact h.obj a b ab ho
 win a b ab ho:=by rw [hl a (h.lt a b ab).1,hr b (h.lt a b ab).2]; exact h.win a b ab ho
 winG:=h.winG
 glob:=h.glob
 big:=⟨Nat.le_trans h.big.1 sl,Nat.le_trans h.big.2 sr⟩
 shz:=h.shz
 roLt a ha:=Nat.lt_of_lt_of_le (h.roLt a ha) sl
 noInfo:=h.noInfo
theorem WR.pair (h:WR C r w v) {g g':Nat} (lg:g<w.heap.size) (lg':g'<v.heap.size) (ng:∀ b,¬ r g b) (ng':∀ a,¬ r a g') (hro:¬ C.RO g) (hG:C.tb.globals.size<=g/\C.tb.globals.size<=g') (ho:OR C (r.ext g g') (w.heap[g]?) (v.heap[g']?)):WR C (r.ext g g') w v where
 lt a b ab:=by
  rcases ab with ab | ⟨rfl,rfl⟩
  ·exact h.lt a b ab
  ·exact ⟨lg,lg'⟩
 fn a b b' k k':=by
  rcases k with k | ⟨e1,e2⟩ <;> rcases k' with k' | ⟨e1',e2'⟩
  ·exact h.fn _ _ _ k k'
  ·subst e1'; exact absurd k (ng _)
  ·subst e1; exact absurd k' (ng _)
  ·exact e2.trans e2'.symm
 inj a a' b k k':=by
  rcases k with k | ⟨e1,e2⟩ <;> rcases k' with k' | ⟨e1',e2'⟩
  ·exact h.inj _ _ _ k k'
  ·subst e2'; exact absurd k (ng' _)
  ·subst e2; exact absurd k' (ng' _)
  ·exact .inl (e1.trans e1'.symm)
 obj a b ab hr:=by
  rcases ab with ab | ⟨rfl,rfl⟩
  ·exact (h.obj a b ab hr).mono (Ren.sub_ext _ _ _)
  ·exact ho
 win a b ab hr:=by
  rcases ab with ab | ⟨rfl,rfl⟩
  ·exact (h.win a b ab hr).mono (Ren.sub_ext _ _ _)
  ·exact absurd hr hro
 winG a b ab hr:=by
  rcases ab with ab | ⟨rfl,rfl⟩
  ·exact h.winG a b ab hr
  ·exact hG.1
 glob a b ab hr hx:=by
  rcases ab with ab | ⟨rfl,rfl⟩
  ·exact h.glob a b ab hr hx
  ·have:=hG.1; have:=hG.2; omega
 big:=h.big
 shz:=h.shz
 roLt:=h.roLt
 noInfo:=h.noInfo
end
section
variable {noT : TypeId} {ws : List Win} {r : Ren} {w v : World}
theorem rows_real (hw:WR (gctx noT ws) r w v) {A:Option Addr} {n c:Nat} {xs:List Int} {x':Value} (hx:VR (gctx noT ws) r (.slice A n c) x') (hin:RowsIn A n xs w) :
  ∃ A',x' = .slice A' n c/\RowsIn A' n xs v/\∀ a,A'=some a->∃ b,r b a.block:=by
 obtain ⟨hn,hl,h⟩:=hin;cases hx with
 | sl0 n c =>
  rcases h with ⟨rfl,_⟩ | ⟨_,blk,off,e,_⟩
  ·exact ⟨none,rfl,⟨hn,hl,.inl ⟨rfl,rfl⟩⟩,fun a e=>by cases e⟩
  ·cases e
 | slE a b =>
  rcases h with ⟨_,e⟩ | ⟨h1,_⟩
  ·cases e
  ·omega
 | @sl a b n c hab =>
  rcases h with ⟨_,e⟩ | ⟨h1,blk,off,e,hc⟩
  ·cases e
  cases e;obtain ⟨k,e1,e2⟩:=hab;obtain ⟨b0,b1,b2⟩:=b;simp only at k e1 e2;subst e1; subst e2;refine ⟨_,rfl,⟨hn,hl,.inr ⟨h1,b0,_,rfl,fun j hj => ?_⟩⟩,fun a e=>by cases e; exact ⟨_,k⟩⟩;obtain ⟨y,hy,hv⟩:=hw.cell (a:=⟨blk,off+j,none⟩) (b:=⟨b0,off+j+(gctx noT ws).sh blk,none⟩) ⟨k,rfl,rfl⟩ (hc j hj);cases hv;rw [show off+(gctx noT ws).sh blk+j=off+j+(gctx noT ws).sh blk by omega];exact hy
theorem x_cornL0:X.cornL=cornL:=by kernel_rfl
theorem x_cornL (xs:List Int) (n:Nat):X.cornL xs n=cornL xs n:=by rw [x_cornL0]
theorem x_cornN (xs:List Int) (n:Nat):X.cornN xs n=cornN xs n:=by unfold X.cornN cornN; rw [x_cornL0]
def LoneV (rs:List Int) (n:Nat) (cc base:Nat) (y:Value) (w:World):Prop :=
 (y = .slice none 0 0/\cornL rs n = []) ∨ ∃ g,base<=g/\g<w.heap.size/\1<=cornN rs n/\y = .slice (some ⟨g,0,none⟩) (cornN rs n) cc /\
  w.heap[g]?=some (.cells (((cornL rs n).map (Value.int .i64)).toArray ++ Builtin.zeroCells #[.int .i64 0,.int .i64 0,.int .i64 0,.int .i64 0] (cc - cornN rs n)) 66 (0,0))
theorem lone_call (hw:WR (gctx noT ws) r w v) {A:Option Addr} {n c:Nat} {xs:List Int} {x':Value} (hx:VR (gctx noT ws) r (.slice A n c) x') (hin:RowsIn A n xs w) {cc:Nat} (h1:cornN xs n<=cc) (h2:cc<=maxLen) (f:Frame) (L:List Frame) :
  ∃ m N w' y,1<=N/\Path Tryzx.prog ⟨Frame.enter Tryzx.prog 87 #[.slice A n c] .normal,f :: L,w⟩ m N ⟨f.finish y,L,w'⟩/\LoneV xs n cc w.heap.size y w'/\w.heap.size<=w'.heap.size/\∀ a,a<w.heap.size->w'.heap[a]?=w.heap[a]?:=by
 let T:Tp:=fun _ q=>match q with | .appendCap _ _ _=>cc - cornN xs n | _=>0
 obtain ⟨hn,hl,h⟩:=hin;have hrec:RecsAt (w.tp T 0) (w.tp T 0).heap.size 4 A n xs:=by
  refine ⟨hl,fun hp => ?_⟩;rcases h with ⟨e,_⟩ | ⟨_,blk,off,rfl,hc⟩
  ·omega
  ·refine ⟨blk,off,rfl,?_,fun i hi=>hc i (by omega)⟩
   obtain ⟨_,_,_,k,_⟩:=cells_of (hc 0 (by omega));exact (Array.getElem?_eq_some_iff.1 k).1
 have hcall:=X.xCorners_any A n c xs (w.tp T 0) hrec hn (fun e=>by
  rcases h with ⟨_,e2⟩ | ⟨h1,_⟩
  ·exact e2
  ·omega)
 obtain ⟨e,w',fr,⟨y,rfl,hend,hbel⟩,⟨K,hK⟩,hfn,hlv⟩:=hcall [Xb];have hself:FrR (sctx noT ws) (dg r) (Frame.enter Tryzx.prog 87 #[.slice A n c] .normal) (Frame.enter Tryzx.prog 87 #[.slice A n c] .normal) :=
  enter_FrR (C:=sctx noT ws) cfine (VAll.one (vr_self hx))
 obtain ⟨m,hL,ht,hd,_⟩:=self_run (C:=sctx noT ws) (X:=f :: L) sok rfl sfine (b:=false) (fr:=fr) (w':=w') (x:=y) (.inl ⟨rfl,hlv⟩) K (cs := []) hself (fun c hc=>by simp at hc) (((wr_self hw).tp T 0).tpR T 0) hK;have hret:∀ t d,step Tryzx.prog (lone fr (f :: L) (w'.tp t d)) = .next (lone (f.finish y) L (w'.tp t d)):=fun t d=>by
  refine step_leave_returned ?_;obtain ⟨k1,k2,k3,fn,k4,k5⟩:=hlv;refine ⟨k1,k2,k3,fn,k4,?_⟩;rw [hfn,Tryzx.func87] at k4;obtain rfl:=Option.some.inj k4;have e:∀ u:World,(results Tryzx.f87 fr.tmps).run Tryzx.prog u = .ok (fr.tmps.getD 10 undef) u:=fun u=>results_tmp rfl _ _ _
  rw [e] at k5 ⊢;cases k5;rfl
 refine ⟨m,K+1,w',y,by omega,⟨T,0,fun t' d' ha => ?_⟩,?_,hbel.size,fun a ha=>hbel.block a ha⟩
 ·have h3:=hL t' d' ha
  rw [runN_add,show (St.at ⟨Frame.enter Tryzx.prog 87 #[.slice A n c] .normal,f :: L,w⟩ t' d')=St.at ⟨Frame.enter (sctx noT ws).Px 87 #[.slice A n c] .normal,[] ++ f :: L,w.tp T 0⟩ t' d' from rfl];rw [show runN Tryzx.prog K (St.at ⟨Frame.enter (sctx noT ws).Px 87 #[.slice A n c] .normal,[] ++ f :: L,w.tp T 0⟩ t' d')=_ from h3];simp only [runN,St.at,hret]
 ·rcases hend with ⟨rfl,hnil⟩ | ⟨g,d,hg,hq,rfl,hh⟩
  ·exact .inl ⟨rfl,(x_cornL xs n).symm.trans hnil⟩
  ·rw [x_cornL,x_cornN] at hh
   rw [x_cornN] at hq;rw [x_cornN];have hT:w'.tape=T:=hbel.tape;have hcc:capOf w'.tape d (cornN xs n) 66=cc:=by rw [hT]; exact capOf_set _ h1 h2 d
   rw [hcc] at hh ⊢;exact .inr ⟨g,hg,(Array.getElem?_eq_some_iff.1 hh).1,hq,rfl,hh⟩
end
end Rn
namespace Rn
open Go.Conc
open Go.ConcN (sumTo upd sumTo_upd upd_ne upd_same)
open Go.ConcR (g_of_ofEvents)
def Quiet0 (u:Trace):Prop:=∀ op ∈ u,op.g=0/\op.act.touch?=none/\∀ m,op.act ≠ .mark m
theorem Rdy.crowd {P:Program} {gs:Array Goroutine} {f:Frame} {L:List Frame} {w w1 w2:World} {sl:Option (Nat × Nat)} {es:Array Event} {c:CommCase} {sh:CommShape} {x:Value} (h:Rdy c sh w1 x w2)
  (hi:gs[0]?=some (G f L)) (hs:stepG P true (G f L) w = .comm (G f L) #[c] true sh w1 es) (hp:∀ (j:Nat) (g:Goroutine),0<j->gs[j]?=some g->g.status ≠ .blocked) :
  ∃ more,runT P (crowd gs w sl) 0=(.next (crowd (gs.setIfInBounds 0 (G (f.finish x) L)) w2 sl),MemOp.ofEvents 0 f.fn f.place es ++ more)/\Quiet0 more:=by
 have hpn:∀ (r:Nat) (send:Bool),partners (gs.setIfInBounds 0 ph) r send = []:=fun r send=>partners_nil fun j g hg=>by
  rcases getElem?_stand gs 0 j g hg with ⟨_,rfl⟩ | ⟨hj,hg'⟩
  ·exact offersAt_ph r send
  ·exact offersAt_of_not_blocked (hp j g (by omega) hg') r send
 cases h with
 | send h1 h2 =>
  refine ⟨_,crowd_send_room (sl:=sl) hi hs h1 h2 (hpn _ _),fun op hop => ?_⟩;simp only [List.mem_toArray,List.mem_cons,List.not_mem_nil,or_false] at hop;rcases hop with rfl | rfl <;> exact ⟨rfl,rfl,fun m e=>by cases e⟩
 | recv ok h1 h2 =>
  cases ok <;> exact ⟨_,crowd_recv_buf (sl:=sl) hi hs h1 h2 (hpn _ _),fun op hop=>by
   simp only [List.mem_toArray,List.mem_cons,List.not_mem_nil,or_false] at hop;rcases hop with rfl | rfl <;> exact ⟨rfl,rfl,fun m e=>by cases e⟩⟩
 | shut ok h1 =>
  cases ok <;> exact ⟨_,crowd_recv_closed (sl:=sl) hi hs h1 (hpn _ _),fun op hop=>by
   simp only [List.mem_toArray,List.mem_cons,List.not_mem_nil,or_false] at hop;subst hop;exact ⟨rfl,rfl,fun m e=>by cases e⟩⟩
section
variable {P : Program} {SB : Bl} {t u : Trace}
theorem Deaf_quiet (h:Quiet0 u):Deaf (t ++ u) 0=Deaf t 0:=by
 obtain ⟨l⟩:=u;rw [Deaf_append];induction l generalizing t with
 | nil=>rfl
 | cons y l ih =>
  have hy:=(h y (by simp)).2.2;have e:deafStep 0 (Deaf t 0) y=Deaf t 0:=by
   unfold deafStep;split
   ·rename_i e; exact absurd e (hy _)
   ·rename_i e; exact absurd e (hy _)
   ·rfl
  rw [List.foldl_cons,e];exact ih fun op hop=>h op (by simp only [List.mem_toArray] at hop ⊢; exact List.mem_cons_of_mem _ hop)
theorem PastO.appQuiet (h:PastO SB t) (hu:Quiet0 u):PastO SB (t ++ u):=by
 refine ⟨fun said=>noRace_append (h.clean said) (fun op hop=>(hu op hop).1) fun i a _ op hop b hb _=>(by rw [(hu op hop).2.1] at hb; cases hb),fun i a ha hm => ?_,handedOver_app h.over fun op hop => .inr (hu op hop).2.1,(Deaf_quiet hu).trans h.hears⟩;obtain ⟨x,hx,hxa⟩:=touch_of ha;rcases getElem?_append_cases hx with ⟨_,hx'⟩ | ⟨_,hxu⟩
 ·exact (h.known i a (by rw [touchAt_of hx']; exact hxa) hm).imp (·.app u) id
 ·rw [(hu x hxu).2.1] at hxa; cases hxa
def Next0 (P:Program) (SB:Bl) (f:Frame) (L:List Frame) (w:World) (K:Goroutine->World->Prop) (u:World):Prop :=
 (∃ a' w' es,stepG P true (G f L) u = .go a' w' es/\w.heap.size<=w'.heap.size/\(∀ e ∈ es,EvC SB w'.heap.size e)/\K a' w') ∨
 (∃ c sh x w1 w2 es,stepG P true (G f L) u = .comm (G f L) #[c] true sh w1 es/\Rdy c sh w1 x w2/\w.heap.size<=w2.heap.size/\(∀ e ∈ es,EvC SB w2.heap.size e)/\K (G (f.finish x) L) w2)
theorem beside_both:∀ (M:Nat) {gs:Array Goroutine} {f:Frame} {L:List Frame} {w:World} {sl:Option (Nat × Nat)} {t:Trace} {q:Nat->Nat} {K:Nat->Goroutine->World->Prop},sumTo gs.size q<=M->Calm P SB gs w t->(∀ i g,0<i->gs[i]?=some g->QuitsD P (q i) (Deaf t i) g)->gs[0]?=some (G f L) ->
  (∀ d,Next0 P SB f L w (K d) (w.at d)) ->
  ∃ N gs' sl' t' d a' w',runNT P N (crowd gs w sl) t=(.next (crowd gs' w' sl'),t')/\runN P N (crowd gs w sl) = .next (crowd gs' w' sl')/\K d a' w'/\Calm P SB gs' w' t'/\gs'[0]?=some a'/\gs'.size=gs.size:=by
 intro M;have own:∀ {gs:Array Goroutine} {f:Frame} {L:List Frame} {w:World} {sl sl':Option (Nat × Nat)} {t:Trace} {q:Nat->Nat} {K:Nat->Goroutine->World->Prop} {d:Nat},Calm P SB gs w t->(∀ i g,0<i->gs[i]?=some g->QuitsD P (q i) (Deaf t i) g)->gs[0]?=some (G f L) ->
   (∀ d,Next0 P SB f L w (K d) (w.at d))->stepT P (crowd gs w sl)=runT P (crowd gs (w.at d) sl') 0 ->
   ∃ N gs' sl' t' d a' w',runNT P N (crowd gs w sl) t=(.next (crowd gs' w' sl'),t')/\runN P N (crowd gs w sl) = .next (crowd gs' w' sl')/\K d a' w'/\Calm P SB gs' w' t'/\gs'[0]?=some a'/\gs'.size=gs.size:=by
  intro gs f L w sl sl' t q K d hc hq h0 hstep hst;have hlt:0<gs.size:=(Array.getElem?_eq_some_iff.1 h0).1;rcases hstep d with ⟨a',w',es,hgo,hsz,hev,hk⟩ | ⟨c,sh,x,w1,w2,es,hgo,hr,hsz,hev,hk⟩
  ·have hrunT:=runT_crowd_go (P:=P) (sl:=sl') (i:=0) h0 (show stepG P (0 == 0) (G f L) (w.at d)=_ from hgo)
   have hstep':=hst.trans hrunT;obtain ⟨sn,nrl⟩:=seen_ofEvents (g:=0) (fn:=(G f L).frame.fn) (pos:=(G f L).frame.place) fun e he=>(hev e he).evB
   refine ⟨1,_,sl',_,d,a',w',by rw [runNT_succ_next hstep']; rfl,by rw [runN_succ_next hstep']; rfl,hk,⟨fun j x hj hx => ?_,fun j hj => ?_,hc.past.app0 hev,hc.seen.app hsz sn,hc.norel.app nrl,fun b hb=>Nat.lt_of_lt_of_le (hc.sb b hb) hsz⟩,by simp [hlt],by simp⟩
   ·rw [Array.getElem?_setIfInBounds_ne (by omega),Array.getElem?_map] at hx
    obtain ⟨y,hy,rfl⟩:=Option.map_eq_some_iff.1 hx;have hqj:=hq j y hj hy;refine ⟨q j,?_⟩;rw [woken_quitsD hqj,Deaf_other t (by omega) _ g_of_ofEvents];exact hqj
   ·rw [Deaf_other t (g':=0) (by simp at hj; omega) _ g_of_ofEvents]
    exact hc.above j (by simpa using hj)
  ·obtain ⟨more,hrunT,hmore⟩:=hr.crowd (sl:=sl') h0 hgo fun j g hj hg e=>by
    rcases (hq j g hj hg).status with h | h <;> rw [h] at e <;> cases e
   have hstep':=hst.trans hrunT;obtain ⟨sn,nrl⟩:=seen_ofEvents (g:=0) (fn:=f.fn) (pos:=f.place) fun e he=>(hev e he).evB
   have hg0:∀ op ∈ MemOp.ofEvents 0 f.fn f.place es ++ more,op.g=0:=fun op hop=>by
    rcases Array.mem_append.1 hop with h | h
    ·exact g_of_ofEvents op h
    ·exact (hmore op h).1
   have hpast:=(hc.past.app0 (fn:=f.fn) (pos:=f.place) hev).appQuiet hmore;rw [Array.append_assoc] at hpast;refine ⟨1,_,sl',_,d,G (f.finish x) L,w2,by rw [runNT_succ_next hstep']; rfl,by rw [runN_succ_next hstep']; rfl,hk,⟨fun j y hj hy => ?_,fun j hj => ?_,hpast,hc.seen.app hsz fun op hop a ha => ?_,hc.norel.app fun op hop a => ?_,fun b hb=>Nat.lt_of_lt_of_le (hc.sb b hb) hsz⟩,by simp [hlt],by simp⟩
   ·rw [Array.getElem?_setIfInBounds_ne (by omega)] at hy
    exact ⟨q j,by rw [Deaf_other t (g':=0) (by omega) _ hg0]; exact hq j y hj hy⟩
   ·rw [Deaf_other t (g':=0) (by simp at hj; omega) _ hg0]
    exact hc.above j (by simpa using hj)
   ·rcases Array.mem_append.1 hop with h | h
    ·exact sn op h a ha
    ·rw [(hmore op h).2.1] at ha; cases ha
   ·rcases Array.mem_append.1 hop with h | h
    ·exact nrl op h a
    ·exact (hmore op h).2.2 _
 induction M with
 | zero =>
  intro gs f L w sl t q K hM hc hq h0 hstep;rcases beside_any (sl:=sl) hc hq h0 rfl with ⟨d,sl',hst⟩ | ⟨_,_,_,_,_,_,_,_,_,_,_,hlt⟩
  ·exact own hc hq h0 hstep hst
  ·omega
 | succ M ih =>
  intro gs f L w sl t q K hM hc hq h0 hstep;rcases beside_any (sl:=sl) hc hq h0 rfl with ⟨d,sl',hst⟩ | ⟨gs1,d,sl1,t1,q1,e1,e2,hc1,hq1,h01,hs1,hlt⟩
  ·exact own hc hq h0 hstep hst
  ·obtain ⟨N,gs',sl',t',d',a',w',r1,r2,r3,r4,r5,r6⟩:=ih (sl:=sl1) (K:=K) (by rw [hs1]; omega) hc1 hq1 h01 fun d'=>hstep d'
   obtain ⟨k1,k2⟩:=runN_one_add (n:=N) e1 e2;exact ⟨1+N,gs',sl',t',d',a',w',k1.trans r1,k2.trans r2,r3,r4,r5,r6.trans hs1⟩
end
end Rn
namespace Rn
open Go.Conc
theorem evOk_evC {C:Ctx} {r:Ren} {SB:Bl} {B:Nat} {e:Event} (h:EvOk C r e) (hr:∀ a b,r a b->b<B/\¬ SB b):EvC SB B e:=by
 have plain:EvOwn (fun b=>∃ a,r a b) (fun _=>False) e->EvC SB B e:=fun k=>evOwn_evC k (fun b hb=>by
  rcases hb with ⟨a,ab⟩ | hb
  ·exact hr a b ab
  ·exact hb.elim)
 rcases h with ⟨hs,⟨q,hq,a,ab,_⟩ | ⟨b,hq,a,ab,_⟩⟩ | h | ⟨_,hs,b,hq,a,ab,_⟩
 ·exact plain (.inl ⟨hs,.inl ⟨q,hq,.inl ⟨a,ab⟩⟩⟩)
 ·exact plain (.inl ⟨hs,.inr ⟨b,hq,.inl ⟨a,ab⟩⟩⟩)
 ·exact plain (.inr h)
 ·obtain ⟨loc,wr,sy⟩:=e
  simp only at hs hq;subst hs;subst hq;have key:∀ x,(MemAct.ofEvent ⟨.obj b,wr,true⟩).touch?=some x->x.loc = .obj b:=fun x hx=>by
   cases wr <;> simp [MemAct.ofEvent,MemAct.touch?] at hx
   subst hx;rfl
  obtain ⟨k1,k2⟩:=hr a b ab;refine ⟨fun x hx c hc => ?_,fun x hx hd => ?_,by simp,by simp,by simp⟩
  ·rw [key x hx] at hc; cases hc; exact k1
  ·rw [key x hx] at hd
   obtain ⟨c,hc,hs⟩:=hd;cases hc;exact k2 hs
theorem Rel.comp {P:Program} {s s1 s2:St} (h:Rel P s1 s) {n N:Nat} (hp:Path P s1 n N s2):Rel P s2 s:=by
 obtain ⟨m,M,h1,h2⟩:=h;exact ⟨m+n,M+N,by omega,h2.trans hp⟩
theorem end_fn {P:Program} {s0:St} {f0:Nat} {R:Value->World->Prop} (hR:∀ t d,∃ K v w' fr,runN P K (s0.at t d) = .next (lone fr [Xb] w')/\R v w'/\fr.fn=f0/\fr.leaving P w' (.returned v))
  {n N:Nat} {f:Frame} {w:World} (hp:Path P s0 n N ⟨f,[Xb],w⟩) {u:Tp} {d:Nat} {x:Value} (he:f.leaving P (w.tp u d) (.returned x)):f.fn=f0:=by
 obtain ⟨t,h1,h2⟩:=hp.under u d;obtain ⟨K,v,w',fr,h3,_,h4,h5⟩:=hR t 0;have key:lone f [Xb] (w.tp t n)=lone fr [Xb] w'->f.fn=f0:=fun e=>by
  unfold lone at e;simp at e;obtain ⟨_,e2⟩:=e;rw [e2]; exact h4
 have hE:Ends P false fr w' v := .inl ⟨rfl,h5⟩;have hf:f.mode = .returning:=he.1;by_cases hK:K<=N
 ·have:=runN_add P K (N - K) (s0.at t 0)
  rw [show K+(N - K)=N by omega,h1,h3] at this;rcases run_past hE this.symm with ⟨_,e⟩ | ⟨_,e⟩
  ·exact key e
  ·exfalso
   unfold St.at lone at e;simp at e
 ·obtain ⟨j,rfl⟩:∃ j,K=N+(j+1):=⟨K - N - 1,by omega⟩
  rw [runN_add,h1] at h3;exfalso
  obtain ⟨k1,k2,k3,fn,k4,k5⟩:=he;have hs:∃ o w2,step P (lone f [Xb] (w.tp t n)) = .ended o w2 ∨ ∃ w3,step P (lone f [Xb] (w.tp t n)) = .next (lone Xb [] w3):=by
   cases hr:(results fn f.tmps).run P (w.tp t n) with
   | ok y w1=>exact ⟨.done undef,w,.inr ⟨w1,step_lone_go (by simp [stepG,unwind,doReturn,k1,k2,k3,k4,hr,Xb_finish])⟩⟩
   | halt hh wh =>
    have:∃ o w2,(stepG P true { frame:=f,callers := [Xb],status := .running,dying:=none } (w.tp t n)).bare = .ended o w2:=by
     cases hh <;> exact ⟨_,_,by simp [stepG,unwind,k1,k2,k4,hr]; first | rfl | exact ⟨rfl,rfl⟩⟩
    obtain ⟨o,w2,h⟩:=this;exact ⟨o,w2,.inl (step_lone_ended h)⟩
  obtain ⟨o,w2,hs⟩:=hs;simp only [St.at] at h3;simp only [runN] at h3;rcases hs with hs | ⟨w3,hs⟩
  ·rw [hs] at h3; cases h3
  ·rw [hs] at h3
   cases j with
   | zero =>
    simp only [runN] at h3;unfold lone at h3;simp at h3
   | succ j =>
    simp only [runN] at h3;cases hq:step P (lone Xb [] w3) with
    | next m=>exact absurd hq (step_Xb _ _ _)
    | ended o2 w4=>rw [hq] at h3; cases h3
section
variable {noT : TypeId} {ws : List Win}
theorem engine_loop (hno:Tryz.prog.toTables.info? noT=none) {R:Value->World->Prop} {s0:St} {f0:Nat}
  (hR0:∀ t d,∃ K v w' fr,runN Tryzx.prog K (s0.at t d) = .next (lone fr [Xb] w')/\R v w'/\fr.fn=f0/\fr.leaving Tryzx.prog w' (.returned v)) (hi0:Tryz.prog.inits.idxOf? f0=none) (v0:World) {Post:Value->World->Prop}
  (hpost:∀ r w x v y,VR (gctx noT ws) r x y->R x w->Stays (fun b=>b<v0.heap.size) v0 v->Post y v) :
  ∀ s,Acc (Rel Tryzx.prog) s->∀ {n N:Nat} {r:Ren} {f':Frame} {L':List Frame} {v:World} {gs:Array Goroutine} (sl:Option (Nat × Nat)) {t:Trace} {SB:Bl},Path Tryzx.prog s0 n N s->FrR (gctx noT ws) r s.f f'->LR (gctx noT ws) r [Xb] [] s.L L'->WR (gctx noT ws) r s.w v ->
   Calm Tryz.prog SB gs v t->gs[0]?=some (G f' L')->(∀ a b,r a b->¬ SB b)->(∀ a b,r a b->¬ (gctx noT ws).RO a->v0.heap.size<=b)->Stays (fun b=>b<v0.heap.size) v0 v ->
   ∃ M last o w' t',runNT Tryz.prog (M+1) (crowd gs v sl) t=(.ended o w',t')/\runN Tryz.prog M (crowd gs v sl) = .next last/\step Tryz.prog last = .ended o w'/\Go.Conc.Good Tryz.prog Post last o w' t':=by
 have hR:Res (gctx noT ws).Px (fun b x w=>b=false/\R x w) s0:=fun t d=>by
  obtain ⟨K,v,w',fr,h1,h2,_,h3⟩:=hR0 t d;exact ⟨K,false,v,w',fr,h1,⟨rfl,h2⟩,.inl ⟨rfl,h3⟩⟩
 intro s hacc;induction hacc with
 | intro s _ ih =>
  obtain ⟨f,L,w⟩:=s;intro n N r f' L' v gs sl t SB hp hf hl hw hc h0 hsb hnew hst;by_cases hend:f.mode = .returning/\L = [Xb]
  ·obtain ⟨hm,rfl⟩:=hend
   have hL':L' = []:=by
    generalize hX : [Xb]=X at hl;cases hl with
    | nil=>rfl
    | cons a b=>simp only [List.cons.injEq] at hX; obtain ⟨_,rfl⟩:=hX; cases b
   subst hL';obtain ⟨q,hq⟩:=hc.fuel;refine beside_last (a:=G f' []) (sl:=sl) _ (Nat.le_refl _) hc hq h0 rfl fun d => ?_
   obtain ⟨u,e,hT,⟨_,b,x,⟨rfl,hRx⟩,hends⟩ | ⟨f1,L1,w1,m,hnf,_⟩ | ⟨_,_,_,_,_,_,_,_,_,_,hnf,_⟩⟩:=stepOn (main:=true) gok hR hp hf hl (hw.atR d);rotate_left
   ·exact absurd ⟨hm,rfl⟩ hnf
   ·exact absurd ⟨hm,rfl⟩ hnf
   have hlv:f.leaving Tryzx.prog (w.tp u e) (.returned x):=by
    rcases hends with ⟨_,h⟩ | ⟨h,_⟩
    ·exact h
    ·cases h
   have hfn:=end_fn hR0 hp hlv;obtain ⟨y,v1,es,r1,hs,hext,hw1,hev,hvr⟩:=end_step gok hf ((hw.atR d).tp u e) hT hlv (by rw [hfn]; exact hi0);have hsz:v.heap.size<=v1.heap.size:=by
    have:=hext.size;have:=hext.sizeL;show (v.at d).heap.size<=_
    omega
   refine ⟨y,v1,es,hs,hpost r1 _ x v1 y hvr hRx ?_,fun ev hev1=>evOk_evC (hev ev hev1) fun a b ab=>⟨(hw1.lt a b ab).2,fun hx => ?_⟩⟩
   ·refine ⟨hext.tape.trans hst.tape,hext.os.trans hst.os,hext.output.trans hst.output,Nat.le_trans hst.size hsz,fun b hb _ => ?_⟩
    rw [<- hst.block b hb hb];show v1.heap[b]?=(v.at d).heap[b]?
    by_cases hx:∃ a,r a b
    ·obtain ⟨a,ab⟩:=hx
     by_cases hr:(gctx noT ws).RO a
     ·exact hext.keepRO a b ab hr
     ·exact absurd (hnew a b ab hr) (by omega)
    ·exact hext.keep b (Nat.lt_of_lt_of_le hb hst.size) fun a ab=>hx ⟨a,ab⟩
   ·rcases hext.new a b ab with h1 | ⟨i,_,rfl⟩
    ·exact hsb a b h1 hx
    ·have:=hc.sb _ hx
     have h2:(v.at d).heap.size=v.heap.size:=rfl;omega
  ·have hall:∀ d,∃ u e,TE (w.tp u e) (v.at d)/\((∃ f1 L1 w1 m,Path Tryzx.prog s0 (n+m) (N+1) ⟨f1,L1,w1⟩/\Rel Tryzx.prog ⟨f1,L1,w1⟩ ⟨f,L,w⟩/\Answers (gctx noT ws) r [Xb] [] true f' L' (w.tp u e) (v.at d) (G f1 L1) w1) ∨
     (∃ x x' m w2 v1 v2 r1 c' sh es',Path Tryzx.prog s0 (n+m) (N+1) ⟨f.finish x,L,w2⟩/\Rel Tryzx.prog ⟨f.finish x,L,w2⟩ ⟨f,L,w⟩/\CommOn (gctx noT ws) r f f' (w.tp u e) (v.at d) x x' m w2 v1 v2 r1 c' sh es')):=fun d=>by
    obtain ⟨u,e,hT,⟨hL,b,x,⟨rfl,hRx⟩,hends⟩ | ⟨f1,L1,w1,m,hnf,_,hp1,hrel,hans⟩ | ⟨x,x',m,w2,v1,v2,r1,c',sh,es',hnf,_,hp1,hrel,hcm⟩⟩:=stepOn (main:=true) gok hR hp hf hl (hw.atR d)
    ·exfalso
     rcases hends with ⟨_,h⟩ | ⟨h,_⟩
     ·exact hend ⟨h.1,hL⟩
     ·cases h
    ·exact ⟨u,e,hT,.inl ⟨f1,L1,w1,m,hp1,hrel,hans⟩⟩
    ·exact ⟨u,e,hT,.inr ⟨x,x',m,w2,v1,v2,r1,c',sh,es',hp1,hrel,hcm⟩⟩
   have hfacts:∀ (d:Nat) (r1:Ren) (w1 v1:World) (u:Tp) (e:Nat),Ext (gctx noT ws) r (w.tp u e) (v.at d) r1 w1 v1->WR (gctx noT ws) r1 w1 v1->v.heap.size<=v1.heap.size/\(∀ a b,r1 a b->¬ SB b)/\(∀ a b,r1 a b->¬ (gctx noT ws).RO a->v0.heap.size<=b)/\Stays (fun b=>b<v0.heap.size) v0 v1:=by
    intro d r1 w1 v1 u e hext hw1;have h2:(v.at d).heap.size=v.heap.size:=rfl;have hsz:v.heap.size<=v1.heap.size:=by
     have:=hext.size;have:=hext.sizeL;omega
    refine ⟨hsz,fun a b ab hx => ?_,fun a b ab hr => ?_,hext.tape.trans hst.tape,hext.os.trans hst.os,hext.output.trans hst.output,Nat.le_trans hst.size hsz,fun b hb _ => ?_⟩
    ·rcases hext.new a b ab with h1 | ⟨i,_,rfl⟩
     ·exact hsb a b h1 hx
     ·have:=hc.sb _ hx
      omega
    ·rcases hext.new a b ab with h1 | ⟨i,_,rfl⟩
     ·exact hnew a b h1 hr
     ·have:=hst.size
      omega
    ·rw [<- hst.block b hb hb]
     show v1.heap[b]?=(v.at d).heap[b]?
     by_cases hx:∃ a,r a b
     ·obtain ⟨a,ab⟩:=hx
      by_cases hr:(gctx noT ws).RO a
      ·exact hext.keepRO a b ab hr
      ·exact absurd (hnew a b ab hr) (by omega)
     ·exact hext.keep b (Nat.lt_of_lt_of_le hb hst.size) fun a ab=>hx ⟨a,ab⟩
   obtain ⟨q,hq⟩:=hc.fuel;obtain ⟨N1,gs1,sl1,t1,d,a1,v',e1,e2,⟨u,e,f1,L1,w1,m,r1,hp1,hrel,hext,hw1,hout⟩,c1,g1,s1⟩:=beside_both (sl:=sl) (K:=fun d a' v'=>∃ u e f1 L1 w1 m r1,Path Tryzx.prog s0 (n+m) (N+1) ⟨f1,L1,w1⟩/\Rel Tryzx.prog ⟨f1,L1,w1⟩ ⟨f,L,w⟩/\Ext (gctx noT ws) r (w.tp u e) (v.at d) r1 w1 v'/\WR (gctx noT ws) r1 w1 v'/\Out (gctx noT ws) r1 [Xb] [] (G f1 L1) a') _ (Nat.le_refl _) hc hq h0 fun d=>by
    obtain ⟨u,e,hT,⟨f1,L1,w1,m,hp1,hrel,h',v',es,r',hstep,hext,hw',hT',hev,hout⟩ | ⟨x,x',m,w2,v1,v2,r1,c',sh,es',hp1,hrel,hcm⟩⟩:=hall d
    ·obtain ⟨k1,k2,_,_⟩:=hfacts d r' w1 v' u e hext hw'
     exact .inl ⟨h',v',es,hstep,k1,fun ev hev1=>evOk_evC (hev ev hev1) fun a b ab=>⟨(hw'.lt a b ab).2,k2 a b ab⟩,u,e,f1,L1,w1,m,r',hp1,hrel,hext,hw',hout⟩
    ·obtain ⟨k1,k2,_,_⟩:=hfacts d r1 w2 v2 u e hcm.ext hcm.wr
     exact .inr ⟨c',sh,x',v1,v2,es',hcm.real true L',hcm.rdy,k1,fun ev hev1=>evOk_evC (hcm.ev ev hev1) fun a b ab=>⟨(hcm.wr.lt a b ab).2,k2 a b ab⟩,u,e,f.finish x,L,w2,m,r1,hp1,hrel,hcm.ext,hcm.wr,.go ((hf.mono hcm.ext.le).finish hcm.val) (hl.mono hcm.ext.le)⟩
   obtain ⟨k1,k2,k3,k4⟩:=hfacts d r1 w1 v' u e hext hw1;suffices hs:∃ M last o w' t',runNT Tryz.prog (M+1) (crowd gs1 v' sl1) t1=(.ended o w',t')/\runN Tryz.prog M (crowd gs1 v' sl1) = .next last/\step Tryz.prog last = .ended o w'/\Go.Conc.Good Tryz.prog Post last o w' t' by
    obtain ⟨M,last,o,w',t',q1,q2,q3,q4⟩:=hs;exact ⟨N1+M,last,o,w',t',by rw [Nat.add_assoc,runNT_add,e1]; exact q1,by rw [runN_add,e2]; exact q2,q3,q4⟩
   generalize hgl:G f1 L1=gl at hout;cases hout with
   | @go f2 f2' L2 L2' a b =>
    unfold G at hgl;simp at hgl;obtain ⟨rfl,rfl⟩:=hgl;exact ih ⟨f1,L1,w1⟩ hrel sl1 hp1 a b hw1 c1 g1 k2 k3 k4
   | @call fn args args' f2 f2' L2 L2' hent hnf hargs hf2 hl2 =>
    unfold G at hgl;simp at hgl;obtain ⟨rfl,rfl⟩:=hgl;have hfn:fn=87/\args.size=1:=by
     rcases hent with h | ⟨⟨k,h⟩,h1⟩
     ·exact absurd (gfine h) hnf
     ·exact ⟨lawD_spec h,h1⟩
    obtain ⟨rfl,hsz⟩:=hfn;obtain ⟨x,rfl⟩:∃ x,args = #[x]:=Array.size_eq_one_iff.1 hsz;have hsz':args'.size=1:=by rw [<- hargs.size]; rfl
    obtain ⟨x',rfl⟩:∃ x,args' = #[x]:=Array.size_eq_one_iff.1 hsz';have hx:VR (gctx noT ws) r1 x x':=hargs.get 0 _ _ rfl rfl;obtain ⟨cs2,rfl,hpl⟩:=hl2.plain;have hplf:PlainF Tryzx.prog f2:=by
     cases hf2 with
     | mk m hF _ _ =>
      obtain ⟨fn,c,h1,_⟩:=hF.body;exact ⟨rfl,⟨fn,h1⟩,by cases m <;> first | exact .inl rfl | exact .inr rfl⟩
    obtain ⟨t',_,K,b,xx,w',fr,hK,hRx,hE⟩:=hR.ahead hp1 (by simp) (fun _ _=>0) 0;have hah:Ahead Tryzx.prog (Frame.enter Tryzx.prog 87 #[x] .normal) ((f2 :: cs2) ++ [Xb]) (w1.tp t' (n+m)):=⟨K,b,fr,w',xx,hK,hE⟩;obtain ⟨A,nn,c,xs,rfl,hin⟩:=inv_rows (by simp) (fun q hq=>by
     rcases List.mem_cons.1 hq with rfl | hq
     ·exact hplf
     ·exact hpl q hq) hah (vr_self hx) (((wr_self hw1).tp t' _).tpR t' _)
    have hin1:RowsIn A nn xs w1:=hin;obtain ⟨A',rfl,hin',hA'⟩:=rows_real hw1 hx hin1;obtain ⟨N2,gs2,sl2,t2,v2,SB2,y',own,e4,c2,hSB,g2,hst2,hown,hval⟩:=cornersWhole hno sl1 c1 g1 hin' (fun a ha=>by
     obtain ⟨b,hb⟩:=hA' a ha;exact ⟨(hw1.lt _ _ hb).2,k2 _ _ hb⟩) hw1.big.2
    have e5:runN Tryz.prog N2 (crowd gs1 v' sl1) = .next (crowd gs2 v2 sl2):=by rw [<- runNT_fst _ _ _ t1,e4]
    have hlen:=(corn_acc xs nn).len;have hfew:=(corn_acc xs nn).few;obtain ⟨cc,hc1,hc2,hcc⟩:∃ cc,cornN xs nn<=cc/\cc<=maxLen/\∀ g q cap,y' = .slice (some ⟨g,0,none⟩) q cap->cap=cc/\q=cornN xs nn:=by
     rcases hval with ⟨rfl,hnil⟩ | ⟨g,q,cap,cur,rfl,_,hq,_,hqc,hcm,_⟩
     ·exact ⟨cornN xs nn,Nat.le_refl _,by unfold maxLen; omega,fun g q cap e=>by cases e⟩
     ·exact ⟨cap,by omega,hcm,fun g' q' cap' e=>by cases e; exact ⟨rfl,by omega⟩⟩
    obtain ⟨m2,N3,w2,y,hN3,hp2,hlv,hsz2,hold⟩:=lone_call hw1 hx hin1 hc1 hc2 f2 (cs2 ++ [Xb]);have hp3:=hp1.trans hp2;have hrel3:=hrel.comp hp2;have hwg:=hw1.grow hsz2 hst2.size hold (fun b hb=>hst2.block b hb hb);have hSB2:∀ a b,r1 a b->¬ SB2 b:=fun a b ab hx=>by
     rcases hSB b hx with h | h
     ·exact k2 a b ab h
     ·have:=(hw1.lt a b ab).2; omega
    have hst3:Stays (fun b=>b<v0.heap.size) v0 v2:=⟨hst2.tape.trans k4.tape,hst2.os.trans k4.os,hst2.output.trans k4.output,Nat.le_trans k4.size hst2.size,fun b hb _=>(hst2.block b (Nat.lt_of_lt_of_le hb k4.size) (Nat.lt_of_lt_of_le hb k4.size)).trans (k4.block b hb hb)⟩;suffices hs:∃ M last o w' t',runNT Tryz.prog (M+1) (crowd gs2 v2 sl2) t2=(.ended o w',t')/\runN Tryz.prog M (crowd gs2 v2 sl2) = .next last/\step Tryz.prog last = .ended o w'/\Go.Conc.Good Tryz.prog Post last o w' t' by
     obtain ⟨M,last,o,w',t',q1,q2,q3,q4⟩:=hs;exact ⟨N2+M,last,o,w',t',by rw [Nat.add_assoc,runNT_add,e4]; exact q1,by rw [runN_add,e5]; exact q2,q3,q4⟩
    rcases hlv with ⟨rfl,hnil⟩ | ⟨g,hg,hglt,hq,rfl,hh⟩
    ·have hy:y' = .slice none 0 0:=by
      rcases hval with ⟨rfl,_⟩ | ⟨g,q,cap,cur,rfl,_,hq,hq1,_⟩
      ·rfl
      ·rw [hnil] at hq; simp at hq; omega
     subst hy;exact ih ⟨f2.finish (.slice none 0 0),cs2 ++ [Xb],w2⟩ hrel3 sl2 hp3 (hf2.finish (.sl0 0 0)) hl2 hwg c2 g2 hSB2 k3 hst3
    ·rcases hval with ⟨rfl,hnil⟩ | ⟨g',q,cap,cur,rfl,hog,hq4,hq1,hqc,hcm,hh',hcs,hcx,hcz⟩
     ·exfalso
      rw [cornN,hnil] at hq;simp at hq
     obtain ⟨rfl,rfl⟩:=hcc _ _ _ rfl;obtain ⟨hg1,hg2,hg3⟩:=hown _ hog;have hx1:∀ b,¬ r1 g b:=fun b hb=>by have:=(hw1.lt _ _ hb).1; omega
     have hx2:∀ a,¬ r1 a g':=fun a ha=>by have:=(hw1.lt _ _ ha).2; omega
     have hro:¬ (gctx noT ws).RO g:=fun h=>by have:=hw1.roLt _ h; omega
     have hva:VAll (gctx noT ws) (r1.ext g g') (((cornL xs nn).map (Value.int .i64)).toArray ++ Builtin.zeroCells #[.int .i64 0,.int .i64 0,.int .i64 0,.int .i64 0] (cap - cornN xs nn)) cur:=by
      refine ⟨?_,fun i x y hxi hyi => ?_⟩
      ·rw [Array.size_append,size_zeroCells,hcs]
       simp only [List.size_toArray,List.length_map,hlen,List.length_cons,List.length_nil,Nat.reduceAdd];omega
      ·have hilt:=(Array.getElem?_eq_some_iff.1 hyi).1
       rw [hcs] at hilt;rw [Array.getElem?_append] at hxi;by_cases hi:i<cornN xs nn*4
       ·rw [hcx i hi] at hyi
        cases hyi;rw [if_pos (by simpa [hlen] using hi)] at hxi;have hil:i<(cornL xs nn).length:=by omega
        simp only [List.getElem?_toArray,List.getElem?_map,List.getElem?_eq_getElem hil,Option.map_some,Option.some.injEq] at hxi;subst hxi;rw [nth_get _ i hil];exact .int _ _
       ·rw [hcz i (by omega) hilt] at hyi
        cases hyi;rw [if_neg (by simpa [hlen] using hi)] at hxi;rw [zeroCells_at zz4 (Array.getElem?_eq_some_iff.1 hxi).1] at hxi;cases hxi;exact .int _ _
     have hw3:=hwg.pair hglt hg2 hx1 hx2 hro ⟨Nat.le_trans hw1.big.1 hg,Nat.le_trans hw1.big.2 hg1⟩ (by rw [hh,hh']; exact .cells hva);have hvr:VR (gctx noT ws) (r1.ext g g') (.slice (some ⟨g,0,none⟩) (cornN xs nn) cap) (.slice (some ⟨g',0,none⟩) (cornN xs nn) cap) := .sl _ _ ⟨.inr ⟨rfl,rfl⟩,by show 0=0+(gctx noT ws).sh g; rw [hw3.shz _ hro],rfl⟩;have hsub:=Ren.sub_ext r1 g g';refine ih ⟨f2.finish (.slice (some ⟨g,0,none⟩) (cornN xs nn) cap),cs2 ++ [Xb],w2⟩ hrel3 sl2 hp3 ((hf2.mono hsub).finish hvr) (hl2.mono hsub) hw3 c2 g2 (fun a b ab => ?_) (fun a b ab hr => ?_) hst3
     ·rcases ab with ab | ⟨rfl,rfl⟩
      ·exact hSB2 a b ab
      ·exact hg3
     ·rcases ab with ab | ⟨rfl,rfl⟩
      ·exact k3 a b ab hr
      ·have:=k4.size; omega
end
end Rn
namespace Rn
open Go.Conc
noncomputable def lworld (noT:TypeId) (ws:List Win) (v:World):World := { v with heap:=(Array.replicate Tryz.prog.globals.size (Obj.map #[] 0)) ++ (ws.map fun x=>Obj.cells x.cells noT (0,x.cells.size)).toArray }
def lR (ws:List Win):Ren:=fun a b=>∃ (i:Nat) (x:Win),ws[i]?=some x/\x.live=true/\a=Tryz.prog.globals.size+i/\b=x.blk
section
variable {noT : TypeId} {ws : List Win} {v : World}
theorem l_size:(lworld noT ws v).heap.size=Tryz.prog.globals.size+ws.length:=by
 show ((Array.replicate Tryz.prog.globals.size (Obj.map #[] 0)) ++ (ws.map fun x=>Obj.cells x.cells noT (0,x.cells.size)).toArray).size=_
 simp
theorem l_at {i:Nat} {x:Win} (h:ws[i]?=some x):(lworld noT ws v).heap[Tryz.prog.globals.size+i]?=some (.cells x.cells noT (0,x.cells.size)):=by
 show ((Array.replicate Tryz.prog.globals.size (Obj.map #[] 0)) ++ (ws.map fun x=>Obj.cells x.cells noT (0,x.cells.size)).toArray)[Tryz.prog.globals.size+i]?=_
 rw [Array.getElem?_append,if_neg (by simp)];simp [h]
def WinsOk (noT:TypeId) (ws:List Win) (v:World):Prop:=∀ (i:Nat) (x:Win),ws[i]?=some x->x.live=true->∃ c' t' z',v.heap[x.blk]?=some (.cells c' t' z')/\∀ (k:Nat) u,x.cells[k]?=some u->∃ u',c'[k+x.off]?=some u'/\VR (gctx noT ws) (lR ws) u u'
theorem l_wr (hno:Tryz.prog.toTables.info? noT=none) (hG:Tryz.prog.globals.size<=v.heap.size) (h:WinsOk noT ws v):WR (gctx noT ws) (lR ws) (lworld noT ws v) v where
 lt:=by
  rintro a b ⟨i,x,hi,hl,rfl,rfl⟩;obtain ⟨c',t',z',k,_⟩:=h i x hi hl;exact ⟨by rw [l_size]; have:=(List.getElem?_eq_some_iff.1 hi).1; omega,(Array.getElem?_eq_some_iff.1 k).1⟩
 fn:=by
  rintro a b b' ⟨i,x,hi,_,rfl,rfl⟩ ⟨i',x',hi',_,e,rfl⟩;obtain rfl:i=i':=by omega
  rw [hi] at hi'; cases hi'; rfl
 inj:=by
  rintro a a' b ⟨i,x,hi,_,rfl,_⟩ ⟨i',x',hi',_,rfl,_⟩;have:=(List.getElem?_eq_some_iff.1 hi).1;have:=(List.getElem?_eq_some_iff.1 hi').1;exact .inr ⟨⟨by omega,by omega⟩,⟨by omega,by omega⟩⟩
 obj:=by
  rintro a b ⟨i,x,hi,_,rfl,_⟩ hr;have:=(List.getElem?_eq_some_iff.1 hi).1;exact absurd (show (gctx noT ws).RO _ from ⟨by omega,by omega⟩) hr
 win:=by
  rintro a b ⟨i,x,hi,hl,rfl,rfl⟩ hr;obtain ⟨c',t',z',k,hk⟩:=h i x hi hl;have hlt:=(List.getElem?_eq_some_iff.1 hi).1;refine ⟨x.cells,x.cells.size,c',t',z',l_at hi,Nat.le_refl _,k,fun j u hu => ?_⟩;have e:(gctx noT ws).sh (Tryz.prog.globals.size+i)=x.off:=by
   show (if Tryz.prog.globals.size<=Tryz.prog.globals.size+i/\Tryz.prog.globals.size+i<Tryz.prog.globals.size+ws.length then ((ws[Tryz.prog.globals.size+i - Tryz.prog.globals.size]?).map (·.off)).getD 0 else 0)=_
   rw [if_pos ⟨by omega,by omega⟩,Nat.add_sub_cancel_left,hi];rfl
  rw [e];exact hk j u hu
 winG:=by rintro a b ⟨i,x,hi,_,rfl,_⟩ _; exact Nat.le_add_right _ _
 glob:=by
  rintro a b ⟨i,x,hi,_,rfl,_⟩ hr;have:=(List.getElem?_eq_some_iff.1 hi).1;exact absurd (show (gctx noT ws).RO _ from ⟨by omega,by omega⟩) hr
 big:=⟨by rw [l_size]; exact Nat.le_add_right _ _,hG⟩;shz:=by
  intro a hr;show (if Tryz.prog.globals.size<=a/\a<Tryz.prog.globals.size+ws.length then _ else 0)=0
  rw [if_neg (show ¬ (Tryz.prog.globals.size<=a/\a<Tryz.prog.globals.size+ws.length) from hr)]
 roLt:=by rintro a ⟨_,h2⟩; rw [l_size]; exact h2
 noInfo:=hno
theorem calm0 (g:Goroutine) (w:World):Calm Tryz.prog (fun _=>False) #[g] w #[] where
 old:=fun i x hi hx=>by
  have:=(Array.getElem?_eq_some_iff.1 hx).1;simp at this;omega
 above:=fun k _=>rfl
 past:=⟨fun said ⟨i,j,h⟩=>by
  obtain ⟨_,⟨a,b,ha,_⟩,_⟩:=h;simp [Trace.act?] at ha,fun i a ha=>by simp [touchAt,Trace.act?] at ha,fun i g hg=>by simp [Trace.g?] at hg,rfl⟩
 seen:=fun op hop=>by simp at hop
 norel:=fun op hop=>by simp at hop
 sb:=fun b h=>h.elim
theorem engine (hno:Tryz.prog.toTables.info? noT=none) {f0:Nat} (hf0:lawF f0=true) (hi0:Tryz.prog.inits.idxOf? f0=none) {largs args:Array Value} (hG:Tryz.prog.globals.size<=v.heap.size) (hws:WinsOk noT ws v) (hargs:VAll (gctx noT ws) (lR ws) largs args)
  (hcalls:∀ t d,Calls Tryzx.prog f0 largs ((lworld noT ws v).tp t d) fun e _=>e = .returned (.bool true)) :
  ∃ M last o w' t',runNT Tryz.prog (M+1) (solo (G (Frame.enter Tryz.prog f0 args .normal) []) v) #[]=(.ended o w',t')/\runN Tryz.prog M (solo (G (Frame.enter Tryz.prog f0 args .normal) []) v) = .next last/\step Tryz.prog last = .ended o w' /\
   Go.Conc.Good Tryz.prog (fun y w'=>y = .bool true/\Stays (fun b=>b<v.heap.size) v w') last o w' t':=by
 have hR0:∀ t d,∃ K x w' fr,runN Tryzx.prog K (St.at ⟨Frame.enter Tryzx.prog f0 largs .normal,[Xb],lworld noT ws v⟩ t d) = .next (lone fr [Xb] w')/\x = .bool true/\fr.fn=f0/\fr.leaving Tryzx.prog w' (.returned x):=fun t d=>by
  obtain ⟨e,w',fr,rfl,⟨K,hK⟩,h1,h2⟩:=hcalls t d [Xb];exact ⟨K,_,w',fr,hK,rfl,h1,h2⟩
 have hres:Res Tryzx.prog (fun b x w=>b=false/\x = .bool true) ⟨Frame.enter Tryzx.prog f0 largs .normal,[Xb],lworld noT ws v⟩:=fun t d=>by
  obtain ⟨K,x,w',fr,h1,h2,_,h3⟩:=hR0 t d;exact ⟨K,false,x,w',fr,h1,⟨rfl,h2⟩,.inl ⟨rfl,h3⟩⟩
 have hwr:=l_wr hno hG hws;have hfr:=enter_FrR (C:=gctx noT ws) (gfine hf0) hargs;rw [solo_eq_crowd];have hpost:∀ (r:Ren) (w:World) (x:Value) (u:World) (y:Value),VR (gctx noT ws) r x y->x = .bool true->Stays (fun b=>b<v.heap.size) v u->y = .bool true/\Stays (fun b=>b<v.heap.size) v u:=fun r w x u y hv hx hst=>by
  subst hx;cases hv;exact ⟨rfl,hst⟩
 have hnew:∀ a b,lR ws a b->¬ (gctx noT ws).RO a->v.heap.size<=b:=fun a b ab hr=>by
  obtain ⟨i,x,hi,_,rfl,_⟩:=ab;have:=(List.getElem?_eq_some_iff.1 hi).1;exact absurd (show (gctx noT ws).RO _ from ⟨by omega,by omega⟩) hr
 exact engine_loop (noT:=noT) (ws:=ws) hno (R:=fun x _=>x = .bool true) hR0 hi0 v hpost _ hres.acc none (Path.refl _ _) hfr (LR.nil) hwr (calm0 _ _) rfl (fun a b _ h=>h) hnew (.refl _ _)
end
end Rn
namespace Rn
open Go.Conc Go.WideShapes
def AtCells (v:World) (A:Option Addr):Prop:=∀ a,A=some a->a.spot=none/\∃ c t z,v.heap[a.block]?=some (.cells c t z)
section
variable {P : Program} {w : World} {r : Reach} {base : Nat} {t e u : TypeId} {fs : Array Field} {A : Option Addr} {n c : Nat}
theorem has_cells {a:Addr} {k:Nat} (h:World.has P w r base a e k):a.spot=none/\∃ c t z,w.heap[a.block]?=some (.cells c t z):=by
 obtain ⟨_,h1,row,cells,h2,_⟩:=h;refine ⟨h1,?_⟩;unfold World.shape? at h2;split at h2
 ·rename_i c el z h; exact ⟨_,_,_,h⟩
 ·cases h2
theorem cell_atCells (ht:P.underlying t=some (.slice e)) (h:Cell.okWide P w r base t (.slice A n c)):AtCells w A:=by
 intro a ha; subst ha;simp only [Cell.okWide,ht,Cell.ok] at h;exact has_cells h.2.2
theorem slice_atCells (ht:P.underlying t=some (.slice e)) (h:Value.okWide P w r base t (.slice A n c)):AtCells w A:=by
 simp only [Value.okWide,ht] at h;exact cell_atCells ht h
end
noncomputable def winOf (k:IntKind) (A:Option Addr) (m:Nat) (zs:List Int):Win:=match A with
 | none=>⟨false,0,0,#[]⟩
 | some a=>⟨true,a.block,a.off,((List.range m).map fun i=>Value.int k (nth zs i)).toArray⟩
noncomputable def lA (A:Option Addr) (i:Nat):Option Addr:=match A with | none=>none | some _=>some ⟨Tryz.prog.globals.size+i,0,none⟩
section
variable {noT : TypeId} {ws : List Win} {v : World} {B K n i : Nat} {A : Option Addr} {zs : List Int}
def WinOk (noT:TypeId) (ws:List Win) (v:World) (x:Win):Prop:=x.live=true->∃ c' t' z',v.heap[x.blk]?=some (.cells c' t' z')/\∀ (k:Nat) u,x.cells[k]?=some u->∃ u',c'[k+x.off]?=some u'/\VR (gctx noT ws) (lR ws) u u'
theorem winsOk_nil:WinsOk noT ws v ↔ ∀ x ∈ ws,WinOk noT ws v x:=by
 refine ⟨fun h x hx => ?_,fun h i x hi=>h x (List.mem_of_getElem? hi)⟩;obtain ⟨i,hi⟩:=List.getElem?_of_mem hx;exact h i x hi
theorem vr_slice {k:IntKind} {m c:Nat} (hat:AtCells v A) (hi:ws[i]?=some (winOf k A m zs)):VR (gctx noT ws) (lR ws) (.slice (lA A i) n c) (.slice A n c):=by
 cases A with
 | none=>exact .sl0 _ _
 | some a =>
  refine .sl _ _ ⟨⟨i,_,hi,rfl,rfl,rfl⟩,?_,(hat a rfl).1⟩;have hlt:=(List.getElem?_eq_some_iff.1 hi).1;show a.off=0+(if Tryz.prog.globals.size<=Tryz.prog.globals.size+i/\Tryz.prog.globals.size+i<Tryz.prog.globals.size+ws.length then ((ws[Tryz.prog.globals.size+i - Tryz.prog.globals.size]?).map (·.off)).getD 0 else 0)
  rw [if_pos ⟨by omega,by omega⟩,Nat.add_sub_cancel_left,hi];simp [winOf]
theorem stays_below {v w:World} (h:Stays (fun b=>b<v.heap.size) v w):Go.RowKit.Below v.heap.size v w:=⟨h.os,h.tape,h.output,h.size,fun k hk=>h.block k hk hk⟩
end
end Rn
section
open Go.ChangeShapes Go.WideShapes Go.ChangeAt Go.RowKit
def BytesAt (w:World) (B:Nat) (A:Option Addr) (n:Nat) (zs:List Int):Prop :=
 (zs.length=n/\∀ k,0<=nth zs k/\nth zs k<=255)/\(0<n->∃ b off,A=some ⟨b,off,none⟩/\b<B/\∀ k,k<n->w.cell? ⟨b,off+k,none⟩=some (.int .u8 (nth zs k)))
section
variable {w w' : World} {B B' n : Nat} {A : Option Addr} {zs : List Int}
theorem BytesAt.mono (h:BytesAt w B A n zs) (hB:B<=B'):BytesAt w B' A n zs :=
 ⟨h.1,fun hn=>by
  obtain ⟨b,off,e,hb,hc⟩:=h.2 hn;exact ⟨b,off,e,by omega,hc⟩⟩
theorem u8_bounds {n:Int} (h:(Lit.int .u8 n).wf=true):0<=n/\n<=255:=by
 simp [Lit.wf,IntKind.min,IntKind.max,IntKind.signed,IntKind.bits] at h;omega
end
theorem open_bytes_arg {H:Type} {enc:TypeId × Value->H} {P:Program} {W:World} {base:Nat} {t e:TypeId} {v:Value} {d:DataW H} {p:List MemPlace} (ht:P.underlying t=some (.slice e)) (he:P.underlying e=some (.int .u8)) (hc:P.cellsOf e=1)
  (hv:Value.okWide P W .any base t v) (h:DataW.Trod enc P W 0 (fun _=>true) true t v d p) (hlt:∀ x ∈ p,x.block<W.heap.size) :
  ∃ (A:Option Addr) (n c:Nat) (zs:List Int),v = .slice A n c/\BytesAt W W.heap.size A n zs/\n<=maxLen/\n<=c:=by
 obtain ⟨A,n,c,rfl⟩:=okWide_slice ht hv;obtain ⟨fuel,hf⟩:=h;rcases open_ints ht he hc hf with ⟨h0,_⟩ | ⟨a,len,cap,ys,h1,_,hl,hm,hy,hx,hcell,hwf⟩
 ·simp [Value.cells] at h0
  obtain ⟨rfl,rfl,rfl⟩:=h0;exact ⟨_,_,_,[],rfl,⟨⟨rfl,fun k=>by simp [nth]⟩,fun h=>absurd h (by omega)⟩,by simp [maxLen],Nat.le_refl _⟩
 ·simp [Value.cells] at h1
  obtain ⟨rfl,rfl,rfl⟩:=h1;simp only [if_true] at hy;have hw:∀ k,0<=nth (ys.take n) k/\nth (ys.take n) k<=255:=by
   intro k;by_cases hk:k<(ys.take n).length
   ·rw [nth_get _ _ hk]
    exact u8_bounds (hwf _ (List.mem_of_mem_take (List.getElem_mem hk)))
   ·simp [nth,List.getD,List.getElem?_eq_none (Nat.le_of_not_lt hk)]
  refine ⟨_,_,_,ys.take n,rfl,⟨⟨by simp; omega,hw⟩,fun hn => ?_⟩,by omega,hl⟩
  obtain ⟨b,off,rfl,hc'⟩:=ints_at hcell (by omega);refine ⟨b,off,rfl,?_,fun k hk => ?_⟩
  ·have hpx:p=MemPlace.row ⟨b,off,none⟩ ys.length:=by simpa using congrArg Prod.snd hx
   have:MemPlace.cell b off ∈ p:=by
    rw [hpx];simp [MemPlace.row];omega
   exact hlt _ this
  ·rw [hc' k (by omega)]
   have:nth (ys.take n) k=ys.getD k 0:=by
    simp [nth,List.getD,hk]
   rw [this]
end
namespace Rn
open Go.Conc Go.WideShapes
section
variable {noT : TypeId} {ws : List Win} {v : World} {B n i : Nat} {A : Option Addr} {zs : List Int}
theorem winOf_okB (hat:AtCells v A) (h:BytesAt v B A n zs):WinOk noT ws v (winOf .u8 A n zs):=by
 cases A with
 | none=>intro hl; cases hl
 | some a =>
  intro _;obtain ⟨hs,c,t,z,hh⟩:=hat a rfl;refine ⟨c,t,z,hh,fun k u hu => ?_⟩;have hk:k<n:=by
   have:=(Array.getElem?_eq_some_iff.1 hu).1;simpa [winOf] using this
  have hu':u = .int .u8 (nth zs k):=by
   simp [winOf,hk] at hu;exact hu.symm
  subst hu';obtain ⟨b,off,e,_,hc⟩:=h.2 (by omega);cases e;have:=hc k hk;simp only [World.cell?,hh,Option.isSome_none,Bool.false_eq_true,if_false] at this;exact ⟨_,by rw [Nat.add_comm]; exact this,.int _ _⟩
theorem lone_bytes (h:BytesAt v B A n zs) (hi:ws[i]?=some (winOf .u8 A n zs)) (t:Tp) (d:Nat):BytesAt ((lworld noT ws v).tp t d) ((lworld noT ws v).tp t d).heap.size (lA A i) n zs:=by
 refine ⟨h.1,fun hn => ?_⟩;obtain ⟨b,off,rfl,_,_⟩:=h.2 hn;refine ⟨Tryz.prog.globals.size+i,0,rfl,?_,fun k hk => ?_⟩
 ·show _<(lworld noT ws v).heap.size
  rw [l_size];have:=(List.getElem?_eq_some_iff.1 hi).1;omega
 ·show (match (lworld noT ws v).heap[Tryz.prog.globals.size+i]? with | some (.cells c _ _)=>c[0+k]? | _=>none)=_
  rw [l_at hi];simp [winOf,hk]
end
end Rn
end Go.Proofs.YtjcgklifabcfkaaGreat
section
namespace Go.Proofs.Tryzx
theorem ntmps4:Tryz.f4.ntmps=112:=Tryz.ntmps4
theorem ntmps13:Tryz.f13.ntmps=6:=Tryz.ntmps13
theorem ntmps123:Tryz.f123.ntmps=15:=Tryz.ntmps123
end Go.Proofs.Tryzx
end
namespace Go.Proofs.YtjcgklifabcfkaaGreat
namespace X
open Go.ChangeShapes Go.WideShapes Go.ChangeAt Go.RowKit
def BytesAt (w:World) (B:Nat) (A:Option Addr) (n:Nat) (zs:List Int):Prop :=
 (zs.length=n/\∀ k,0<=nth zs k/\nth zs k<=255)/\(0<n->∃ b off,A=some ⟨b,off,none⟩/\b<B/\∀ k,k<n->w.cell? ⟨b,off+k,none⟩=some (.int .u8 (nth zs k)))
section
variable {w w' : World} {B B' n : Nat} {A : Option Addr} {zs : List Int}
theorem BytesAt.mono (h:BytesAt w B A n zs) (hB:B<=B'):BytesAt w B' A n zs :=
 ⟨h.1,fun hn=>by
  obtain ⟨b,off,e,hb,hc⟩:=h.2 hn;exact ⟨b,off,e,by omega,hc⟩⟩
theorem BytesAt.below (h:BytesAt w B A n zs) (hb:Below B w w'):BytesAt w' B A n zs :=
 ⟨h.1,fun hn=>by
  obtain ⟨b,off,e,hb',hc⟩:=h.2 hn;exact ⟨b,off,e,hb',fun k hk'=>(hb.cell (p:=⟨b,off+k,none⟩) hb').trans (hc k hk')⟩⟩
theorem BytesAt.after (h:BytesAt w w.heap.size A n zs) (hb:Below w.heap.size w w'):BytesAt w' w'.heap.size A n zs:=(h.below hb).mono hb.size
theorem u8_bounds {n:Int} (h:(Lit.int .u8 n).wf=true):0<=n/\n<=255:=by
 simp [Lit.wf,IntKind.min,IntKind.max,IntKind.signed,IntKind.bits] at h;omega
end
theorem open_bytes_arg {H:Type} {enc:TypeId × Value->H} {P:Program} {W:World} {base:Nat} {t e:TypeId} {v:Value} {d:DataW H} {p:List MemPlace} (ht:P.underlying t=some (.slice e)) (he:P.underlying e=some (.int .u8)) (hc:P.cellsOf e=1)
  (hv:Value.okWide P W .any base t v) (h:DataW.Trod enc P W 0 (fun _=>true) true t v d p) (hlt:∀ x ∈ p,x.block<W.heap.size) :
  ∃ (A:Option Addr) (n c:Nat) (zs:List Int),v = .slice A n c/\BytesAt W W.heap.size A n zs/\n<=maxLen/\n<=c:=by
 obtain ⟨A,n,c,rfl⟩:=okWide_slice ht hv;obtain ⟨fuel,hf⟩:=h;rcases open_ints ht he hc hf with ⟨h0,_⟩ | ⟨a,len,cap,ys,h1,_,hl,hm,hy,hx,hcell,hwf⟩
 ·simp [Value.cells] at h0
  obtain ⟨rfl,rfl,rfl⟩:=h0;exact ⟨_,_,_,[],rfl,⟨⟨rfl,fun k=>by simp [nth]⟩,fun h=>absurd h (by omega)⟩,by simp [maxLen],Nat.le_refl _⟩
 ·simp [Value.cells] at h1
  obtain ⟨rfl,rfl,rfl⟩:=h1;simp only [if_true] at hy;have hw:∀ k,0<=nth (ys.take n) k/\nth (ys.take n) k<=255:=by
   intro k;by_cases hk:k<(ys.take n).length
   ·rw [nth_get _ _ hk]
    exact u8_bounds (hwf _ (List.mem_of_mem_take (List.getElem_mem hk)))
   ·simp [nth,List.getD,List.getElem?_eq_none (Nat.le_of_not_lt hk)]
  refine ⟨_,_,_,ys.take n,rfl,⟨⟨by simp; omega,hw⟩,fun hn => ?_⟩,by omega,hl⟩
  obtain ⟨b,off,rfl,hc'⟩:=ints_at hcell (by omega);refine ⟨b,off,rfl,?_,fun k hk => ?_⟩
  ·have hpx:p=MemPlace.row ⟨b,off,none⟩ ys.length:=by simpa using congrArg Prod.snd hx
   have:MemPlace.cell b off ∈ p:=by
    rw [hpx];simp [MemPlace.row];omega
   exact hlt _ this
  ·rw [hc' k (by omega)]
   have:nth (ys.take n) k=ys.getD k 0:=by
    simp [nth,List.getD,hk]
   rw [this]
end X
section
open Go.RowKit
theorem Only.drewN {g:Nat} {w w':World} (h:Only g w w') (k:Nat):Only g w (w'.drewN k):=⟨h.os,h.tape,h.output,h.size,h.block⟩
end
namespace X
open Go.RowKit
theorem and_low (a:Int) (m:Nat) (hm:m<9223372036854775808):0<=bits .and .i64 a (m:Int)/\bits .and .i64 a (m:Int)<=(m:Int):=by
 show 0<=IntKind.i64.wrap ((BitVec.ofInt 64 a &&& BitVec.ofInt 64 (m:Int)).toNat:Int)/\IntKind.i64.wrap ((BitVec.ofInt 64 a &&& BitVec.ofInt 64 (m:Int)).toNat:Int)<=(m:Int)
 have e:(BitVec.ofInt 64 (m:Int)).toNat=m:=by
  rw [BitVec.ofInt_natCast,BitVec.toNat_ofNat]; exact Nat.mod_eq_of_lt (by omega)
 rw [BitVec.toNat_and,e];have h:=Nat.and_le_right (n:=(BitVec.ofInt 64 a).toNat) (m:=m);rw [iW (by omega)];omega
def Cur (w:World) (g:Nat) (A:Option Addr) (n c i:Nat) (h:Int):Prop:=RowF w g 96 3 (fun j=>match j with | 0 => .slice A n c | 1 => .int .i64 (i:Int) | _ => .int .i64 h)
theorem Cur.after {w w':World} {g:Nat} {A:Option Addr} {n c i:Nat} {h:Int} (hc:Cur w g A n c i h) (hb:Below w.heap.size w w'):Cur w' g A n c i h:=RowF.after hc hb
def CurAt (w:World) (g:Nat) (A:Option Addr) (n c:Nat):Prop:=∃ (i:Nat) (h:Int),i<=n/\Cur w g A n c i h
theorem CurAt.after {w w':World} {g:Nat} {A:Option Addr} {n c:Nat} (hc:CurAt w g A n c) (hb:Below w.heap.size w w'):CurAt w' g A n c:=by
 obtain ⟨i,h,hi,hc⟩:=hc;exact ⟨i,h,hi,hc.after hb⟩
theorem l01New_any (A:Option Addr) (n c:Nat) (zs:List Int) (w:World) (h:BytesAt w w.heap.size A n zs) (hn:n<=1048576) :
  Calls Tryzx.prog 36 #[.slice A n c] w fun e w'=>∃ g,e = .returned (.pointer (some ⟨g,0,none⟩))/\w.heap.size<=g/\CurAt w' g A n c/\Below w.heap.size w w':=by
 have H:=q_ h;clear h;go_enter Tryzx.func36,Tryz.ntmps36;go_wp2;go_loop [3,4] (fun m i=>∃ (k:Nat) (x:Int),k<=n/\i = .int .i64 k/\m = .int .i64 x) (fun _ i=>n - (intOf i).toNat)
 case atStart=>exact ⟨0,_,Nat.zero_le _,rfl,rfl⟩
 case round =>
  obtain ⟨k,x,hk,rfl,rfl⟩:=hrel;by_cases hlt:k<n/\k<4000
  ·obtain ⟨b,off,rfl,hbB,hc⟩:=H.out.2 (by omega)
   have hx:=hc k hlt.1;have ki:(k:Int)<(n:Int):=by omega
   have k0:(0:Int)<=(k:Int):=by omega
   have k4:(k:Int)<4000:=by omega
   clear hc;go_wp2;go_round
   case rel=>exact ⟨k+1,_,by omega,by go_num,rfl⟩
   case measure=>simp [intOf]; omega
  ·have HB:=q_ ((Below.refl w.heap.size w).alloc (Nat.le_refl _) (.cells #[.slice A n c,.int .i64 0,.int .i64 x] 96))
   have HC:Hid (Cur (w.alloc (.cells #[.slice A n c,.int .i64 0,.int .i64 x] 96)) w.heap.size A n c 0 x):=RowF.of_row (World.rowIs_alloc w #[.slice A n c,.int .i64 0,.int .i64 x] 96 _ (fun j hj=>by simp at hj; match j,hj with | 0,_=>rfl | 1,_=>rfl | 2,_=>rfl))
   by_cases h1:k<n
   ·have k1:(k:Int)<(n:Int):=by omega
    have k4:¬ (k:Int)<4000:=by omega
    go_wp2;go_ret;exact ⟨_,rfl,Nat.le_refl _,⟨0,x,Nat.zero_le _,HC.out⟩,HB.out⟩
   ·have k1:¬ (k:Int)<(n:Int):=by omega
    go_wp2;go_ret;exact ⟨_,rfl,Nat.le_refl _,⟨0,x,Nat.zero_le _,HC.out⟩,HB.out⟩
def DrawPost (w:World) (g:Nat) (A:Option Addr) (n c:Nat) (m:Int) (e:Ending) (w':World):Prop:=∃ r:Int,e = .returned (.int .i64 r)/\0<=r/\r<m/\CurAt w' g A n c/\Only g w w'
theorem l01Byte_any (g:Nat) (A:Option Addr) (n c:Nat) (zs:List Int) (w:World) (h:BytesAt w g A n zs) (hn:n<=1048576) (hc:CurAt w g A n c) :
  Calls Tryzx.prog 84 #[.pointer (some ⟨g,0,none⟩)] w (DrawPost w g A n c 256):=by
 obtain ⟨i,x,hi,hc⟩:=hc;have HC:=q_ hc;have c0:w.cell? ⟨g,0,none⟩=some (.slice A n c):=hc.cell (i:=0) (by omega);have c1:w.cell? ⟨g,1,none⟩=some (.int .i64 (i:Int)):=hc.cell (i:=1) (by omega);have c2:w.cell? ⟨g,2,none⟩=some (.int .i64 x):=hc.cell (i:=2) (by omega);have f1:=hc.frozen 1;have f2:=hc.frozen 2;go_enter Tryzx.func84,Tryz.ntmps84;go_wp2_with fail
 generalize wrap64 (wrap64 (x*6364136223846793005)+1442695040888963407)=y;have HC1:Hid (Cur (w.setCell ⟨g,2,none⟩ (.int .i64 y)) g A n c i y):=(RowF.set HC.out 2 (.int .i64 y)).congr (fun j hj=>by match j,hj with | 0,_=>rfl | 1,_=>rfl | 2,_=>rfl);have HO1:=q_ (Only.setCell (Only.refl g w) 2 (.int .i64 y));have hb1:∀ k,k<n->∃ b off,A=some ⟨b,off,none⟩/\(w.setCell ⟨g,2,none⟩ (.int .i64 y)).cell? ⟨b,off+k,none⟩=some (.int .u8 (nth zs k)):=fun k hk=>by
  obtain ⟨b,off,e,hb,hcc⟩:=h.2 (by omega);exact ⟨b,off,e,(HO1.out.cell (p:=⟨b,off+k,none⟩) (by simp; omega)).trans (hcc k hk)⟩
 have HB1:=q_ hb1;generalize w.setCell ⟨g,2,none⟩ (.int .i64 y)=w1 at *
 have hz:=h.1;clear c0 c1 c2 f1 f2 hb1 hc HC h;have c0:w1.cell? ⟨g,0,none⟩=some (.slice A n c):=RowF.cell HC1.out (i:=0) (by omega);have c1:w1.cell? ⟨g,1,none⟩=some (.int .i64 (i:Int)):=RowF.cell HC1.out (i:=1) (by omega);have c2:w1.cell? ⟨g,2,none⟩=some (.int .i64 y):=RowF.cell HC1.out (i:=2) (by omega);have f1:=RowF.frozen HC1.out 1;go_quiet (fail)
 have hr:=and_low (bits BinOp.xor IntKind.i64 (y / 8589934592) (y / 35184372088832)) 255 (by omega);have e255:((255:Nat):Int)=255:=rfl;rw [e255] at hr;generalize bits BinOp.and IntKind.i64 (bits BinOp.xor IntKind.i64 (y / 8589934592) (y / 35184372088832)) 255=r at *
 clear e255;go_wp2_with fail
 by_cases hlt:i<n
 ·obtain ⟨b,off,rfl,hx⟩:=HB1.out i hlt
  have hzz:=hz.2 i;have ki:(i:Int)<(n:Int):=by omega
  have k0:(0:Int)<=(i:Int):=by omega
  go_quiet (fail)
  go_wp2_with fail
  go_quiet (fail)
  have hr2:=and_low (r+nth zs i) 255 (by omega);have e255:((255:Nat):Int)=255:=rfl;rw [e255] at hr2;generalize bits BinOp.and IntKind.i64 (r+nth zs i) 255=r2 at *
  clear e255;have HC2:Hid (∀ k,Cur ((w1.drewN k).setCell ⟨g,1,none⟩ (.int .i64 ((i:Int)+1))) g (some ⟨b,off,none⟩) n c (i+1) y):=fun k=>(RowF.set (RowF.drewN HC1.out k) 1 (.int .i64 ((i:Int)+1))).congr (fun j hj=>by match j,hj with | 0,_=>rfl | 1,_=>rfl | 2,_=>rfl)
  go_wp2;go_ret;exact ⟨r2,rfl,hr2.1,by omega,⟨i+1,y,by omega,HC2.out _⟩,(HO1.out.drewN _).setCell 1 _⟩
 ·have ki:¬ (i:Int)<(n:Int):=by omega
  go_quiet (fail)
  go_wp2;go_ret;exact ⟨r,rfl,hr.1,by omega,⟨i,y,hi,HC1.out⟩,HO1.out.drewN _⟩
theorem l01Below_any (g:Nat) (A:Option Addr) (n c:Nat) (zs:List Int) (m:Int) (w:World) (h:BytesAt w g A n zs) (hn:n<=1048576) (hc:CurAt w g A n c) (h0:0<m) (h1:m<=256) :
  Calls Tryzx.prog 58 #[.pointer (some ⟨g,0,none⟩),.int .i64 m] w (DrawPost w g A n c m):=by
 go_enter Tryzx.func58,Tryz.ntmps58;go_wp2_with fail
 refine (l01Byte_any g A n c zs _ h hn hc).mono ?_;rintro e w1 ⟨r,rfl,hr0,hr1,hc1,ho1⟩;have HR:=q_ (show CurAt w1 g A n c/\Only g w w1 from ⟨hc1,ho1⟩);have hm0:¬ m=0:=by omega
 have hmb:(m == 0)=false:=by simpa using hm0
 have hq1:0<=r % m:=Int.emod_nonneg _ hm0;have hq2:r % m<m:=Int.emod_lt_of_pos _ h0;clear hc1 ho1 hc h;go_wp2;go_ret;exact ⟨r % m,rfl,hq1,hq2,HR.out.1,HR.out.2⟩
theorem BytesAt.only {w w':World} {g B n:Nat} {A:Option Addr} {zs:List Int} (h:BytesAt w B A n zs) (ho:Only g w w') (hB:B<=g):BytesAt w' B A n zs :=
 ⟨h.1,fun hn=>by
  obtain ⟨b,off,e,hb,hc⟩:=h.2 hn;exact ⟨b,off,e,hb,fun k hk'=>(ho.cell (p:=⟨b,off+k,none⟩) (by simp; omega)).trans (hc k hk')⟩⟩
end X
namespace X
open Go.RowKit
def smZ (Z:List Int) (B:Int):Prop:=∀ i,-B<=nth Z i/\nth Z i<=B
theorem smZ_of {Z:List Int} {B:Int} (hB:0<=B) (h:∀ x ∈ Z,-B<=x/\x<=B):smZ Z B:=fun i=>by
 by_cases hi:i<Z.length
 ·rw [nth_get _ _ hi]
  exact h _ (List.getElem_mem hi)
 ·have e:nth Z i=0:=by simp [nth,List.getD,Nat.not_lt.1 hi]
  rw [e]; omega
theorem smZ_mono {Z:List Int} {B B':Int} (h:smZ Z B) (hB:B<=B'):smZ Z B':=fun i=>by have:=h i; omega
theorem smZ_set {Z:List Int} {B x:Int} (h:smZ Z B) (hx : -B<=x/\x<=B) (p:Nat):smZ (Z.set p x) B:=fun i=>by
 by_cases hi:i<Z.length
 ·rw [nth_get _ i (by rw [List.length_set]; exact hi),List.getElem_set]
  split
  ·exact hx
  ·rw [<- nth_get _ _ hi]; exact h i
 ·have h0:=h i
  have e:nth (Z.set p x) i=nth Z i:=by simp [nth,List.getD,Nat.not_lt.1 hi]
  rw [e]; exact h0
theorem smZ_put {Z:List Int} {B x y dx dy:Int} {p q i j:Nat} (h:smZ Z B) (hB:B<=100) (hx:x=wrap64 (nth Z i+(dx - 1))) (hy:y=wrap64 (nth Z j+(dy - 1))) (h0:0<=dx/\dx<3) (h1:0<=dy/\dy<3):smZ ((Z.set p x).set q y) (B+1):=by
 have a:=h i;have b:=h j;rw [IntWalk.wrap64_in _ (by omega)] at hx hy;exact smZ_set (smZ_set (smZ_mono h (by omega)) (by omega) p) (by omega) q
theorem nth_app_lt {L:List Int} {a:List Int} {i:Nat} (h:i<L.length):nth (L ++ a) i=nth L i:=by simp [nth,List.getD,List.getElem?_append_left h]
theorem nth_app_ge {L:List Int} {a:List Int} {i:Nat}:nth (L ++ a) (L.length+i)=nth a i:=by simp [nth,List.getD,List.getElem?_append_right]
theorem loads_push {L:List Int} {k m:Nat} {a b c:Int} (hl:L.length=k*3) (h:allTo (loadAt L m) k) (ha:0<=a/\a<=(m:Int) - 2) (hb:0<=b/\b<=10000) (hc : -60<=c/\c<=60):allTo (loadAt (L ++ [a,b,c]) m) (k+1):=fun i hi=>by
 by_cases e:i<k
 ·have h0:=h i e
  simp only [loadAt] at h0 ⊢;rw [nth_app_lt (by omega),nth_app_lt (by omega),nth_app_lt (by omega)];exact h0
 ·obtain rfl:i=k:=by omega
  have e0:nth (L ++ [a,b,c]) (i*3)=a:=by have:=nth_app_ge (L:=L) (a := [a,b,c]) (i:=0); rw [hl] at this; exact this
  have e1:nth (L ++ [a,b,c]) (i*3+1)=b:=by have:=nth_app_ge (L:=L) (a := [a,b,c]) (i:=1); rw [hl] at this; exact this
  have e2:nth (L ++ [a,b,c]) (i*3+2)=c:=by have:=nth_app_ge (L:=L) (a := [a,b,c]) (i:=2); rw [hl] at this; exact this
  exact loadAt_t (by rw [e0]; exact inB_t ha) (by rw [e1]; exact inB_t hb) (by rw [e2]; exact inB_t hc)
theorem pick_wt {i:Nat}:0<=nth [0,6,20,60,200] i/\nth [0,6,20,60,200] i<=10000:=by
 match i with
 | 0=>decide
 | 1=>decide
 | 2=>decide
 | 3=>decide
 | 4=>decide
 | k+5=>simp [nth]
end X
namespace X
open Go.RowKit
theorem box_setS {w:World} {g:Nat} {t:TypeId} {f:Nat->Value} (v:Value) (h:RowF w g t 1 f):Box (w.setCell ⟨g,0,none⟩ v) g v :=
 ⟨by have:=(h.set 0 v).cell (i:=0) (by omega); simpa using this,by simpa using h.lt⟩
theorem rowF_new1S (w:World) (u:Value) (t:TypeId):RowF (w.alloc (.cells #[u] t)) w.heap.size t 1 (fun _=>u):=RowF.of_row (World.rowIs_alloc w #[u] t (fun _=>u) (fun i hi=>by simp at hi; subst hi; rfl))
end X
end Go.Proofs.YtjcgklifabcfkaaGreat
