/-
  Texts that the law stands on, part 7.
-/
import Derived.Test.YtjcgklifabcfkaaGreatV1
import Derived.Test.YtjcgklifabcfkaaGreatV6
import Derived.Conc.CrowdRun
import Derived.Test.YtjcgklifabcfkaaGreatProg
import Derived.Conc.WgGenN3
import Derived.KernelRfl
import Derived.Conc.WgWords
set_option maxRecDepth 100000
set_option linter.unusedVariables false
set_option linter.unusedSimpArgs false
namespace Go.Proofs.YtjcgklifabcfkaaGreat
namespace Rn
open Go.Conc
open Go.ConcN (ShN PermW RelBy WgLive PayAt Has CTag WD upd upd_same upd_ne sumTo sumTo_upd sumTo_upd_out cnt Vc Ssum phi pend isOpen)
open Go.ConcR (KK WgAt stA smA rd wr mk Payload DC0 g_of_ofEvents Bk ofEvent_mk)
variable [Payload]
omit [Payload] in
theorem TI.congrX {H : Ph} {ow X X' : Nat → Nat} {j : Nat} {t : Trace} (h : TI H ow X j t) (e : ∀ k, k < j → X' k = X k) : TI H ow X' j t :=
  { h with
    rd := fun k hk l hl => h.rd k hk l (by unfold RdL at hl ⊢; rw [← e k hk]; exact hl)
    free := fun l hm hs hd hl => h.free l hm hs hd fun k hk => ⟨(hl k hk).1, fun x => (hl k hk).2 (by unfold RdL at x ⊢; rw [e k hk]; exact x)⟩ }
omit [Payload] in
theorem mlt_less {H:Ph} {μ:Mu} {x y:Nat} {F F':(Nat→Tree) × Nat} (h:MLt H μ (x,F')) (hxy:x<y):MLt H μ (y,F):=by
 obtain ⟨m1,m2⟩:=μ
 rcases Prod.lex_def.1 h with h | ⟨h,_⟩ <;> simp only at h <;> exact Prod.Lex.left _ _ (by omega)
section
variable {H : Ph} {AnchW Out : Bl → Goroutine → World → Prop} {W0 : World}
 {j : Nat} {gs : Array Goroutine} {w w' : World} {sl : Option (Nat × Nat)} {t : Trace} {D : Nat → WD} {F : Nat → Tree} {tag tag' : CTag} {d0 : Nat} {ow X : Nat → Nat} {O : Nat → Bl} {O0 : Bl} {a a' : Goroutine} {st sm st' sm' : Int} {es : Array Event} {T' : Tree}
theorem idleS (G:Geo H) (fo:FinOk H) (h:PInv H AnchW Out W0 j gs w t D F tag d0 ow X O O0 a st sm) (hgo:stepG H.P true a w = .go a' w' es) (hD:DidS H O0 w w' es)
  (hcs':CS H AnchW Out tag j T' d0 (Plus O0 w w') a' w') (hT:TLt T' (F 0)) :
  ∃ m₁ ops μ',runT H.P (crowd gs w sl) 0=(.next m₁,ops)∧MLt H μ' (phi H.n (Vc j D) tag+Ssum j D,F,fl tag)∧Inv H AnchW Out W0 μ' m₁ (t ++ ops):=by
 have hoC:¬ O0 H.C:=fun x=>by have:=(h.o0 _ x).1; have:=G.c; omega
 have hoW:¬ O0 H.Wg:=fun x=>by have:=(h.o0 _ x).1; have:=G.wg; omega
 have wgl:H.Wg<w.heap.size:=Nat.lt_of_lt_of_le G.wg h.b0;have cl:H.C<w.heap.size:=Nat.lt_of_lt_of_le G.c h.b0;have hsz:=hD.size;have hb0:=h.b0;have s1:=G.s1;have hwg':WgAt H.ty H.Wg w' st sm:=(hD.block _ wgl hoW).trans h.wg;have hCb:=hD.block _ cl hoC;have hdf:deafBehind d0 es=d0:=deafBehind_still (fun e he=>⟨(hD.ev e he).2.1,(hD.ev e he).2.2.1⟩) d0;have hpl:∀ b,Plus O0 w w' b→H.B0≤b∧b<w'.heap.size∧ow b=0∧∀ i,i<j→b ≠ X i:=by
  rintro b (hb | ⟨h1,h2⟩)
  ·obtain ⟨h1,h2,h3,h4⟩:=h.o0 b hb
   exact ⟨h1,by omega,h3,h4⟩
  ·exact ⟨by omega,h2,h.fresh b h1,fun i hi e=>by have:=h.xlt i hi; omega⟩
 refine starterMove G fo h hgo ⟨hD.tape,hD.os,hD.output,hsz,fun b hb h1 _ _=>hD.block b hb h1,⟨_,_,hwg'⟩,?_,fun k _=>by simp only [World.cell?,hCb]⟩ (by rw [hdf]; exact hcs') (fun op hop => ?_) (fun e he=>⟨fun x hx b hb => ?_,(hD.ev e he).2.2.2⟩) hwg' h.mode
  (fun e=>(h.acq e).app fun i r _ hr=>relApp hr (by omega)) (.inr ⟨rfl,.inl hT⟩)
 ·obtain ⟨cs,h1,h2⟩:=h.pay
  exact ⟨cs,hCb.trans h1,h2⟩
 ·obtain ⟨e,he,rfl⟩:=Go.Conc.mem_ofEvents hop
  refine ⟨rfl,fun x hx _ => ?_⟩;rcases (hD.ev e he).1 x hx with h1 | ⟨b,hb,hp | ⟨h1,h2,h3,h4,h5⟩⟩
  ·exact .inl h1
  ·obtain ⟨k1,k2,k3,k4⟩:=hpl b hp
   refine .inr ⟨fun hs => ?_,?_,fun k hk ho => ?_,fun _ k hk hr => ?_⟩
   ·rw [lb_sh hs] at hb; cases hb; have:=G.wg; omega
   ·rintro ⟨b',e',hs⟩; rw [hb] at e'; cases e'; have:=G.sB _ hs; omega
   ·rcases ho with ⟨b',e',h6,h7⟩ | e'
    ·rw [hb] at e'; cases e'; omega
    ·rw [e'] at hb; simp only [lb,Option.some.injEq] at hb; have:=G.c; omega
   ·obtain ⟨b',e',h6⟩:=hr
    rw [hb] at e'; cases e';rcases h6 with ⟨h6,_⟩ | h6
    ·omega
    ·exact k4 k hk h6
  ·refine .inr ⟨fun hs => ?_,?_,fun k hk ho => ?_,fun hw => ?_⟩
   ·rw [lb_sh hs] at hb; cases hb; exact h2 rfl
   ·rintro ⟨b',e',hs⟩; rw [hb] at e'; cases e'; exact h4 hs
   ·rcases ho with ⟨b',e',h6,h7⟩ | e'
    ·rw [hb] at e'; cases e'; omega
    ·rw [e'] at hb; simp only [lb,Option.some.injEq] at hb; exact h3 hb.symm
   ·rw [h5] at hw; cases hw
 ·rcases (hD.ev e he).1 x hx with ⟨h1,_⟩ | ⟨b',hb',hp | ⟨h1,_⟩⟩
  ·rw [lb_sh h1] at hb; cases hb; omega
  ·rw [hb] at hb'; cases hb'; exact (hpl b hp).2.1
  ·rw [hb] at hb'; cases hb'; omega
theorem bookS (G:Geo H) (fo:FinOk H) (h:PInv H AnchW Out W0 j gs w t D F tag d0 ow X O O0 a st sm) (hgo:stepG H.P true a w = .go a' w' es) (hAs:Aside H.Wg w w') (hwg':WgAt H.ty H.Wg w' st' sm') (hbk:∀ e ∈ es,Bk H.Wg e)
  (hcs':CS H AnchW Out tag' j T' (deafBehind d0 es) O0 a' w') (hmode':Go.ConcN.Mode j D tag' st' sm') (hne:tag' ≠ .ret)
  (hlt:phi H.n (Vc j D) tag'<phi H.n (Vc j D) tag ∨ (phi H.n (Vc j D) tag'=phi H.n (Vc j D) tag∧(TLt T' (F 0) ∨ (T'=F 0∧fl tag'<fl tag)))) :
  ∃ m₁ ops μ',runT H.P (crowd gs w sl) 0=(.next m₁,ops)∧MLt H μ' (phi H.n (Vc j D) tag+Ssum j D,F,fl tag)∧Inv H AnchW Out W0 μ' m₁ (t ++ ops):=by
 have wgl:H.Wg<w.heap.size:=Nat.lt_of_lt_of_le G.wg h.b0;have hsz:=hAs.size;exact starterMove G fo h hgo (.aside hAs ⟨_,_,hwg'⟩ h.pay G.ne) (by rw [Plus.same hsz]; exact hcs') (ok0_bk hbk) (evB_bk (by omega) hbk) hwg' hmode' (fun e=>absurd e hne) hlt
theorem w1S (G:Geo H) (fo:FinOk H) (hn:H.n<2147483648) (h:PInv H AnchW Out W0 H.n gs w t D F .w1 1 ow X O O0 a st sm) (hS:SW1 H AnchW Out O0 a w) :
  ∃ m₁ ops μ',runT H.P (crowd gs w sl) 0=(.next m₁,ops)∧MLt H μ' (phi H.n (Vc H.n D) .w1+Ssum H.n D,F,fl .w1)∧Inv H AnchW Out W0 μ' m₁ (t ++ ops):=by
 obtain ⟨_,hall⟩:=hS;obtain ⟨ho,rfl,rfl,_⟩:=h.mode.open_inv trivial;have hV:=Go.ConcN.Vc_le H.n D;obtain ⟨a',hgo,h0,hne⟩:=hall (Vc H.n D) (by omega) (by simpa [pend] using h.wg);have hbk:∀ e ∈ #[rd (stA H.Wg)],Bk H.Wg e:=by intro e he; simp at he; subst he; exact bk_cell (H:=H) _ _ rfl
 by_cases hv:Vc H.n D=0
 ·obtain ⟨T,hk⟩:=(h0 hv).tree
  refine bookS G fo h hgo (.refl H.Wg w) h.wg hbk (tag' := .ke) (.ke hk) ?_ (by simp) (.inl (by simp only [phi]; omega))
  have e:((Vc H.n D+pend .w1:Nat):Int)*KK=0:=by rw [hv]; simp [pend]
  rw [e];exact .fin trivial (Go.ConcN.allQuit_of ho hv)
 ·obtain ⟨T,hk⟩:=(hne hv).tree
  exact bookS G fo h hgo (.refl H.Wg w) h.wg hbk (tag' := .w2 (Vc H.n D)) (.w2 hk) (h.mode.reopen trivial trivial rfl (fun vs e=>by cases e; omega)) (by simp) (.inl (by simp only [phi]; omega))
theorem spawnS (G : Geo H) (fo : FinOk H) {r : Nat} (hr : r < H.n) (h : PInv H AnchW Out W0 (H.n - (r + 1)) gs w t D F (.sp r 2) 0 ow X O O0 a st sm) (hS : SGo H (H.n - (r + 1)) (Spawns H AnchW r) O0 a w) :
    ∃ m₁ ops μ', runT H.P (crowd gs w sl) 0 = (.next m₁, ops) ∧ MLt H μ' (phi H.n (Vc (H.n - (r + 1)) D) (.sp r 2) + Ssum (H.n - (r + 1)) D, F, fl (.sp r 2)) ∧ Inv H AnchW Out W0 μ' m₁ (t ++ ops) := by
  obtain ⟨_, a', child, x, hsp, hx, hwk0, hnext⟩ := hS;obtain ⟨Tc, hwk⟩ := (hwk0 h.pay ⟨_, _, h.wg⟩).tree;obtain ⟨ho, e1, e2, _⟩ := h.mode.open_inv trivial;have s1 := G.s1;obtain ⟨x1, x2, x3, x4⟩ := h.o0 x hx;generalize hj : H.n - (r + 1) = j at *
  have hjn : j + 1 = H.n - r := by omega
  have hrun := runT_crowd_spawn (P := H.P) (sl := sl) (i := 0) h.a0 (by simpa using hsp);rw [h.size] at hrun;have eops : ((MemOp.ofEvents 0 a.frame.fn a.frame.place #[]).push { g := 0, fn := a.frame.fn, pos := a.frame.place, act := .go (H.s + j) } |>.push { g := H.s + j, fn := child.frame.fn, pos := a.frame.place, act := .start }) =
      #[{ g := 0, fn := a.frame.fn, pos := a.frame.place, act := .go (H.s + j) }, { g := H.s + j, fn := child.frame.fn, pos := a.frame.place, act := .start }] := by simp [ofEvents_eq]
  rw [eops] at hrun;generalize hy : ({ g := 0, fn := a.frame.fn, pos := a.frame.place, act := .go (H.s + j) } : MemOp) = y at *
  generalize hz : ({ g := H.s + j, fn := child.frame.fn, pos := a.frame.place, act := .start } : MemOp) = z at *
  have hy' : y.g = 0 ∧ y.act = .go (H.s + j) := by subst hy; exact ⟨rfl, rfl⟩
  have hz' : z.g = H.s + j ∧ z.act = .start := by subst hz; exact ⟨rfl, rfl⟩
  have hm : ∀ op ∈ #[y, z], op = y ∨ op = z := by intro op hop; simpa using hop
  have hst : ∀ op ∈ #[y, z], op.act ≠ .mark .disable ∧ op.act ≠ .mark .enable := by
    intro op hop;rcases hm op hop with rfl | rfl
    · rw [hy'.2]; exact ⟨by simp, by simp⟩
    · rw [hz'.2]; exact ⟨by simp, by simp⟩
  have hdf : ∀ k, Deaf (t ++ #[y, z]) k = Deaf t k := fun k => Go.ConcN.Deaf_still t k _ hst
  have xok : XOk H ow (upd X j x) (j + 1) := by
    constructor <;> intro i hi <;> by_cases e : i = j
    · subst e; rw [upd_same]; exact x1
    · rw [upd_ne _ _ e]; exact h.xok.ge i (by omega)
    · subst e; rw [upd_same]; exact x3
    · rw [upd_ne _ _ e]; exact h.xok.own0 i (by omega)
  have eV : Vc (j + 1) (upd D j ⟨7, 0, 0⟩) = Vc j D + 1 := by
    simp only [Vc, sumTo, upd_same];rw [sumTo_upd_out D _ cnt (Nat.le_refl _)]; rfl
  have eS : Ssum (j + 1) (upd D j ⟨7, 0, 0⟩) = Ssum j D + 7 := by
    simp only [Ssum, sumTo, upd_same];rw [sumTo_upd_out D _ WD.stage (Nat.le_refl _)]
  have ho' : Go.ConcN.OpenSt (j + 1) (upd D j ⟨7, 0, 0⟩) := fun i hi => by
    by_cases e : i = j
    · subst e; rw [upd_same]; simp
    · rw [upd_ne D _ e]; exact ho i (by omega)
  have est : ∀ tag', pend tag' = 0 → st = ((Vc (j + 1) (upd D j ⟨7, 0, 0⟩) + pend tag' : Nat) : Int) * KK := fun tag' hp => by rw [e1, eV, hp]; simp [pend]
  have fin : ∀ (tag' : CTag) (T0 : Tree), isOpen tag' → pend tag' = 0 → (∀ vs, tag' ≠ .w2 vs) → tag' ≠ .ret → CS H AnchW Out tag' (j + 1) T0 0 (fun b => O0 b ∧ b ≠ x) a' w → phi H.n (Vc (j + 1) (upd D j ⟨7, 0, 0⟩)) tag' + 7 < phi H.n (Vc j D) (.sp r 2) →
      ∃ m₁ ops μ', runT H.P (crowd gs w sl) 0 = (.next m₁, ops) ∧ MLt H μ' (phi H.n (Vc j D) (.sp r 2) + Ssum j D, F, fl (.sp r 2)) ∧ Inv H AnchW Out W0 μ' m₁ (t ++ ops) := by
    intro tag' T0 ho1 hp1 hw1 hr1 hcs' hphi;refine ⟨_, _, (phi H.n (Vc (j + 1) (upd D j ⟨7, 0, 0⟩)) tag' + Ssum (j + 1) (upd D j ⟨7, 0, 0⟩), upd (upd F (H.s + j) Tc) 0 T0, fl tag'), hrun, Prod.Lex.left _ _ (by omega), _, w, sl, j + 1, upd D j ⟨7, 0, 0⟩, upd (upd F (H.s + j) Tc) 0 T0, tag', 0, ow, upd X j x, upd O j (fun _ => False), (fun b => O0 b ∧ b ≠ x), a', st, sm, rfl,
      { size := by simp [h.size]; omega
        a0 := ?_
        cs := by rw [upd_same]; exact hcs'
        old := fun k hk hks g hg => ?_
        wk := fun i hi => ?_
        ti := (h.ti.congrX fun k hk => by rw [upd_ne _ _ (by omega)]).fork G xok hy' hz' h.deaf0 (h.above _ (by omega))
        xok := xok
        xlt := fun i hi => ?_
        olt := fun i hi b hb => ?_
        o0 := fun b hb => ?_
        seen := h.seen.app (Nat.le_refl _) fun op hop a ha => ?_
        norel := h.norel.app fun op hop a ha => ?_
        deaf0 := by rw [hdf, h.deaf0]
        deafW := fun i hi => ?_
        above := fun k hk => by rw [hdf]; exact h.above k (by omega)
        rel := fun i hi hs => ?_
        has := fun i hi hs => ?_
        pay := h.pay
        wg := h.wg
        mode := ?_
        acq := fun e => absurd e hr1
        b0 := h.b0
        fresh := h.fresh
        base := h.base }, rfl⟩
    · have hl : 0 < (gs.setIfInBounds 0 a').size := by simp [h.size]; omega
      rw [Array.getElem?_push_lt hl, ← Array.getElem?_eq_getElem, Array.getElem?_setIfInBounds_self_of_lt (by simpa using hl)]
    · have hl : k < (gs.setIfInBounds 0 a').size := by simp [h.size]; omega
      rw [Array.getElem?_push_lt hl, ← Array.getElem?_eq_getElem, Array.getElem?_setIfInBounds_ne (by omega)] at hg;obtain ⟨q, hq1, hq2⟩ := h.old k hk hks g hg;exact ⟨q, by rw [upd_ne _ _ (by omega), upd_ne _ _ (by omega)]; exact hq1, by rw [hdf]; exact hq2⟩
    · by_cases e : i = j
      · subst e
        refine ⟨child, ?_, ?_⟩
        · rw [show H.s + i = (gs.setIfInBounds 0 a').size by simp [h.size], Array.getElem?_push_size]
        · rw [upd_same, upd_same, upd_same, upd_ne _ _ (by omega), upd_same]
          exact .way hwk
      · obtain ⟨g, hg, hsg⟩ := h.wk i (by omega)
        refine ⟨g, ?_, ?_⟩
        · have hl : H.s + i < (gs.setIfInBounds 0 a').size := by simp [h.size]; omega
          rw [Array.getElem?_push_lt hl, ← Array.getElem?_eq_getElem, Array.getElem?_setIfInBounds_ne (by omega)];exact hg
        · rw [upd_ne _ _ e, upd_ne _ _ e, upd_ne _ _ e, upd_ne _ _ (by omega), upd_ne _ _ (by omega)]
          exact hsg
    · by_cases e : i = j
      · subst e; rw [upd_same]; exact x2
      · rw [upd_ne _ _ e]; exact h.xlt i (by omega)
    · by_cases e : i = j
      · subst e; rw [upd_same] at hb; exact hb.elim
      · rw [upd_ne _ _ e] at hb; exact h.olt i (by omega) b hb
    · obtain ⟨h1, h2, h3, h4⟩ := h.o0 b hb.1
      refine ⟨h1, h2, h3, fun i hi => ?_⟩;by_cases e : i = j
      · subst e; rw [upd_same]; exact hb.2
      · rw [upd_ne _ _ e]; exact h4 i (by omega)
    · rcases hm op hop with rfl | rfl
      · rw [hy'.2] at ha; cases ha
      · rw [hz'.2] at ha; cases ha
    · rcases hm op hop with rfl | rfl
      · rw [hy'.2] at ha; cases ha
      · rw [hz'.2] at ha; cases ha
    · rw [hdf]
      by_cases e : i = j
      · subst e; rw [upd_same]; exact h.above _ (by omega)
      · rw [upd_ne _ _ e]; exact h.deafW i (by omega)
    · by_cases e : i = j
      · subst e; rw [upd_same] at hs; simp at hs
      · rw [upd_ne _ _ e] at hs
        obtain ⟨r, hr⟩ := h.rel i (by omega) hs;refine ⟨r, hr.appNot fun op hop => ?_⟩;rcases hm op hop with rfl | rfl
        · rw [hy'.1]; omega
        · rw [hz'.1]; omega
    · by_cases e : i = j
      · subst e; rw [upd_same] at hs; simp at hs
      · rw [upd_ne _ _ e] at hs ⊢
        exact h.has i (by omega) hs
    · rw [est tag' hp1, e2]
      exact .opn ho1 ho' fun vs ev => absurd ev (hw1 vs)
  cases r with
  | zero =>
    obtain ⟨T0, hk⟩ := WayG.tree hnext;have hjn' : j + 1 = H.n := by omega
    refine fin .kd T0 trivial rfl (by simp) (by simp) (by rw [hjn']; exact .kd hk) (by simp only [phi]; omega)
  | succ r' =>
    obtain ⟨T0, hk⟩ := WayG.tree hnext;have hjn' : j + 1 = H.n - (r' + 1) := by omega
    refine fin (.sp r' 5) T0 trivial rfl (by simp) (by simp) (by rw [hjn']; exact .skd (by omega) hk) (by simp only [phi]; omega)
end
end Rn
namespace Rn
open Go.Conc
open Go.ConcN (ShN PermW RelBy WgLive PayAt Has CTag WD upd upd_same upd_ne sumTo sumTo_upd sumTo_upd_out cnt Vc Ssum phi pend isOpen)
open Go.ConcR (KK WgAt stA smA rd wr mk Payload DC0 g_of_ofEvents Bk ofEvent_mk)
variable [Payload]
section
variable {H : Ph} {AnchW Out : Bl → Goroutine → World → Prop} {W0 : World}
 {j : Nat} {gs : Array Goroutine} {w w' : World} {sl : Option (Nat × Nat)} {t : Trace} {D : Nat → WD} {F : Nat → Tree} {tag tag' : CTag} {d0 : Nat} {ow X : Nat → Nat} {O : Nat → Bl} {O0 : Bl} {a a' : Goroutine} {st sm st' sm' : Int} {es : Array Event} {T' : Tree}
set_option maxHeartbeats 1600000 in
theorem stepStarter (G : Geo H) (fo : FinOk H) (hn : H.n < 2147483648) (hAn : ∀ o g w, AnchW o g w → SW H (SW1 H AnchW Out) o g w)
    (h : PInv H AnchW Out W0 j gs w t D F tag d0 ow X O O0 a st sm) (hrun : a.status = .running) (hr : tag ≠ .ret) :
    ∃ m₁ ops μ', runT H.P (crowd gs w sl) 0 = (.next m₁, ops) ∧ MLt H μ' (phi H.n (Vc j D) tag + Ssum j D, F, fl tag) ∧ Inv H AnchW Out W0 μ' m₁ (t ++ ops) := by
  have hVj := Go.ConcN.Vc_le j D;have rf := RelyS.refl H;have hcs := h.cs;have hmode := h.mode;have hwg := h.wg;have bk1 : ∀ {x : Event}, Bk H.Wg x → ∀ e ∈ #[x], Bk H.Wg e := fun hx e he => by simp at he; subst he; exact hx
  have bk2 : ∀ e ∈ #[rd (stA H.Wg), wr (stA H.Wg)], Bk H.Wg e := by intro e he; simp at he; rcases he with rfl | rfl <;> exact bk_cell (H := H) _ _ rfl
  have bks : ∀ e ∈ semEvents (smA H.Wg), Bk H.Wg e := by
    intro e he;simp [semEvents] at he;rcases he with rfl | rfl | rfl | rfl
    · exact .inl rfl
    · exact bk_cell (H := H) _ _ rfl
    · exact bk_cell (H := H) _ _ rfl
    · exact .inr (.inl rfl)
  generalize hF : F 0 = T at hcs;cases hcs with
  | @skd r _ _ _ _ hr' hw =>
    rcases hw.inv rf with hstop | ⟨_, T', a', w', es, hT, hgo, hd, hw'⟩
    · obtain ⟨_, a', hgo, hk⟩ := hstop w (rf _ _)
      obtain ⟨T', hk⟩ := WayG.tree hk;exact bookS G fo h hgo (.refl H.Wg w) hwg (bk1 (.inl rfl)) (.sa1 hr' hk) (hmode.reopen trivial trivial rfl (by simp)) (by simp) (.inl (by simp only [phi]; omega))
    · exact idleS G fo h hgo hd (.skd hr' hw') (by rw [hF]; exact hT)
  | @sa1 r _ _ _ _ hr' hw =>
    rcases hw.inv rf with hstop | ⟨_, T', a', w', es, hT, hgo, hd, hw'⟩
    · obtain ⟨_, hall⟩ := hstop w (rf _ _)
      obtain ⟨ho, rfl, rfl, _⟩ := hmode.open_inv trivial;obtain ⟨a', hgo, hk⟩ := hall (Vc (H.n - (r + 1)) D) (by omega) (by simpa [pend] using hwg);obtain ⟨T', hk⟩ := WayG.tree hk;refine bookS G fo h hgo (aside_setCell w (stA H.Wg) _) (hwg.setSt _) bk2 (.ske hr' hk) ?_ (by simp) (.inl (by simp only [phi]; omega))
      have e : (((Vc (H.n - (r + 1)) D : Nat) : Int) + 1) * KK = ((Vc (H.n - (r + 1)) D + pend (.sp r 3) : Nat) : Int) * KK := by simp [pend]
      rw [e];exact .opn trivial ho (by simp)
    · exact idleS G fo h hgo hd (.sa1 hr' hw') (by rw [hF]; exact hT)
  | @ske r _ _ _ _ hr' hw =>
    rcases hw.inv rf with hstop | ⟨_, T', a', w', es, hT, hgo, hd, hw'⟩
    · obtain ⟨_, a', hgo, hk⟩ := hstop w (rf _ _)
      obtain ⟨T', hk⟩ := WayG.tree hk;exact bookS G fo h hgo (.refl H.Wg w) hwg (bk1 (.inr (.inl rfl))) (.sgo hr' hk) (hmode.reopen trivial trivial rfl (by simp)) (by simp) (.inl (by simp only [phi]; omega))
    · exact idleS G fo h hgo hd (.ske hr' hw') (by rw [hF]; exact hT)
  | @sgo r _ _ _ _ hr' hw =>
    rcases hw.inv rf with hstop | ⟨_, T', a', w', es, hT, hgo, hd, hw'⟩
    · exact spawnS G fo hr' h (hstop w (rf _ _))
    · exact idleS G fo h hgo hd (.sgo hr' hw') (by rw [hF]; exact hT)
  | kd hw =>
    rcases hw.inv rf with hstop | ⟨_, T', a', w', es, hT, hgo, hd, hw'⟩
    · obtain ⟨_, a', hgo, hk⟩ := hstop w (rf _ _)
      obtain ⟨T', hk⟩ := WayG.tree hk;exact bookS G fo h hgo (.refl H.Wg w) hwg (bk1 (.inl rfl)) (.anch hk) (hmode.reopen trivial trivial rfl (by simp)) (by simp) (.inl (by simp only [phi]; omega))
    · exact idleS G fo h hgo hd (.kd hw') (by rw [hF]; exact hT)
  | anch hw =>
    rcases hw.inv rf with hstop | ⟨_, T', a', w', es, hT, hgo, hd, hw'⟩
    · obtain ⟨T1, hk⟩ := WayG.tree (hAn _ _ _ (hstop w (rf _ _)))
      have hp1 : PInv H AnchW Out W0 H.n gs w t D (upd F 0 T1) .w1 1 ow X O O0 a st sm :=
        { h with
          cs := by rw [upd_same]; exact .w1 hk
          old := fun k hk hks g hg => by rw [upd_ne _ _ (by omega)]; exact h.old k hk hks g hg
          wk := fun i hi => by rw [upd_ne _ _ (by have := G.s1; omega)]; exact h.wk i hi
          mode := hmode.reopen trivial trivial rfl (by simp)
          acq := fun e => by cases e }
      have key : ∃ m₁ ops μ', runT H.P (crowd gs w sl) 0 = (.next m₁, ops) ∧ MLt H μ' (phi H.n (Vc H.n D) .w1 + Ssum H.n D, upd F 0 T1, fl .w1) ∧ Inv H AnchW Out W0 μ' m₁ (t ++ ops) := by
        rcases hk.inv rf with hst2 | ⟨_, T', a', w', es, hT, hgo, hd, hw'⟩
        · exact w1S G fo hn hp1 (hst2 w (rf _ _))
        · exact idleS G fo hp1 hgo hd (.w1 hw') (by rw [upd_same]; exact hT)
      obtain ⟨m₁, ops, μ', h1, h2, h3⟩ := key;exact ⟨m₁, ops, μ', h1, mlt_less h2 (by simp only [phi]; omega), h3⟩
    · exact idleS G fo h hgo hd (.anch hw') (by rw [hF]; exact hT)
  | w1 hw =>
    rcases hw.inv rf with hstop | ⟨_, T', a', w', es, hT, hgo, hd, hw'⟩
    · exact w1S G fo hn h (hstop w (rf _ _))
    · exact idleS G fo h hgo hd (.w1 hw') (by rw [hF]; exact hT)
  | @w2 vs _ _ _ _ hw =>
    rcases hw.inv rf with hstop | ⟨_, T', a', w', es, hT, hgo, hd, hw'⟩
    · obtain ⟨_, hall⟩ := hstop w (rf _ _)
      obtain ⟨ho, rfl, rfl, hw2⟩ := hmode.open_inv trivial;obtain ⟨hle, h1⟩ := hw2 vs rfl;obtain ⟨hhit, hmiss⟩ := hall (Vc H.n D) (by omega) (by simpa [pend] using hwg);by_cases e : Vc H.n D = vs
      · obtain ⟨a', hgo, hk⟩ := hhit e
        obtain ⟨T', hk⟩ := WayG.tree hk;exact bookS G fo h hgo (aside_setCell w (stA H.Wg) _) (hwg.setSt _) bk2 (.w3 hk) (.reg trivial ho (by omega)) (by simp) (.inl (by simp only [phi]; omega))
      · obtain ⟨a', hgo, hk⟩ := hmiss e
        obtain ⟨T', hk⟩ := WayG.tree hk;exact bookS G fo h hgo (.refl H.Wg w) hwg (bk1 (bk_cell (H := H) _ _ rfl)) (.anch hk) (hmode.reopen trivial trivial rfl (by simp)) (by simp) (.inl (by simp only [phi]; omega))
    · exact idleS G fo h hgo hd (.w2 hw') (by rw [hF]; exact hT)
  | w3 hw =>
    rcases hw.inv rf with hstop | ⟨_, T', a', w', es, hT, hgo, hd, hw'⟩
    · obtain ⟨_, hoff, hblk, htake⟩ := hstop w (rf _ _)
      have blk : Go.ConcN.Mode H.n D .blk st sm → (∃ st, WgAt H.ty H.Wg w st 0) → ∃ m₁ ops μ', runT H.P (crowd gs w sl) 0 = (.next m₁, ops) ∧ MLt H μ' (phi H.n (Vc H.n D) .w3 + Ssum H.n D, F, fl .w3) ∧ Inv H AnchW Out W0 μ' m₁ (t ++ ops) :=
        fun hm hx => bookS (T' := T) (tag' := .blk) G fo h (hblk hx) (.refl H.Wg w) hwg (by simp) (.blk hstop) hm (by simp) (.inr ⟨rfl, .inr ⟨hF.symm, by decide⟩⟩)
      cases hmode with
      | opn h1 _ _ => exact h1.elim
      | reg h1 h2 h3 => exact blk (.reg trivial h2 h3) ⟨_, hwg⟩
      | last L h1 h2 h3 h4 => exact blk (.last L trivial h2 h3 h4) ⟨_, hwg⟩
      | sema h2 =>
        obtain ⟨a', hgo, hk⟩ := htake hwg;obtain ⟨T', hk⟩ := WayG.tree hk;exact bookS G fo h hgo (aside_setCell w (smA H.Wg) _) (hwg.setSm 0) bks (.w4 hk) (.fin trivial h2) (by simp) (.inl (by simp only [phi]; omega))
      | fin h1 _ => exact h1.elim
    · exact idleS G fo h hgo hd (.w3 hw') (by rw [hF]; exact hT)
  | blk hw => simp at hrun
  | w4 hw =>
    rcases hw.inv rf with hstop | ⟨_, T', a', w', es, hT, hgo, hd, hw'⟩
    · obtain ⟨_, hx⟩ := hstop w (rf _ _)
      obtain ⟨hq, rfl, rfl⟩ := hmode.fin_inv trivial;obtain ⟨a', hgo, hk⟩ := hx hwg;obtain ⟨T', hk⟩ := WayG.tree hk;exact bookS G fo h hgo (.refl H.Wg w) hwg (bk1 (bk_cell (H := H) _ _ rfl)) (.ke hk) (.fin trivial hq) (by simp) (.inl (by simp only [phi]; omega))
    · exact idleS G fo h hgo hd (.w4 hw') (by rw [hF]; exact hT)
  | ke hw =>
    rcases hw.inv rf with hstop | ⟨_, T', a', w', es, hT, hgo, hd, hw'⟩
    · obtain ⟨_, a', hgo, hk⟩ := hstop w (rf _ _)
      obtain ⟨hq, rfl, rfl⟩ := hmode.fin_inv trivial;obtain ⟨T', hk⟩ := WayG.tree hk;exact bookS G fo h hgo (.refl H.Wg w) hwg (bk1 (.inr (.inl rfl))) (.acq hk) (.fin trivial hq) (by simp) (.inl (by simp only [phi]; omega))
    · exact idleS G fo h hgo hd (.ke hw') (by rw [hF]; exact hT)
  | acq hw =>
    rcases hw.inv rf with hstop | ⟨_, T', a', w', es, hT, hgo, hd, hw'⟩
    · obtain ⟨_, a', hgo, hk⟩ := hstop w (rf _ _)
      obtain ⟨hq, rfl, rfl⟩ := hmode.fin_inv trivial;refine starterMove (tag' := .ret) (T' := .leaf) G fo h hgo (.aside (.refl H.Wg w) ⟨_, _, hwg⟩ h.pay G.ne) (by rw [Plus.same rfl]; exact .ret hk) (ok0_none (by intro e he; simp at he; subst he; rfl))
        (by intro e he; simp at he; subst he; exact ⟨fun x hx => (by simp [mk, MemAct.ofEvent, MemAct.touch?] at hx), by simp [mk]⟩) hwg (.fin trivial hq) (fun _ => ?_) (.inl (by simp only [phi]; omega))
      have e1 : MemOp.ofEvents 0 a.frame.fn a.frame.place #[mk (.acquire (stA H.Wg))] = #[{ g := 0, fn := a.frame.fn, pos := a.frame.place, act := .mark (.acquire (stA H.Wg)) }] := by rw [ofEvents_eq]; simp [ofEvent_mk]
      have hy : (t ++ #[({ g := 0, fn := a.frame.fn, pos := a.frame.place, act := .mark (.acquire (stA H.Wg)) } : MemOp)])[t.size]? = some { g := 0, fn := a.frame.fn, pos := a.frame.place, act := .mark (.acquire (stA H.Wg)) } := by simp
      refine ⟨t.size, by rw [e1, act?_of hy], by rw [e1]; simp [Trace.g?], by rw [e1]; exact ⟨0, by simp [Trace.g?], by rw [deaf_old (Nat.le_refl _)]; exact h.deaf0⟩, fun i hi => ?_⟩;obtain ⟨r, hr⟩ := h.rel i hi (by rw [hq i hi]; omega)
      exact ⟨r, relApp hr (by have := G.s1; omega), lt_of_act? hr.act⟩
    · exact idleS G fo h hgo hd (.acq hw') (by rw [hF]; exact hT)
  | ret hw => exact absurd rfl hr
theorem someoneRuns (hA:∀ o g w,AnchW o g w→g.status = .running) (hO:∀ o g w,Out o g w→g.status = .running) (h:PInv H AnchW Out W0 j gs w t D F tag d0 ow X O O0 a st sm) :
  ∃ (i:Nat) (g:Goroutine),gs[i]?=some g∧g.status = .running:=by
 have wr:∀ i,i<j→(D i).stage ≠ 1→∃ (i:Nat) (g:Goroutine),gs[i]?=some g∧g.status = .running:=fun i hi hs=>by
  obtain ⟨g,hg,hw⟩:=h.wk i hi;exact ⟨_,g,hg,hw.status.resolve_right fun x=>hs x.2⟩
 rcases h.cs.status hA hO with ⟨hs,_⟩ | ⟨_,rfl⟩
 ·exact ⟨0,a,h.a0,hs⟩
 ·cases h.mode with
  | opn h1 _ _=>exact h1.elim
  | reg _ _ h3 =>
   obtain ⟨i,hi,h5⟩:=Go.ConcN.exists_counted h3;exact wr i hi (by omega)
  | last L _ h2 h3 _=>exact wr L h2 (by omega)
  | fin h1 _=>exact h1.elim
theorem allAwake (hA:∀ o g w,AnchW o g w→g.status = .running) (hO:∀ o g w,Out o g w→g.status = .running) (h:PInv H AnchW Out W0 j gs w t D F tag d0 ow X O O0 a st sm):∀ g ∈ gs,awake g:=by
 intro g hg tm;obtain ⟨i,hi⟩:=Array.mem_iff_getElem?.1 hg;by_cases h0:i=0
 ·subst h0
  rw [h.a0] at hi; cases hi;rcases h.cs.status hA hO with ⟨hs,_⟩ | ⟨hs,_⟩ <;> rw [hs] <;> simp
 ·rcases Nat.lt_or_ge i H.s with hlt | hge
  ·obtain ⟨q,_,hq⟩:=h.old i (by omega) hlt g hi
   rcases hq.status with hs | hs <;> rw [hs] <;> simp
  ·have hlt:i - H.s<j:=by have:=(Array.getElem?_eq_some_iff.1 hi).1; rw [h.size] at this; omega
   obtain ⟨g',hg',hs⟩:=h.wk (i - H.s) hlt;rw [show H.s+(i - H.s)=i by omega,hi] at hg'; cases hg';rcases hs.status with hs | ⟨hs,_⟩ <;> rw [hs] <;> simp
theorem phase_step (G:Geo H) (fo:FinOk H) (hn:H.n<2147483648) (hA:∀ o g w,AnchW o g w→g.status = .running) (hO:∀ o g w,Out o g w→g.status = .running) (hAn:∀ o g w,AnchW o g w→SW H (SW1 H AnchW Out) o g w)
  (h:PInv H AnchW Out W0 j gs w t D F tag d0 ow X O O0 a st sm) (hr:tag ≠ .ret) :
  ∃ m₁ ops μ',stepT H.P (crowd gs w sl)=(.next m₁,ops)∧MLt H μ' (phi H.n (Vc j D) tag+Ssum j D,F,fl tag)∧Inv H AnchW Out W0 μ' m₁ (t ++ ops):=by
 obtain ⟨i,g,d,sl',hg,hrun,hstep⟩:=crowd_pick (P:=H.P) (w:=w) (sl:=sl) (allAwake hA hO h) (someoneRuns hA hO h);rw [hstep];have hd:=h.at fo d;by_cases h0:i=0
 ·subst h0
  rw [h.a0] at hg; cases hg;exact stepStarter G fo hn hAn hd hrun hr
 ·rcases Nat.lt_or_ge i H.s with hlt | hge
  ·exact leaverMove G hA hO hd (by omega) hlt hg hrun
  ·have hlt:i - H.s<j:=by have:=(Array.getElem?_eq_some_iff.1 hg).1; rw [h.size] at this; omega
   rw [show i=H.s+(i - H.s) by omega] at hg ⊢;exact stepWorker G fo hn hA hO hd hlt hg hrun
theorem phase_runs (G:Geo H) (fo:FinOk H) (hn:H.n<2147483648) (hA:∀ o g w,AnchW o g w→g.status = .running) (hO:∀ o g w,Out o g w→g.status = .running) (hAn:∀ o g w,AnchW o g w→SW H (SW1 H AnchW Out) o g w) :
  ∀ (μ:Mu) (m:Machine) (t:Trace),Inv H AnchW Out W0 μ m t→∃ N m' t',runNT H.P N m t=(.next m',t') ∧
   ∃ j gs w sl D F d0 ow X O O0 a st sm,m'=crowd gs w sl∧PInv H AnchW Out W0 j gs w t' D F .ret d0 ow X O O0 a st sm:=by
 intro μ;induction μ using (MLt.wf H).induction with
 | _ μ ih =>
  intro m t hI;obtain ⟨gs,w,sl,j,D,F,tag,d0,ow,X,O,O0,a,st,sm,rfl,hp,rfl⟩:=hI;by_cases hr:tag = .ret
  ·subst hr
   exact ⟨0,_,t,rfl,j,gs,w,sl,D,F,d0,ow,X,O,O0,a,st,sm,rfl,hp⟩
  ·obtain ⟨m₁,ops,μ',h1,h2,h3⟩:=phase_step (sl:=sl) G fo hn hA hO hAn hp hr
   obtain ⟨N,m',t',e1,e2⟩:=ih μ' h2 m₁ _ h3;exact ⟨N+1,m',t',by rw [runNT_succ_next h1]; exact e1,e2⟩
theorem WS.quits {ro:Bl} {i s d:Nat} {T:Tree} {own:Bl} {g:Goroutine} {w:World} (h:WS H ro i s T d own g w) (hs:s=1):∃ q,QuitsD H.P q d g:=by
 cases h <;> first | (exact absurd hs (by decide)) | exact ⟨_,‹_›⟩
structure Calm (P:Program) (SB:Bl) (gs:Array Goroutine) (w:World) (t:Trace):Prop where
 old:∀ i g,0<i→gs[i]?=some g→∃ q,QuitsD P q (Deaf t i) g
 above:∀ k,gs.size≤k→Deaf t k=0
 past:PastO SB t
 seen:Seen w.heap.size t
 norel:NoRel t
 sb:∀ b,SB b→b<w.heap.size
theorem phase_calm (G:Geo H) {gs:Array Goroutine} (h:PInv H AnchW Out W0 j gs w t D F .ret d0 ow X O O0 a st sm) :
  Calm H.P (fun b=>H.SB b ∨ b=H.Wg) gs w t∧gs[0]?=some a∧Out O0 a w∧gs.size=H.s+H.n∧(∀ i,i<H.n→∃ v,Has H.C i v w∧H.fin i (O i) v w)∧PayAt H.C H.n w∧WgAt H.ty H.Wg w 0 0∧Stays (St0 H) W0 w∧(∀ i,i<H.n→∀ b,O i b→H.B0≤b∧b<w.heap.size)∧(∀ b,O0 b→H.B0≤b∧b<w.heap.size):=by
 obtain ⟨hq,rfl,rfl⟩:=h.mode.fin_inv trivial;have hj:j=H.n∧d0=0∧Out O0 a w:=by
  generalize hF:F 0=T at *
  have hcs:=h.cs;rw [hF] at hcs;cases hcs with
  | ret hw=>exact ⟨rfl,rfl,hw w (RelyS.refl H _ _)⟩
 obtain ⟨rfl,rfl,hsw⟩:=hj;obtain ⟨q,h1,h2,h3,h4⟩:=h.acq rfl;refine ⟨⟨fun i g hi hg => ?_,fun k hk=>h.above k (by rw [h.size] at hk; exact hk),?_,h.seen,h.norel,?_⟩,h.a0,hsw,h.size,fun i hi=>h.has i hi (by rw [hq i hi]; omega),h.pay,h.wg,h.base,fun i hi b hb => ?_,fun b hb => ?_⟩
 ·rcases Nat.lt_or_ge i H.s with hlt | hge
  ·obtain ⟨q,_,hq⟩:=h.old i hi hlt g hg
   exact ⟨q,hq⟩
  ·have hlt:i - H.s<H.n:=by have:=(Array.getElem?_eq_some_iff.1 hg).1; rw [h.size] at this; omega
   obtain ⟨g',hg',hs⟩:=h.wk (i - H.s) hlt;rw [show H.s+(i - H.s)=i by omega,hg] at hg'; cases hg';obtain ⟨q,hq'⟩:=hs.quits (hq _ hlt);have:=h.deafW (i - H.s) hlt;rw [show H.s+(i - H.s)=i by omega] at this;exact ⟨q,by rw [this]; exact hq'⟩
 ·exact h.ti.finish G h.deaf0 (fun i hi=>by
   obtain ⟨op,ho,hoa⟩:=Option.map_eq_some_iff.1 hi;exact h.norel op (Array.mem_of_getElem? ho) _ hoa) h1 h2 h3 h4
 ·rintro b (hb | rfl)
  ·have:=G.sB b hb; have:=h.b0; omega
  ·have:=G.wg; have:=h.b0; omega
 ·obtain ⟨h1,h2,_⟩:=h.olt i hi b hb; exact ⟨h1,h2⟩
 ·obtain ⟨h1,h2,_⟩:=h.o0 b hb; exact ⟨h1,h2⟩
end
end Rn
section
abbrev wgLink:Go.Conc.Lib.WgLink := { add:=105,done:=107,wait:=109,relMerge:=125,disable:=126,enable:=127,inBubble:=128,associate:=129,fatal:=130,uOr:=131,uAdd:=132,raceRead:=133,uLoad:=134,uStore:=135,disassociate:=136,semrelease:=137,acquire:=140,isAssociated:=141,uCas:=142,raceWrite:=143,semacquire:=144,orU64:=157,addU64:=158,loadU64:=159,storeU64:=160,casU64:=166,tWgP:=173,tUP:=175,tAssoc:=177,tWg:=158,tAU:=155,tU64:=153,tUint:=146,tU32:=156,tPU32:=181,tPAU:=196,tPU64:=198,tNoCopy:=150,tANoCopy:=151,tAlign64:=152 }
theorem wgLib:Go.Conc.Lib.WgLib Tryz.prog wgLink :=
 ⟨Tryz.func105,Tryz.func107,Tryz.func109,Tryz.func125,Tryz.func126,Tryz.func127,Tryz.func128,Tryz.func129,Tryz.func130,Tryz.func131,Tryz.func132,Tryz.func133,Tryz.func134,Tryz.func135,Tryz.func136,Tryz.func137,Tryz.func140,Tryz.func141,Tryz.func142,Tryz.func143,Tryz.func144,Tryz.func157,Tryz.func158,Tryz.func159,Tryz.func160,Tryz.func166,Tryz.underlying173,Tryz.runUnderlying173,Tryz.sizeOf173,Tryz.isAgg173,Tryz.zeroValue173,Tryz.underlying175,Tryz.runUnderlying175,Tryz.sizeOf175,Tryz.isAgg175,Tryz.zeroValue175,Tryz.underlying177,Tryz.runUnderlying177,Tryz.sizeOf177,Tryz.isAgg177,Tryz.zeroValue177,Tryz.underlying158,Tryz.runUnderlying158,Tryz.sizeOf158,Tryz.isAgg158,Tryz.zeroValue158,Tryz.underlying155,Tryz.runUnderlying155,Tryz.sizeOf155,Tryz.isAgg155,Tryz.zeroValue155,Tryz.underlying153,Tryz.runUnderlying153,Tryz.sizeOf153,Tryz.isAgg153,Tryz.zeroValue153,Tryz.underlying146,Tryz.runUnderlying146,Tryz.sizeOf146,Tryz.isAgg146,Tryz.zeroValue146,Tryz.underlying156,Tryz.runUnderlying156,Tryz.sizeOf156,Tryz.isAgg156,Tryz.zeroValue156,Tryz.underlying181,Tryz.runUnderlying181,Tryz.sizeOf181,Tryz.isAgg181,Tryz.zeroValue181,Tryz.underlying196,Tryz.runUnderlying196,Tryz.sizeOf196,Tryz.isAgg196,Tryz.zeroValue196,Tryz.underlying198,Tryz.runUnderlying198,Tryz.sizeOf198,Tryz.isAgg198,Tryz.zeroValue198,Tryz.underlying0,Tryz.runUnderlying0,Tryz.sizeOf0,Tryz.isAgg0,Tryz.zeroValue0,Tryz.underlying3,Tryz.runUnderlying3,Tryz.sizeOf3,Tryz.isAgg3,Tryz.zeroValue3,Tryz.underlying4,Tryz.runUnderlying4,Tryz.sizeOf4,Tryz.isAgg4,Tryz.zeroValue4,Tryz.underlying9,Tryz.runUnderlying9,Tryz.sizeOf9,Tryz.isAgg9,Tryz.zeroValue9,Tryz.underlying20,Tryz.runUnderlying20,Tryz.sizeOf20,Tryz.isAgg20,Tryz.zeroValue20,Tryz.underlying21,Tryz.runUnderlying21,Tryz.sizeOf21,Tryz.isAgg21,Tryz.zeroValue21,(by kernel_rfl),(by kernel_rfl)⟩
instance payThr : Go.ConcR.Payload := ⟨71⟩
end
namespace Rn
open Go.Conc Go.RowKit Go.Conc.Lib Go.ConcR.Gen Go.ConcN.Gen
open Go.ConcN (WgLive PayAt Has)
open Go.ConcR (KK WgAt stA smA rd wr mk Payload DC0)
section
variable {Q : Ph} {own : Bl} {K : Bl → Goroutine → World → Prop}
theorem sw_goes {n:Nat} {g:Goroutine} {w:World} (h:Goes Q.P true (RelyS Q own) DC0 (fun g w=>SW Q K own g w) n g w):SW Q K own g w:=by
 refine (WayG.of_goes (fun _ _ x=>x) (fun w w' es (x:DC0 w w' es) => ?_) h).bind (RelyS.refl Q) (fun _ _ _ x=>x) (fun _ _ _ _ x=>x) fun o g w x => ?_
 ·obtain ⟨rfl,rfl⟩:=x
  exact ⟨DidS.quiet Q own _,rfl⟩
 ·obtain ⟨rfl,x⟩:=x
  exact x
def Keeps (Q:Ph) (own:Bl) (F:World→Prop):Prop:=∀ w w',Stays (fun b=>own b ∨ St0 Q b) w w'→F w→F w'
theorem fs_rely {F:World→Prop} (hF2:Keeps Q own F) {w w1:World} (h:F w∧WgLive Q.ty Q.Wg w) (r:RelyS Q own w w1):F w1∧WgLive Q.ty Q.Wg w1:=⟨hF2 _ _ r.stays h.1,r.live h.2⟩
theorem stays_aside (ho:¬ own Q.Wg) {w w':World} (h:Aside Q.Wg w w'):Stays (fun b=>own b ∨ St0 Q b) w w' :=
 ⟨h.tape,h.os,h.output,Nat.le_of_eq h.size.symm,fun b hb hk=>h.block b (by rintro rfl; exact hk.elim ho fun x=>x.2.1 rfl)⟩
theorem said_read (w:World) (a:Addr) (ha:a.block=Q.Wg):DidS Q own w w #[⟨.mark (.read a),false,true⟩]:=by
 refine ⟨rfl,rfl,rfl,Nat.le_refl _,fun _ _ _=>rfl,fun e he => ?_⟩;simp at he;subst he;refine ⟨fun x hx => ?_,by simp,by simp,by simp⟩;simp [MemAct.ofEvent,MemAct.touch?] at hx;subst hx;exact .inl ⟨⟨a,rfl,ha⟩,by simp⟩
theorem said_write (w:World) (a:Addr) (ha:a.block=Q.Wg):DidS Q own w w #[⟨.mark (.write a),false,true⟩]:=by
 refine ⟨rfl,rfl,rfl,Nat.le_refl _,fun _ _ _=>rfl,fun e he => ?_⟩;simp at he;subst he;refine ⟨fun x hx => ?_,by simp,by simp,by simp⟩;simp [MemAct.ofEvent,MemAct.touch?] at hx;subst hx;exact .inl ⟨⟨a,rfl,ha⟩,by simp⟩
end
section
variable {L : WgLink} {Q : Ph} {own : Bl} {F : World → Prop} {K : Bl → Goroutine → World → Prop} {b₀ : Frame} {a₀ : Act} {ops₀ : Array Oper} {i₀ : Nat} {rest₀ : List Nat} {k₀ : List Item} {cs : List Frame}
set_option maxHeartbeats 8000000 in
theorem addS (H:WgLib Q.P L) (hF2:Keeps Q own F) (ho:¬ own Q.Wg)
  (hT:∀ w,F w→WgLive Q.ty Q.Wg w→SW Q K own (G (b₀.at (a₀.put ((ops₀[i₀]?).bind (·.dst)) (.tuple #[])) (.inRegion ops₀ rest₀ :: k₀)) cs) w)
  (w:World) (hF:F w∧WgLive Q.ty Q.Wg w) :
  SW Q (Ev1 Q #[mk .disable] (SA1 Q (Ev1 Q #[mk .enable] K))) own
   (G ((base L.add).at ⟨#[.pointer (some ⟨Q.Wg,0,none⟩),.int .i64 1] ++ Array.replicate 115 undef,[]⟩ [.code (body_add L)]) (b₀.at a₀ (.inRegion ops₀ (i₀ :: rest₀) :: k₀) :: cs)) w:=by
 lib_facts
 simp only [body_add,addFn,Option.getD_some];simp only [Array.replicate,Array.append,List.replicate];refine sw_goes (n:=40) ?_;u_c stepG_seq (fs_rely hF2) hF
 u_cond true (fs_rely hF2) hF
 u_c stepG_seq (fs_rely hF2) hF
 u_c stepG_seq (fs_rely hF2) hF
 u_reg (fs_rely hF2) hF
 u_op (fs_rely hF2) hF
 u_op (fs_rely hF2) hF
 u_c stepG_region_end (fs_rely hF2) hF
 u_cond false (fs_rely hF2) hF
 u_c stepG_skip (fs_rely hF2) hF
 u_c stepG_seq (fs_rely hF2) hF
 u_reg (fs_rely hF2) hF
 refine Goes.stop (fun w₁ h₁=>WayG.stop (fun w₂ h₂ => ?_));replace hF:=fs_rely hF2 (fs_rely hF2 hF h₁) h₂
 clear h₁ h₂;refine ⟨rfl,_,stepG_mark0 .disable (by simp) rfl rfl (by k_ne) rfl H.f_disable (x_disable_n L) (x_disable_b L) (x_disable_x L) (x_disable_f L),?_⟩;walk_nrm
 refine sw_goes (n:=60) ?_;u_c stepG_region_end (fs_rely hF2) hF
 u_reg (fs_rely hF2) hF
 u_defer (fs_rely hF2) hF
 u_c stepG_region_end (fs_rely hF2) hF
 u_c stepG_seq (fs_rely hF2) hF
 u_reg (fs_rely hF2) hF
 u_op (fs_rely hF2) hF
 u_c stepG_region_end (fs_rely hF2) hF
 u_c stepG_seq (fs_rely hF2) hF
 u_c stepG_seq (fs_rely hF2) hF
 u_reg (fs_rely hF2) hF
 u_bub (fs_rely hF2) hF
 u_c stepG_region_end (fs_rely hF2) hF
 u_cond false (fs_rely hF2) hF
 u_c stepG_skip (fs_rely hF2) hF
 u_c stepG_seq (fs_rely hF2) hF
 u_reg (fs_rely hF2) hF
 u_op (fs_rely hF2) hF
 u_op (fs_rely hF2) hF
 u_op (fs_rely hF2) hF
 u_op (fs_rely hF2) hF
 u_op (fs_rely hF2) hF
 u_op (fs_rely hF2) hF
 u_call H.f_uAdd (nm_uAdd L) uAddFn (fs_rely hF2) hF
 u_c stepG_seq (fs_rely hF2) hF
 u_reg (fs_rely hF2) hF
 u_op (fs_rely hF2) hF
 u_c stepG_region_end (fs_rely hF2) hF
 u_c stepG_seq (fs_rely hF2) hF
 u_reg (fs_rely hF2) hF
 u_op (fs_rely hF2) hF
 u_op (fs_rely hF2) hF
 u_op (fs_rely hF2) hF
 u_op (fs_rely hF2) hF
 refine Goes.stop (fun w₁ h₁=>WayG.stop (fun w₂ h₂ => ?_));replace hF:=fs_rely hF2 (fs_rely hF2 hF h₁) h₂
 clear h₁ h₂;refine ⟨rfl,fun v hv hw => ?_⟩;rcases Nat.eq_zero_or_pos v with rfl | hvp
 ·replace hw:WgAt Q.ty Q.Wg w₂ 0 0:=by simpa using hw
  have z:(((0:Nat):Int)+1)*KK=KK:=by simp
  rw [z];have e0:IntKind.u64.wrap (0+4294967296)=KK:=by decide
  refine ⟨_,(stepG_add_atomic rfl rfl (by k_ne) rfl H.f_addU64 (x_addU64_n L) (x_addU64_b L) (x_addU64_x L) .u64 (x_addU64_f L) rfl rfl hw.cellSt (hw.thaw 0)).trans (by rw [e0]; rfl),?_⟩
  replace hF:F (w₂.setCell (stA Q.Wg) (.int .u64 KK))∧WgLive Q.ty Q.Wg (w₂.setCell (stA Q.Wg) (.int .u64 KK)):=⟨hF2 _ _ (stays_aside ho (aside_setCell w₂ (stA Q.Wg) _)) hF.1,⟨_,_,hw.setSt _⟩⟩
  clear hw;simp only [KK] at hF ⊢;walk_nrm
  refine sw_goes (n:=110) ?_;u_op (fs_rely hF2) hF
  u_c stepG_region_end (fs_rely hF2) hF
  u_c stepG_ret' (fs_rely hF2) hF
  u_leave1 H.f_uAdd (fs_rely hF2) hF
  u_op (fs_rely hF2) hF
  u_c stepG_region_end (fs_rely hF2) hF
  u_c stepG_seq (fs_rely hF2) hF
  u_c stepG_seq (fs_rely hF2) hF
  u_reg (fs_rely hF2) hF
  u_op (fs_rely hF2) hF
  u_op (fs_rely hF2) hF
  u_op (fs_rely hF2) hF
  u_op (fs_rely hF2) hF
  u_skip (fs_rely hF2) hF
  u_skip (fs_rely hF2) hF
  u_op (fs_rely hF2) hF
  u_c stepG_region_end (fs_rely hF2) hF
  u_cond false (fs_rely hF2) hF
  u_c stepG_skip (fs_rely hF2) hF
  u_c stepG_seq (fs_rely hF2) hF
  u_reg (fs_rely hF2) hF
  u_op (fs_rely hF2) hF
  u_op (fs_rely hF2) hF
  u_op (fs_rely hF2) hF
  u_op (fs_rely hF2) hF
  u_c stepG_region_end (fs_rely hF2) hF
  u_c stepG_seq (fs_rely hF2) hF
  u_reg (fs_rely hF2) hF
  u_op (fs_rely hF2) hF
  u_op (fs_rely hF2) hF
  u_op (fs_rely hF2) hF
  u_op (fs_rely hF2) hF
  u_c stepG_region_end (fs_rely hF2) hF
  u_c stepG_seq (fs_rely hF2) hF
  u_c stepG_seq (fs_rely hF2) hF
  u_reg (fs_rely hF2) hF
  u_op (fs_rely hF2) hF
  u_op (fs_rely hF2) hF
  u_op (fs_rely hF2) hF
  u_op (fs_rely hF2) hF
  u_op (fs_rely hF2) hF
  u_op (fs_rely hF2) hF
  u_op (fs_rely hF2) hF
  u_op (fs_rely hF2) hF
  u_op (fs_rely hF2) hF
  u_op (fs_rely hF2) hF
  u_c stepG_region_end (fs_rely hF2) hF
  u_cond true (fs_rely hF2) hF
  u_reg (fs_rely hF2) hF
  u_op (fs_rely hF2) hF
  u_op (fs_rely hF2) hF
  u_op (fs_rely hF2) hF
  u_in (fs_rely hF2) hF
  refine goes_oper_k rfl rfl (by k_ne) (fun Kx hKx => ?_);have hcv:=run_convert_to_unsafe (P:=Q.P) H.underlying_tPU32 H.underlying_tUP H.room_tU32 (WgLive.cell1 hF.2).choose_spec;have hce:=fun es=>events_convert_to_unsafe (P:=Q.P) H.underlying_tPU32 H.underlying_tUP H.room_tU32 (WgLive.cell1 hF.2).choose_spec es
  go_simp
  refine hKx _ _ ⟨?_,?_⟩
  ·u_none
   intro ex hex;have hmx:=mem_listed hex;simp [go_sem,hce] at hmx
  clear hKx Kx hcv hce;refine Goes.stop (fun w₁ h₁=>WayG.next rfl (fun w₂ h₂ => ?_));replace hF:=fs_rely hF2 (fs_rely hF2 hF h₁) h₂
  clear h₁ h₂;refine ⟨_,_,_,stepG_markAt .read (by simp) rfl rfl (by k_ne) rfl H.f_raceRead (x_raceRead_n L) (x_raceRead_b L) (x_raceRead_x L) (x_raceRead_f L) (ad:=⟨Q.Wg,1,none⟩) (by simp [Act.eval]),said_read w₂ ⟨Q.Wg,1,none⟩ rfl,?_⟩;rw [Plus.same rfl];walk_nrm
  refine sw_goes (n:=80) ?_;u_c stepG_region_end (fs_rely hF2) hF
  u_c stepG_seq (fs_rely hF2) hF
  u_c stepG_seq (fs_rely hF2) hF
  u_reg (fs_rely hF2) hF
  u_op (fs_rely hF2) hF
  u_op (fs_rely hF2) hF
  u_c stepG_region_end (fs_rely hF2) hF
  u_cond false (fs_rely hF2) hF
  u_c stepG_skip (fs_rely hF2) hF
  u_c stepG_seq (fs_rely hF2) hF
  u_c stepG_seq (fs_rely hF2) hF
  u_reg (fs_rely hF2) hF
  u_op (fs_rely hF2) hF
  u_op (fs_rely hF2) hF
  u_op (fs_rely hF2) hF
  u_skip (fs_rely hF2) hF
  u_skip (fs_rely hF2) hF
  u_op (fs_rely hF2) hF
  u_op (fs_rely hF2) hF
  u_skip (fs_rely hF2) hF
  u_skip (fs_rely hF2) hF
  u_skip (fs_rely hF2) hF
  u_skip (fs_rely hF2) hF
  u_op (fs_rely hF2) hF
  u_c stepG_region_end (fs_rely hF2) hF
  u_cond false (fs_rely hF2) hF
  u_c stepG_skip (fs_rely hF2) hF
  u_c stepG_seq (fs_rely hF2) hF
  u_c stepG_seq (fs_rely hF2) hF
  u_reg (fs_rely hF2) hF
  u_op (fs_rely hF2) hF
  u_op (fs_rely hF2) hF
  u_op (fs_rely hF2) hF
  u_skip (fs_rely hF2) hF
  u_skip (fs_rely hF2) hF
  u_op (fs_rely hF2) hF
  u_c stepG_region_end (fs_rely hF2) hF
  u_cond true (fs_rely hF2) hF
  u_c stepG_ret' (fs_rely hF2) hF
  refine Goes.stop (fun w₁ h₁=>WayG.stop (fun w₂ h₂ => ?_));replace hF:=fs_rely hF2 (fs_rely hF2 hF h₁) h₂
  clear h₁ h₂;refine ⟨rfl,_,stepG_unwind_entry (v := .tuple #[]) (evs := #[mk .enable]) rfl H.f_enable (x_enable_n L) (x_enable_b L) (x_enable_x L) (x_enable_f L) (by simp [Extern.Race.none_]) (by simp [mk]) (by simp [mk]),?_⟩;refine sw_goes (n:=2) ?_;u_leave0 H.f_add (fs_rely hF2) hF
  exact Goes.stop fun w₁ h₁=>hT _ (fs_rely hF2 hF h₁).1 (fs_rely hF2 hF h₁).2
 ·obtain ⟨V,hV⟩:∃ V:Int,V=(v:Int)+1:=⟨_,rfl⟩
  obtain ⟨S,hS⟩:∃ S:Int,S=V*KK:=⟨_,rfl⟩;have eS:IntKind.u64.wrap ((v:Int)*KK+4294967296)=S:=by rw [IntKind.wrap_u64,hS,hV]; simp only [KK]; omega
  rw [← hV,← hS];have a1:S / 4294967296=V:=by rw [hS]; simp only [KK]; omega
  have b1:bits .and .u64 S 2147483648=0:=by rw [hS,hV]; have:=Go.ConcN.st_flag (v+1) 0 (by omega) (by omega); simpa [KK] using this
  have b2:bits .and .u64 S 2147483647=0:=by rw [hS,hV]; have:=Go.ConcN.st_waiters (v+1) 0 (by omega) (by omega); simpa [KK] using this
  have c1:IntKind.i32.wrap V=V:=by rw [IntKind.wrap_i32]; omega
  have hV1:1<V:=by omega
  have hV2:V<2147483648:=by omega
  have q1:(V == 1)=false:=by simp; omega
  have q2:decide (V=1)=false:=decide_eq_false (by omega);have q3:decide (V<0)=false:=decide_eq_false (by omega);have q4:decide (0<V)=true:=decide_eq_true (by omega);have q5:(V == 0)=false:=by simp; omega
  have q6:decide (V=0)=false:=decide_eq_false (by omega);refine ⟨_,(stepG_add_atomic rfl rfl (by k_ne) rfl H.f_addU64 (x_addU64_n L) (x_addU64_b L) (x_addU64_x L) .u64 (x_addU64_f L) rfl rfl hw.cellSt (hw.thaw 0)).trans (by rw [eS]; rfl),?_⟩
  replace hF:F (w₂.setCell (stA Q.Wg) (.int .u64 S))∧WgLive Q.ty Q.Wg (w₂.setCell (stA Q.Wg) (.int .u64 S)):=⟨hF2 _ _ (stays_aside ho (aside_setCell w₂ (stA Q.Wg) _)) hF.1,⟨_,_,hw.setSt _⟩⟩
  clear hw hS hV eS;walk_nrm
  refine sw_goes (n:=110) ?_;u_op (fs_rely hF2) hF
  u_c stepG_region_end (fs_rely hF2) hF
  u_c stepG_ret' (fs_rely hF2) hF
  u_leave1 H.f_uAdd (fs_rely hF2) hF
  u_op (fs_rely hF2) hF
  u_c stepG_region_end (fs_rely hF2) hF
  u_c stepG_seq (fs_rely hF2) hF
  u_c stepG_seq (fs_rely hF2) hF
  u_reg (fs_rely hF2) hF
  u_op (fs_rely hF2) hF
  u_op (fs_rely hF2) hF
  u_op (fs_rely hF2) hF
  u_op (fs_rely hF2) hF
  u_skip (fs_rely hF2) hF
  u_skip (fs_rely hF2) hF
  u_op (fs_rely hF2) hF
  u_c stepG_region_end (fs_rely hF2) hF
  u_cnd false (fs_rely hF2) hF
  u_c stepG_skip (fs_rely hF2) hF
  u_c stepG_seq (fs_rely hF2) hF
  u_reg (fs_rely hF2) hF
  u_op (fs_rely hF2) hF
  u_op (fs_rely hF2) hF
  u_op (fs_rely hF2) hF
  u_op (fs_rely hF2) hF
  u_c stepG_region_end (fs_rely hF2) hF
  u_c stepG_seq (fs_rely hF2) hF
  u_reg (fs_rely hF2) hF
  u_op (fs_rely hF2) hF
  u_op (fs_rely hF2) hF
  u_op (fs_rely hF2) hF
  u_op (fs_rely hF2) hF
  u_c stepG_region_end (fs_rely hF2) hF
  u_c stepG_seq (fs_rely hF2) hF
  u_c stepG_seq (fs_rely hF2) hF
  u_reg (fs_rely hF2) hF
  u_op (fs_rely hF2) hF
  u_op (fs_rely hF2) hF
  u_op (fs_rely hF2) hF
  u_op (fs_rely hF2) hF
  u_op (fs_rely hF2) hF
  u_op (fs_rely hF2) hF
  u_op (fs_rely hF2) hF
  u_op (fs_rely hF2) hF
  u_op (fs_rely hF2) hF
  u_op (fs_rely hF2) hF
  u_c stepG_region_end (fs_rely hF2) hF
  u_cnd false (fs_rely hF2) hF
  u_c stepG_skip (fs_rely hF2) hF
  u_c stepG_seq (fs_rely hF2) hF
  u_c stepG_seq (fs_rely hF2) hF
  u_reg (fs_rely hF2) hF
  u_op (fs_rely hF2) hF
  u_op (fs_rely hF2) hF
  u_c stepG_region_end (fs_rely hF2) hF
  u_cnd false (fs_rely hF2) hF
  u_c stepG_skip (fs_rely hF2) hF
  u_c stepG_seq (fs_rely hF2) hF
  u_c stepG_seq (fs_rely hF2) hF
  u_reg (fs_rely hF2) hF
  u_op (fs_rely hF2) hF
  u_op (fs_rely hF2) hF
  u_op (fs_rely hF2) hF
  u_skip (fs_rely hF2) hF
  u_skip (fs_rely hF2) hF
  u_op (fs_rely hF2) hF
  u_op (fs_rely hF2) hF
  u_skip (fs_rely hF2) hF
  u_skip (fs_rely hF2) hF
  u_skip (fs_rely hF2) hF
  u_skip (fs_rely hF2) hF
  u_op (fs_rely hF2) hF
  u_c stepG_region_end (fs_rely hF2) hF
  u_cnd false (fs_rely hF2) hF
  u_c stepG_skip (fs_rely hF2) hF
  u_c stepG_seq (fs_rely hF2) hF
  u_c stepG_seq (fs_rely hF2) hF
  u_reg (fs_rely hF2) hF
  u_op (fs_rely hF2) hF
  u_op (fs_rely hF2) hF
  u_op (fs_rely hF2) hF
  u_skip (fs_rely hF2) hF
  u_skip (fs_rely hF2) hF
  u_op (fs_rely hF2) hF
  u_c stepG_region_end (fs_rely hF2) hF
  u_cnd true (fs_rely hF2) hF
  u_c stepG_ret' (fs_rely hF2) hF
  refine Goes.stop (fun w₁ h₁=>WayG.stop (fun w₂ h₂ => ?_));replace hF:=fs_rely hF2 (fs_rely hF2 hF h₁) h₂
  clear h₁ h₂;refine ⟨rfl,_,stepG_unwind_entry (v := .tuple #[]) (evs := #[mk .enable]) rfl H.f_enable (x_enable_n L) (x_enable_b L) (x_enable_x L) (x_enable_f L) (by simp [Extern.Race.none_]) (by simp [mk]) (by simp [mk]),?_⟩;refine sw_goes (n:=2) ?_;u_leave0 H.f_add (fs_rely hF2) hF
  exact Goes.stop fun w₁ h₁=>hT _ (fs_rely hF2 hF h₁).1 (fs_rely hF2 hF h₁).2
end
end Rn
end Go.Proofs.YtjcgklifabcfkaaGreat
