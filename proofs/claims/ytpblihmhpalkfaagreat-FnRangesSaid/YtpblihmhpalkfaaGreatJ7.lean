/-
  Texts that the law stands on, part 7.
-/
import Derived.Test.YtpblihmhpalkfaaGreatJ1
import Derived.Test.YtpblihmhpalkfaaGreatJ6
import Derived.Conc.CrowdRun
import Derived.Test.YtpblihmhpalkfaaGreatProg
import Derived.Conc.WgGenN3
import Derived.KernelRfl
import Derived.Conc.WgWords
set_option maxRecDepth 100000
set_option linter.unusedVariables false
set_option linter.unusedSimpArgs false
namespace Go.Proofs.YtpblihmhpalkfaaGreat
namespace Rn
open Go.Conc
open Go.ConcN (ShN PermW RelBy WgLive PayAt Has CTag WD upd upd_same upd_ne sumTo sumTo_upd sumTo_upd_out cnt Vc Ssum phi pend isOpen)
open Go.ConcR (KK WgAt stA smA rd wr mk Payload DC0 g_of_ofEvents Bk ofEvent_mk)
variable [Payload]
section
variable {H : Ph} {AnchW Out : Bl → Goroutine → World → Prop} {W0 : World}
 {j : Nat} {gs : Array Goroutine} {w w' : World} {sl : Option (Nat × Nat)} {t : Trace} {D : Nat → WD} {F : Nat → Tree} {tag tag' : CTag} {d0 : Nat} {ow X : Nat → Nat} {O : Nat → Bl} {O0 : Bl} {a a' : Goroutine} {st sm st' sm' : Int} {es : Array Event} {T' : Tree}
set_option maxHeartbeats 1600000 in
theorem stepStarter (G : Geo H) (fo : FinOk H) (hn : H.n < 2147483648) (hAn : ∀ o g w, AnchW o g w → SW H (SW1 H AnchW Out) o g w)
    (h : PInv H AnchW Out W0 j gs w t D F tag d0 ow X O O0 a st sm) (hrun : a.status = .running) (hr : tag ≠ .ret) :
    ∃ m₁ ops μ', runT H.P (crowd gs w sl) 0 = (.next m₁, ops) ∧ MLt H μ' (phi H.n (Vc j D) tag + Ssum j D, F, fl tag) ∧ Inv H AnchW Out W0 μ' m₁ (t ++ ops) := by
  have hVj := Go.ConcN.Vc_le j D;have rf := RelyS.refl H;have hcs := h.cs;have hmode := h.mode;have hwg := h.wg;have bk1 : ∀ {x : Event}, Bk H.Wg x → ∀ e ∈ #[x], Bk H.Wg e := fun hx e he => by simp at he; subst he; exact hx
  have bk2 : ∀ e ∈ #[rd (stA H.Wg), wr (stA H.Wg)], Bk H.Wg e := by intro e he; simp at he; rcases he with rfl | rfl <;> exact bk_cell (H := H) _ _ rfl
  have bks : ∀ e ∈ semEvents (smA H.Wg), Bk H.Wg e := by
    intro e he;simp [semEvents] at he;rcases he with rfl | rfl | rfl | rfl
    · exact .inl rfl
    · exact bk_cell (H := H) _ _ rfl
    · exact bk_cell (H := H) _ _ rfl
    · exact .inr (.inl rfl)
  generalize hF : F 0 = T at hcs;cases hcs with
  | @skd r _ _ _ _ hr' hw =>
    rcases hw.inv rf with hstop | ⟨_, T', a', w', es, hT, hgo, hd, hw'⟩
    · obtain ⟨_, a', hgo, hk⟩ := hstop w (rf _ _)
      obtain ⟨T', hk⟩ := WayG.tree hk;exact bookS G fo h hgo (.refl H.Wg w) hwg (bk1 (.inl rfl)) (.sa1 hr' hk) (hmode.reopen trivial trivial rfl (by simp)) (by simp) (.inl (by simp only [phi]; omega))
    · exact idleS G fo h hgo hd (.skd hr' hw') (by rw [hF]; exact hT)
  | @sa1 r _ _ _ _ hr' hw =>
    rcases hw.inv rf with hstop | ⟨_, T', a', w', es, hT, hgo, hd, hw'⟩
    · obtain ⟨_, hall⟩ := hstop w (rf _ _)
      obtain ⟨ho, rfl, rfl, _⟩ := hmode.open_inv trivial;obtain ⟨a', hgo, hk⟩ := hall (Vc (H.n - (r + 1)) D) (by omega) (by simpa [pend] using hwg);obtain ⟨T', hk⟩ := WayG.tree hk;refine bookS G fo h hgo (aside_setCell w (stA H.Wg) _) (hwg.setSt _) bk2 (.ske hr' hk) ?_ (by simp) (.inl (by simp only [phi]; omega))
      have e : (((Vc (H.n - (r + 1)) D : Nat) : Int) + 1) * KK = ((Vc (H.n - (r + 1)) D + pend (.sp r 3) : Nat) : Int) * KK := by simp [pend]
      rw [e];exact .opn trivial ho (by simp)
    · exact idleS G fo h hgo hd (.sa1 hr' hw') (by rw [hF]; exact hT)
  | @ske r _ _ _ _ hr' hw =>
    rcases hw.inv rf with hstop | ⟨_, T', a', w', es, hT, hgo, hd, hw'⟩
    · obtain ⟨_, a', hgo, hk⟩ := hstop w (rf _ _)
      obtain ⟨T', hk⟩ := WayG.tree hk;exact bookS G fo h hgo (.refl H.Wg w) hwg (bk1 (.inr (.inl rfl))) (.sgo hr' hk) (hmode.reopen trivial trivial rfl (by simp)) (by simp) (.inl (by simp only [phi]; omega))
    · exact idleS G fo h hgo hd (.ske hr' hw') (by rw [hF]; exact hT)
  | @sgo r _ _ _ _ hr' hw =>
    rcases hw.inv rf with hstop | ⟨_, T', a', w', es, hT, hgo, hd, hw'⟩
    · exact spawnS G fo hr' h (hstop w (rf _ _))
    · exact idleS G fo h hgo hd (.sgo hr' hw') (by rw [hF]; exact hT)
  | kd hw =>
    rcases hw.inv rf with hstop | ⟨_, T', a', w', es, hT, hgo, hd, hw'⟩
    · obtain ⟨_, a', hgo, hk⟩ := hstop w (rf _ _)
      obtain ⟨T', hk⟩ := WayG.tree hk;exact bookS G fo h hgo (.refl H.Wg w) hwg (bk1 (.inl rfl)) (.anch hk) (hmode.reopen trivial trivial rfl (by simp)) (by simp) (.inl (by simp only [phi]; omega))
    · exact idleS G fo h hgo hd (.kd hw') (by rw [hF]; exact hT)
  | anch hw =>
    rcases hw.inv rf with hstop | ⟨_, T', a', w', es, hT, hgo, hd, hw'⟩
    · obtain ⟨T1, hk⟩ := WayG.tree (hAn _ _ _ (hstop w (rf _ _)))
      have hp1 : PInv H AnchW Out W0 H.n gs w t D (upd F 0 T1) .w1 1 ow X O O0 a st sm :=
        { h with
          cs := by rw [upd_same]; exact .w1 hk
          old := fun k hk hks g hg => by rw [upd_ne _ _ (by omega)]; exact h.old k hk hks g hg
          wk := fun i hi => by rw [upd_ne _ _ (by have := G.s1; omega)]; exact h.wk i hi
          mode := hmode.reopen trivial trivial rfl (by simp)
          acq := fun e => by cases e }
      have key : ∃ m₁ ops μ', runT H.P (crowd gs w sl) 0 = (.next m₁, ops) ∧ MLt H μ' (phi H.n (Vc H.n D) .w1 + Ssum H.n D, upd F 0 T1, fl .w1) ∧ Inv H AnchW Out W0 μ' m₁ (t ++ ops) := by
        rcases hk.inv rf with hst2 | ⟨_, T', a', w', es, hT, hgo, hd, hw'⟩
        · exact w1S G fo hn hp1 (hst2 w (rf _ _))
        · exact idleS G fo hp1 hgo hd (.w1 hw') (by rw [upd_same]; exact hT)
      obtain ⟨m₁, ops, μ', h1, h2, h3⟩ := key;exact ⟨m₁, ops, μ', h1, mlt_less h2 (by simp only [phi]; omega), h3⟩
    · exact idleS G fo h hgo hd (.anch hw') (by rw [hF]; exact hT)
  | w1 hw =>
    rcases hw.inv rf with hstop | ⟨_, T', a', w', es, hT, hgo, hd, hw'⟩
    · exact w1S G fo hn h (hstop w (rf _ _))
    · exact idleS G fo h hgo hd (.w1 hw') (by rw [hF]; exact hT)
  | @w2 vs _ _ _ _ hw =>
    rcases hw.inv rf with hstop | ⟨_, T', a', w', es, hT, hgo, hd, hw'⟩
    · obtain ⟨_, hall⟩ := hstop w (rf _ _)
      obtain ⟨ho, rfl, rfl, hw2⟩ := hmode.open_inv trivial;obtain ⟨hle, h1⟩ := hw2 vs rfl;obtain ⟨hhit, hmiss⟩ := hall (Vc H.n D) (by omega) (by simpa [pend] using hwg);by_cases e : Vc H.n D = vs
      · obtain ⟨a', hgo, hk⟩ := hhit e
        obtain ⟨T', hk⟩ := WayG.tree hk;exact bookS G fo h hgo (aside_setCell w (stA H.Wg) _) (hwg.setSt _) bk2 (.w3 hk) (.reg trivial ho (by omega)) (by simp) (.inl (by simp only [phi]; omega))
      · obtain ⟨a', hgo, hk⟩ := hmiss e
        obtain ⟨T', hk⟩ := WayG.tree hk;exact bookS G fo h hgo (.refl H.Wg w) hwg (bk1 (bk_cell (H := H) _ _ rfl)) (.anch hk) (hmode.reopen trivial trivial rfl (by simp)) (by simp) (.inl (by simp only [phi]; omega))
    · exact idleS G fo h hgo hd (.w2 hw') (by rw [hF]; exact hT)
  | w3 hw =>
    rcases hw.inv rf with hstop | ⟨_, T', a', w', es, hT, hgo, hd, hw'⟩
    · obtain ⟨_, hoff, hblk, htake⟩ := hstop w (rf _ _)
      have blk : Go.ConcN.Mode H.n D .blk st sm → (∃ st, WgAt H.ty H.Wg w st 0) → ∃ m₁ ops μ', runT H.P (crowd gs w sl) 0 = (.next m₁, ops) ∧ MLt H μ' (phi H.n (Vc H.n D) .w3 + Ssum H.n D, F, fl .w3) ∧ Inv H AnchW Out W0 μ' m₁ (t ++ ops) :=
        fun hm hx => bookS (T' := T) (tag' := .blk) G fo h (hblk hx) (.refl H.Wg w) hwg (by simp) (.blk hstop) hm (by simp) (.inr ⟨rfl, .inr ⟨hF.symm, by decide⟩⟩)
      cases hmode with
      | opn h1 _ _ => exact h1.elim
      | reg h1 h2 h3 => exact blk (.reg trivial h2 h3) ⟨_, hwg⟩
      | last L h1 h2 h3 h4 => exact blk (.last L trivial h2 h3 h4) ⟨_, hwg⟩
      | sema h2 =>
        obtain ⟨a', hgo, hk⟩ := htake hwg;obtain ⟨T', hk⟩ := WayG.tree hk;exact bookS G fo h hgo (aside_setCell w (smA H.Wg) _) (hwg.setSm 0) bks (.w4 hk) (.fin trivial h2) (by simp) (.inl (by simp only [phi]; omega))
      | fin h1 _ => exact h1.elim
    · exact idleS G fo h hgo hd (.w3 hw') (by rw [hF]; exact hT)
  | blk hw => simp at hrun
  | w4 hw =>
    rcases hw.inv rf with hstop | ⟨_, T', a', w', es, hT, hgo, hd, hw'⟩
    · obtain ⟨_, hx⟩ := hstop w (rf _ _)
      obtain ⟨hq, rfl, rfl⟩ := hmode.fin_inv trivial;obtain ⟨a', hgo, hk⟩ := hx hwg;obtain ⟨T', hk⟩ := WayG.tree hk;exact bookS G fo h hgo (.refl H.Wg w) hwg (bk1 (bk_cell (H := H) _ _ rfl)) (.ke hk) (.fin trivial hq) (by simp) (.inl (by simp only [phi]; omega))
    · exact idleS G fo h hgo hd (.w4 hw') (by rw [hF]; exact hT)
  | ke hw =>
    rcases hw.inv rf with hstop | ⟨_, T', a', w', es, hT, hgo, hd, hw'⟩
    · obtain ⟨_, a', hgo, hk⟩ := hstop w (rf _ _)
      obtain ⟨hq, rfl, rfl⟩ := hmode.fin_inv trivial;obtain ⟨T', hk⟩ := WayG.tree hk;exact bookS G fo h hgo (.refl H.Wg w) hwg (bk1 (.inr (.inl rfl))) (.acq hk) (.fin trivial hq) (by simp) (.inl (by simp only [phi]; omega))
    · exact idleS G fo h hgo hd (.ke hw') (by rw [hF]; exact hT)
  | acq hw =>
    rcases hw.inv rf with hstop | ⟨_, T', a', w', es, hT, hgo, hd, hw'⟩
    · obtain ⟨_, a', hgo, hk⟩ := hstop w (rf _ _)
      obtain ⟨hq, rfl, rfl⟩ := hmode.fin_inv trivial;refine starterMove (tag' := .ret) (T' := .leaf) G fo h hgo (.aside (.refl H.Wg w) ⟨_, _, hwg⟩ h.pay G.ne) (by rw [Plus.same rfl]; exact .ret hk) (ok0_none (by intro e he; simp at he; subst he; rfl))
        (by intro e he; simp at he; subst he; exact ⟨fun x hx => (by simp [mk, MemAct.ofEvent, MemAct.touch?] at hx), by simp [mk]⟩) hwg (.fin trivial hq) (fun _ => ?_) (.inl (by simp only [phi]; omega))
      have e1 : MemOp.ofEvents 0 a.frame.fn a.frame.place #[mk (.acquire (stA H.Wg))] = #[{ g := 0, fn := a.frame.fn, pos := a.frame.place, act := .mark (.acquire (stA H.Wg)) }] := by rw [ofEvents_eq]; simp [ofEvent_mk]
      have hy : (t ++ #[({ g := 0, fn := a.frame.fn, pos := a.frame.place, act := .mark (.acquire (stA H.Wg)) } : MemOp)])[t.size]? = some { g := 0, fn := a.frame.fn, pos := a.frame.place, act := .mark (.acquire (stA H.Wg)) } := by simp
      refine ⟨t.size, by rw [e1, act?_of hy], by rw [e1]; simp [Trace.g?], by rw [e1]; exact ⟨0, by simp [Trace.g?], by rw [deaf_old (Nat.le_refl _)]; exact h.deaf0⟩, fun i hi => ?_⟩;obtain ⟨r, hr⟩ := h.rel i hi (by rw [hq i hi]; omega)
      exact ⟨r, relApp hr (by have := G.s1; omega), lt_of_act? hr.act⟩
    · exact idleS G fo h hgo hd (.acq hw') (by rw [hF]; exact hT)
  | ret hw => exact absurd rfl hr
theorem someoneRuns (hA:∀ o g w,AnchW o g w→g.status = .running) (hO:∀ o g w,Out o g w→g.status = .running) (h:PInv H AnchW Out W0 j gs w t D F tag d0 ow X O O0 a st sm) :
  ∃ (i:Nat) (g:Goroutine),gs[i]?=some g∧g.status = .running:=by
 have wr:∀ i,i<j→(D i).stage ≠ 1→∃ (i:Nat) (g:Goroutine),gs[i]?=some g∧g.status = .running:=fun i hi hs=>by
  obtain ⟨g,hg,hw⟩:=h.wk i hi;exact ⟨_,g,hg,hw.status.resolve_right fun x=>hs x.2⟩
 rcases h.cs.status hA hO with ⟨hs,_⟩ | ⟨_,rfl⟩
 ·exact ⟨0,a,h.a0,hs⟩
 ·cases h.mode with
  | opn h1 _ _=>exact h1.elim
  | reg _ _ h3 =>
   obtain ⟨i,hi,h5⟩:=Go.ConcN.exists_counted h3;exact wr i hi (by omega)
  | last L _ h2 h3 _=>exact wr L h2 (by omega)
  | fin h1 _=>exact h1.elim
theorem allAwake (hA:∀ o g w,AnchW o g w→g.status = .running) (hO:∀ o g w,Out o g w→g.status = .running) (h:PInv H AnchW Out W0 j gs w t D F tag d0 ow X O O0 a st sm):∀ g ∈ gs,awake g:=by
 intro g hg tm;obtain ⟨i,hi⟩:=Array.mem_iff_getElem?.1 hg;by_cases h0:i=0
 ·subst h0
  rw [h.a0] at hi; cases hi;rcases h.cs.status hA hO with ⟨hs,_⟩ | ⟨hs,_⟩ <;> rw [hs] <;> simp
 ·rcases Nat.lt_or_ge i H.s with hlt | hge
  ·obtain ⟨q,_,hq⟩:=h.old i (by omega) hlt g hi
   rcases hq.status with hs | hs <;> rw [hs] <;> simp
  ·have hlt:i - H.s<j:=by have:=(Array.getElem?_eq_some_iff.1 hi).1; rw [h.size] at this; omega
   obtain ⟨g',hg',hs⟩:=h.wk (i - H.s) hlt;rw [show H.s+(i - H.s)=i by omega,hi] at hg'; cases hg';rcases hs.status with hs | ⟨hs,_⟩ <;> rw [hs] <;> simp
theorem phase_step (G:Geo H) (fo:FinOk H) (hn:H.n<2147483648) (hA:∀ o g w,AnchW o g w→g.status = .running) (hO:∀ o g w,Out o g w→g.status = .running) (hAn:∀ o g w,AnchW o g w→SW H (SW1 H AnchW Out) o g w)
  (h:PInv H AnchW Out W0 j gs w t D F tag d0 ow X O O0 a st sm) (hr:tag ≠ .ret) :
  ∃ m₁ ops μ',stepT H.P (crowd gs w sl)=(.next m₁,ops)∧MLt H μ' (phi H.n (Vc j D) tag+Ssum j D,F,fl tag)∧Inv H AnchW Out W0 μ' m₁ (t ++ ops):=by
 obtain ⟨i,g,d,sl',hg,hrun,hstep⟩:=crowd_pick (P:=H.P) (w:=w) (sl:=sl) (allAwake hA hO h) (someoneRuns hA hO h);rw [hstep];have hd:=h.at fo d;by_cases h0:i=0
 ·subst h0
  rw [h.a0] at hg; cases hg;exact stepStarter G fo hn hAn hd hrun hr
 ·rcases Nat.lt_or_ge i H.s with hlt | hge
  ·exact leaverMove G hA hO hd (by omega) hlt hg hrun
  ·have hlt:i - H.s<j:=by have:=(Array.getElem?_eq_some_iff.1 hg).1; rw [h.size] at this; omega
   rw [show i=H.s+(i - H.s) by omega] at hg ⊢;exact stepWorker G fo hn hA hO hd hlt hg hrun
theorem phase_runs (G:Geo H) (fo:FinOk H) (hn:H.n<2147483648) (hA:∀ o g w,AnchW o g w→g.status = .running) (hO:∀ o g w,Out o g w→g.status = .running) (hAn:∀ o g w,AnchW o g w→SW H (SW1 H AnchW Out) o g w) :
  ∀ (μ:Mu) (m:Machine) (t:Trace),Inv H AnchW Out W0 μ m t→∃ N m' t',runNT H.P N m t=(.next m',t') ∧
   ∃ j gs w sl D F d0 ow X O O0 a st sm,m'=crowd gs w sl∧PInv H AnchW Out W0 j gs w t' D F .ret d0 ow X O O0 a st sm:=by
 intro μ;induction μ using (MLt.wf H).induction with
 | _ μ ih =>
  intro m t hI;obtain ⟨gs,w,sl,j,D,F,tag,d0,ow,X,O,O0,a,st,sm,rfl,hp,rfl⟩:=hI;by_cases hr:tag = .ret
  ·subst hr
   exact ⟨0,_,t,rfl,j,gs,w,sl,D,F,d0,ow,X,O,O0,a,st,sm,rfl,hp⟩
  ·obtain ⟨m₁,ops,μ',h1,h2,h3⟩:=phase_step (sl:=sl) G fo hn hA hO hAn hp hr
   obtain ⟨N,m',t',e1,e2⟩:=ih μ' h2 m₁ _ h3;exact ⟨N+1,m',t',by rw [runNT_succ_next h1]; exact e1,e2⟩
theorem WS.quits {ro:Bl} {i s d:Nat} {T:Tree} {own:Bl} {g:Goroutine} {w:World} (h:WS H ro i s T d own g w) (hs:s=1):∃ q,QuitsD H.P q d g:=by
 cases h <;> first | (exact absurd hs (by decide)) | exact ⟨_,‹_›⟩
structure Calm (P:Program) (SB:Bl) (gs:Array Goroutine) (w:World) (t:Trace):Prop where
 old:∀ i g,0<i→gs[i]?=some g→∃ q,QuitsD P q (Deaf t i) g
 above:∀ k,gs.size≤k→Deaf t k=0
 past:PastO SB t
 seen:Seen w.heap.size t
 norel:NoRel t
 sb:∀ b,SB b→b<w.heap.size
theorem phase_calm (G:Geo H) {gs:Array Goroutine} (h:PInv H AnchW Out W0 j gs w t D F .ret d0 ow X O O0 a st sm) :
  Calm H.P (fun b=>H.SB b ∨ b=H.Wg) gs w t∧gs[0]?=some a∧Out O0 a w∧gs.size=H.s+H.n∧(∀ i,i<H.n→∃ v,Has H.C i v w∧H.fin i (O i) v w)∧PayAt H.C H.n w∧WgAt H.ty H.Wg w 0 0∧Stays (St0 H) W0 w∧(∀ i,i<H.n→∀ b,O i b→H.B0≤b∧b<w.heap.size)∧(∀ b,O0 b→H.B0≤b∧b<w.heap.size):=by
 obtain ⟨hq,rfl,rfl⟩:=h.mode.fin_inv trivial;have hj:j=H.n∧d0=0∧Out O0 a w:=by
  generalize hF:F 0=T at *
  have hcs:=h.cs;rw [hF] at hcs;cases hcs with
  | ret hw=>exact ⟨rfl,rfl,hw w (RelyS.refl H _ _)⟩
 obtain ⟨rfl,rfl,hsw⟩:=hj;obtain ⟨q,h1,h2,h3,h4⟩:=h.acq rfl;refine ⟨⟨fun i g hi hg => ?_,fun k hk=>h.above k (by rw [h.size] at hk; exact hk),?_,h.seen,h.norel,?_⟩,h.a0,hsw,h.size,fun i hi=>h.has i hi (by rw [hq i hi]; omega),h.pay,h.wg,h.base,fun i hi b hb => ?_,fun b hb => ?_⟩
 ·rcases Nat.lt_or_ge i H.s with hlt | hge
  ·obtain ⟨q,_,hq⟩:=h.old i hi hlt g hg
   exact ⟨q,hq⟩
  ·have hlt:i - H.s<H.n:=by have:=(Array.getElem?_eq_some_iff.1 hg).1; rw [h.size] at this; omega
   obtain ⟨g',hg',hs⟩:=h.wk (i - H.s) hlt;rw [show H.s+(i - H.s)=i by omega,hg] at hg'; cases hg';obtain ⟨q,hq'⟩:=hs.quits (hq _ hlt);have:=h.deafW (i - H.s) hlt;rw [show H.s+(i - H.s)=i by omega] at this;exact ⟨q,by rw [this]; exact hq'⟩
 ·exact h.ti.finish G h.deaf0 (fun i hi=>by
   obtain ⟨op,ho,hoa⟩:=Option.map_eq_some_iff.1 hi;exact h.norel op (Array.mem_of_getElem? ho) _ hoa) h1 h2 h3 h4
 ·rintro b (hb | rfl)
  ·have:=G.sB b hb; have:=h.b0; omega
  ·have:=G.wg; have:=h.b0; omega
 ·obtain ⟨h1,h2,_⟩:=h.olt i hi b hb; exact ⟨h1,h2⟩
 ·obtain ⟨h1,h2,_⟩:=h.o0 b hb; exact ⟨h1,h2⟩
end
end Rn
section
abbrev wgLink:Go.Conc.Lib.WgLink := { add:=83,done:=85,wait:=87,relMerge:=121,disable:=122,enable:=123,inBubble:=124,associate:=125,fatal:=126,uOr:=127,uAdd:=128,raceRead:=129,uLoad:=130,uStore:=131,disassociate:=132,semrelease:=133,acquire:=135,isAssociated:=136,uCas:=137,raceWrite:=138,semacquire:=139,orU64:=154,addU64:=155,loadU64:=156,storeU64:=157,casU64:=161,tWgP:=155,tUP:=157,tAssoc:=159,tWg:=117,tAU:=114,tU64:=112,tUint:=89,tU32:=115,tPU32:=163,tPAU:=181,tPU64:=183,tNoCopy:=109,tANoCopy:=110,tAlign64:=111 }
theorem wgLib:Go.Conc.Lib.WgLib Tryz.prog wgLink :=
 ⟨Tryz.func83,Tryz.func85,Tryz.func87,Tryz.func121,Tryz.func122,Tryz.func123,Tryz.func124,Tryz.func125,Tryz.func126,Tryz.func127,Tryz.func128,Tryz.func129,Tryz.func130,Tryz.func131,Tryz.func132,Tryz.func133,Tryz.func135,Tryz.func136,Tryz.func137,Tryz.func138,Tryz.func139,Tryz.func154,Tryz.func155,Tryz.func156,Tryz.func157,Tryz.func161,Tryz.underlying155,Tryz.runUnderlying155,Tryz.sizeOf155,Tryz.isAgg155,Tryz.zeroValue155,Tryz.underlying157,Tryz.runUnderlying157,Tryz.sizeOf157,Tryz.isAgg157,Tryz.zeroValue157,Tryz.underlying159,Tryz.runUnderlying159,Tryz.sizeOf159,Tryz.isAgg159,Tryz.zeroValue159,Tryz.underlying117,Tryz.runUnderlying117,Tryz.sizeOf117,Tryz.isAgg117,Tryz.zeroValue117,Tryz.underlying114,Tryz.runUnderlying114,Tryz.sizeOf114,Tryz.isAgg114,Tryz.zeroValue114,Tryz.underlying112,Tryz.runUnderlying112,Tryz.sizeOf112,Tryz.isAgg112,Tryz.zeroValue112,Tryz.underlying89,Tryz.runUnderlying89,Tryz.sizeOf89,Tryz.isAgg89,Tryz.zeroValue89,Tryz.underlying115,Tryz.runUnderlying115,Tryz.sizeOf115,Tryz.isAgg115,Tryz.zeroValue115,Tryz.underlying163,Tryz.runUnderlying163,Tryz.sizeOf163,Tryz.isAgg163,Tryz.zeroValue163,Tryz.underlying181,Tryz.runUnderlying181,Tryz.sizeOf181,Tryz.isAgg181,Tryz.zeroValue181,Tryz.underlying183,Tryz.runUnderlying183,Tryz.sizeOf183,Tryz.isAgg183,Tryz.zeroValue183,Tryz.underlying0,Tryz.runUnderlying0,Tryz.sizeOf0,Tryz.isAgg0,Tryz.zeroValue0,Tryz.underlying3,Tryz.runUnderlying3,Tryz.sizeOf3,Tryz.isAgg3,Tryz.zeroValue3,Tryz.underlying4,Tryz.runUnderlying4,Tryz.sizeOf4,Tryz.isAgg4,Tryz.zeroValue4,Tryz.underlying9,Tryz.runUnderlying9,Tryz.sizeOf9,Tryz.isAgg9,Tryz.zeroValue9,Tryz.underlying20,Tryz.runUnderlying20,Tryz.sizeOf20,Tryz.isAgg20,Tryz.zeroValue20,Tryz.underlying21,Tryz.runUnderlying21,Tryz.sizeOf21,Tryz.isAgg21,Tryz.zeroValue21,(by kernel_rfl),(by kernel_rfl)⟩
instance payThr : Go.ConcR.Payload := ⟨34⟩
end
namespace Rn
open Go.Conc Go.RowKit Go.Conc.Lib Go.ConcR.Gen Go.ConcN.Gen
open Go.ConcN (WgLive PayAt Has)
open Go.ConcR (KK WgAt stA smA rd wr mk Payload DC0)
section
variable {Q : Ph} {own : Bl} {K : Bl → Goroutine → World → Prop}
theorem sw_goes {n:Nat} {g:Goroutine} {w:World} (h:Goes Q.P true (RelyS Q own) DC0 (fun g w=>SW Q K own g w) n g w):SW Q K own g w:=by
 refine (WayG.of_goes (fun _ _ x=>x) (fun w w' es (x:DC0 w w' es) => ?_) h).bind (RelyS.refl Q) (fun _ _ _ x=>x) (fun _ _ _ _ x=>x) fun o g w x => ?_
 ·obtain ⟨rfl,rfl⟩:=x
  exact ⟨DidS.quiet Q own _,rfl⟩
 ·obtain ⟨rfl,x⟩:=x
  exact x
def Keeps (Q:Ph) (own:Bl) (F:World→Prop):Prop:=∀ w w',Stays (fun b=>own b ∨ St0 Q b) w w'→F w→F w'
theorem fs_rely {F:World→Prop} (hF2:Keeps Q own F) {w w1:World} (h:F w∧WgLive Q.ty Q.Wg w) (r:RelyS Q own w w1):F w1∧WgLive Q.ty Q.Wg w1:=⟨hF2 _ _ r.stays h.1,r.live h.2⟩
theorem stays_aside (ho:¬ own Q.Wg) {w w':World} (h:Aside Q.Wg w w'):Stays (fun b=>own b ∨ St0 Q b) w w' :=
 ⟨h.tape,h.os,h.output,Nat.le_of_eq h.size.symm,fun b hb hk=>h.block b (by rintro rfl; exact hk.elim ho fun x=>x.2.1 rfl)⟩
theorem said_read (w:World) (a:Addr) (ha:a.block=Q.Wg):DidS Q own w w #[⟨.mark (.read a),false,true⟩]:=by
 refine ⟨rfl,rfl,rfl,Nat.le_refl _,fun _ _ _=>rfl,fun e he => ?_⟩;simp at he;subst he;refine ⟨fun x hx => ?_,by simp,by simp,by simp⟩;simp [MemAct.ofEvent,MemAct.touch?] at hx;subst hx;exact .inl ⟨⟨a,rfl,ha⟩,by simp⟩
theorem said_write (w:World) (a:Addr) (ha:a.block=Q.Wg):DidS Q own w w #[⟨.mark (.write a),false,true⟩]:=by
 refine ⟨rfl,rfl,rfl,Nat.le_refl _,fun _ _ _=>rfl,fun e he => ?_⟩;simp at he;subst he;refine ⟨fun x hx => ?_,by simp,by simp,by simp⟩;simp [MemAct.ofEvent,MemAct.touch?] at hx;subst hx;exact .inl ⟨⟨a,rfl,ha⟩,by simp⟩
end
section
variable {L : WgLink} {Q : Ph} {own : Bl} {F : World → Prop} {K : Bl → Goroutine → World → Prop} {b₀ : Frame} {a₀ : Act} {ops₀ : Array Oper} {i₀ : Nat} {rest₀ : List Nat} {k₀ : List Item} {cs : List Frame}
set_option maxRecDepth 100000 in
set_option maxHeartbeats 8000000 in
theorem addS (H:WgLib Q.P L) (hF2:Keeps Q own F) (ho:¬ own Q.Wg)
  (hT:∀ w,F w→WgLive Q.ty Q.Wg w→SW Q K own (G (b₀.at (a₀.put ((ops₀[i₀]?).bind (·.dst)) (.tuple #[])) (.inRegion ops₀ rest₀ :: k₀)) cs) w)
  (w:World) (hF:F w∧WgLive Q.ty Q.Wg w) :
  SW Q (Ev1 Q #[mk .disable] (SA1 Q (Ev1 Q #[mk .enable] K))) own
   (G ((base L.add).at ⟨#[.pointer (some ⟨Q.Wg,0,none⟩),.int .i64 1] ++ Array.replicate 115 undef,[]⟩ [.code (body_add L)]) (b₀.at a₀ (.inRegion ops₀ (i₀ :: rest₀) :: k₀) :: cs)) w:=by
 lib_facts
 simp only [body_add,addFn,Option.getD_some];simp only [Array.replicate,Array.append,List.replicate];refine sw_goes (n:=40) ?_;u_c stepG_seq (fs_rely hF2) hF
 u_cond true (fs_rely hF2) hF
 u_c stepG_seq (fs_rely hF2) hF
 u_c stepG_seq (fs_rely hF2) hF
 u_reg (fs_rely hF2) hF
 u_op (fs_rely hF2) hF
 u_op (fs_rely hF2) hF
 u_c stepG_region_end (fs_rely hF2) hF
 u_cond false (fs_rely hF2) hF
 u_c stepG_skip (fs_rely hF2) hF
 u_c stepG_seq (fs_rely hF2) hF
 u_reg (fs_rely hF2) hF
 refine Goes.stop (fun w₁ h₁=>WayG.stop (fun w₂ h₂ => ?_));replace hF:=fs_rely hF2 (fs_rely hF2 hF h₁) h₂
 clear h₁ h₂;refine ⟨rfl,_,stepG_mark0 .disable (by simp) rfl rfl (by k_ne) rfl H.f_disable (x_disable_n L) (x_disable_b L) (x_disable_x L) (x_disable_f L),?_⟩;walk_nrm
 refine sw_goes (n:=60) ?_;u_c stepG_region_end (fs_rely hF2) hF
 u_reg (fs_rely hF2) hF
 u_defer (fs_rely hF2) hF
 u_c stepG_region_end (fs_rely hF2) hF
 u_c stepG_seq (fs_rely hF2) hF
 u_reg (fs_rely hF2) hF
 u_op (fs_rely hF2) hF
 u_c stepG_region_end (fs_rely hF2) hF
 u_c stepG_seq (fs_rely hF2) hF
 u_c stepG_seq (fs_rely hF2) hF
 u_reg (fs_rely hF2) hF
 u_bub (fs_rely hF2) hF
 u_c stepG_region_end (fs_rely hF2) hF
 u_cond false (fs_rely hF2) hF
 u_c stepG_skip (fs_rely hF2) hF
 u_c stepG_seq (fs_rely hF2) hF
 u_reg (fs_rely hF2) hF
 u_op (fs_rely hF2) hF
 u_op (fs_rely hF2) hF
 u_op (fs_rely hF2) hF
 u_op (fs_rely hF2) hF
 u_op (fs_rely hF2) hF
 u_op (fs_rely hF2) hF
 u_call H.f_uAdd (nm_uAdd L) uAddFn (fs_rely hF2) hF
 u_c stepG_seq (fs_rely hF2) hF
 u_reg (fs_rely hF2) hF
 u_op (fs_rely hF2) hF
 u_c stepG_region_end (fs_rely hF2) hF
 u_c stepG_seq (fs_rely hF2) hF
 u_reg (fs_rely hF2) hF
 u_op (fs_rely hF2) hF
 u_op (fs_rely hF2) hF
 u_op (fs_rely hF2) hF
 u_op (fs_rely hF2) hF
 refine Goes.stop (fun w₁ h₁=>WayG.stop (fun w₂ h₂ => ?_));replace hF:=fs_rely hF2 (fs_rely hF2 hF h₁) h₂
 clear h₁ h₂;refine ⟨rfl,fun v hv hw => ?_⟩;rcases Nat.eq_zero_or_pos v with rfl | hvp
 ·replace hw:WgAt Q.ty Q.Wg w₂ 0 0:=by simpa using hw
  have z:(((0:Nat):Int)+1)*KK=KK:=by simp
  rw [z];have e0:IntKind.u64.wrap (0+4294967296)=KK:=by decide
  refine ⟨_,(stepG_add_atomic rfl rfl (by k_ne) rfl H.f_addU64 (x_addU64_n L) (x_addU64_b L) (x_addU64_x L) .u64 (x_addU64_f L) rfl rfl hw.cellSt (hw.thaw 0)).trans (by rw [e0]; rfl),?_⟩
  replace hF:F (w₂.setCell (stA Q.Wg) (.int .u64 KK))∧WgLive Q.ty Q.Wg (w₂.setCell (stA Q.Wg) (.int .u64 KK)):=⟨hF2 _ _ (stays_aside ho (aside_setCell w₂ (stA Q.Wg) _)) hF.1,⟨_,_,hw.setSt _⟩⟩
  clear hw;simp only [KK] at hF ⊢;walk_nrm
  refine sw_goes (n:=110) ?_;u_op (fs_rely hF2) hF
  u_c stepG_region_end (fs_rely hF2) hF
  u_c stepG_ret' (fs_rely hF2) hF
  u_leave1 H.f_uAdd (fs_rely hF2) hF
  u_op (fs_rely hF2) hF
  u_c stepG_region_end (fs_rely hF2) hF
  u_c stepG_seq (fs_rely hF2) hF
  u_c stepG_seq (fs_rely hF2) hF
  u_reg (fs_rely hF2) hF
  u_op (fs_rely hF2) hF
  u_op (fs_rely hF2) hF
  u_op (fs_rely hF2) hF
  u_op (fs_rely hF2) hF
  u_skip (fs_rely hF2) hF
  u_skip (fs_rely hF2) hF
  u_op (fs_rely hF2) hF
  u_c stepG_region_end (fs_rely hF2) hF
  u_cond false (fs_rely hF2) hF
  u_c stepG_skip (fs_rely hF2) hF
  u_c stepG_seq (fs_rely hF2) hF
  u_reg (fs_rely hF2) hF
  u_op (fs_rely hF2) hF
  u_op (fs_rely hF2) hF
  u_op (fs_rely hF2) hF
  u_op (fs_rely hF2) hF
  u_c stepG_region_end (fs_rely hF2) hF
  u_c stepG_seq (fs_rely hF2) hF
  u_reg (fs_rely hF2) hF
  u_op (fs_rely hF2) hF
  u_op (fs_rely hF2) hF
  u_op (fs_rely hF2) hF
  u_op (fs_rely hF2) hF
  u_c stepG_region_end (fs_rely hF2) hF
  u_c stepG_seq (fs_rely hF2) hF
  u_c stepG_seq (fs_rely hF2) hF
  u_reg (fs_rely hF2) hF
  u_op (fs_rely hF2) hF
  u_op (fs_rely hF2) hF
  u_op (fs_rely hF2) hF
  u_op (fs_rely hF2) hF
  u_op (fs_rely hF2) hF
  u_op (fs_rely hF2) hF
  u_op (fs_rely hF2) hF
  u_op (fs_rely hF2) hF
  u_op (fs_rely hF2) hF
  u_op (fs_rely hF2) hF
  u_c stepG_region_end (fs_rely hF2) hF
  u_cond true (fs_rely hF2) hF
  u_reg (fs_rely hF2) hF
  u_op (fs_rely hF2) hF
  u_op (fs_rely hF2) hF
  u_op (fs_rely hF2) hF
  u_in (fs_rely hF2) hF
  refine goes_oper_k rfl rfl (by k_ne) (fun Kx hKx => ?_);have hcv:=run_convert_to_unsafe (P:=Q.P) H.underlying_tPU32 H.underlying_tUP H.room_tU32 (WgLive.cell1 hF.2).choose_spec;have hce:=fun es=>events_convert_to_unsafe (P:=Q.P) H.underlying_tPU32 H.underlying_tUP H.room_tU32 (WgLive.cell1 hF.2).choose_spec es
  go_simp
  refine hKx _ _ ⟨?_,?_⟩
  ·u_none
   intro ex hex;have hmx:=mem_listed hex;simp [go_sem,hce] at hmx
  clear hKx Kx hcv hce;refine Goes.stop (fun w₁ h₁=>WayG.next rfl (fun w₂ h₂ => ?_));replace hF:=fs_rely hF2 (fs_rely hF2 hF h₁) h₂
  clear h₁ h₂;refine ⟨_,_,_,stepG_markAt .read (by simp) rfl rfl (by k_ne) rfl H.f_raceRead (x_raceRead_n L) (x_raceRead_b L) (x_raceRead_x L) (x_raceRead_f L) (ad:=⟨Q.Wg,1,none⟩) (by simp [Act.eval]),said_read w₂ ⟨Q.Wg,1,none⟩ rfl,?_⟩;rw [Plus.same rfl];walk_nrm
  refine sw_goes (n:=80) ?_;u_c stepG_region_end (fs_rely hF2) hF
  u_c stepG_seq (fs_rely hF2) hF
  u_c stepG_seq (fs_rely hF2) hF
  u_reg (fs_rely hF2) hF
  u_op (fs_rely hF2) hF
  u_op (fs_rely hF2) hF
  u_c stepG_region_end (fs_rely hF2) hF
  u_cond false (fs_rely hF2) hF
  u_c stepG_skip (fs_rely hF2) hF
  u_c stepG_seq (fs_rely hF2) hF
  u_c stepG_seq (fs_rely hF2) hF
  u_reg (fs_rely hF2) hF
  u_op (fs_rely hF2) hF
  u_op (fs_rely hF2) hF
  u_op (fs_rely hF2) hF
  u_skip (fs_rely hF2) hF
  u_skip (fs_rely hF2) hF
  u_op (fs_rely hF2) hF
  u_op (fs_rely hF2) hF
  u_skip (fs_rely hF2) hF
  u_skip (fs_rely hF2) hF
  u_skip (fs_rely hF2) hF
  u_skip (fs_rely hF2) hF
  u_op (fs_rely hF2) hF
  u_c stepG_region_end (fs_rely hF2) hF
  u_cond false (fs_rely hF2) hF
  u_c stepG_skip (fs_rely hF2) hF
  u_c stepG_seq (fs_rely hF2) hF
  u_c stepG_seq (fs_rely hF2) hF
  u_reg (fs_rely hF2) hF
  u_op (fs_rely hF2) hF
  u_op (fs_rely hF2) hF
  u_op (fs_rely hF2) hF
  u_skip (fs_rely hF2) hF
  u_skip (fs_rely hF2) hF
  u_op (fs_rely hF2) hF
  u_c stepG_region_end (fs_rely hF2) hF
  u_cond true (fs_rely hF2) hF
  u_c stepG_ret' (fs_rely hF2) hF
  refine Goes.stop (fun w₁ h₁=>WayG.stop (fun w₂ h₂ => ?_));replace hF:=fs_rely hF2 (fs_rely hF2 hF h₁) h₂
  clear h₁ h₂;refine ⟨rfl,_,stepG_unwind_entry (v := .tuple #[]) (evs := #[mk .enable]) rfl H.f_enable (x_enable_n L) (x_enable_b L) (x_enable_x L) (x_enable_f L) (by simp [Extern.Race.none_]) (by simp [mk]) (by simp [mk]),?_⟩;refine sw_goes (n:=2) ?_;u_leave0 H.f_add (fs_rely hF2) hF
  exact Goes.stop fun w₁ h₁=>hT _ (fs_rely hF2 hF h₁).1 (fs_rely hF2 hF h₁).2
 ·obtain ⟨V,hV⟩:∃ V:Int,V=(v:Int)+1:=⟨_,rfl⟩
  obtain ⟨S,hS⟩:∃ S:Int,S=V*KK:=⟨_,rfl⟩;have eS:IntKind.u64.wrap ((v:Int)*KK+4294967296)=S:=by rw [IntKind.wrap_u64,hS,hV]; simp only [KK]; omega
  rw [← hV,← hS];have a1:S / 4294967296=V:=by rw [hS]; simp only [KK]; omega
  have b1:bits .and .u64 S 2147483648=0:=by rw [hS,hV]; have:=Go.ConcN.st_flag (v+1) 0 (by omega) (by omega); simpa [KK] using this
  have b2:bits .and .u64 S 2147483647=0:=by rw [hS,hV]; have:=Go.ConcN.st_waiters (v+1) 0 (by omega) (by omega); simpa [KK] using this
  have c1:IntKind.i32.wrap V=V:=by rw [IntKind.wrap_i32]; omega
  have hV1:1<V:=by omega
  have hV2:V<2147483648:=by omega
  have q1:(V == 1)=false:=by simp; omega
  have q2:decide (V=1)=false:=decide_eq_false (by omega);have q3:decide (V<0)=false:=decide_eq_false (by omega);have q4:decide (0<V)=true:=decide_eq_true (by omega);have q5:(V == 0)=false:=by simp; omega
  have q6:decide (V=0)=false:=decide_eq_false (by omega);refine ⟨_,(stepG_add_atomic rfl rfl (by k_ne) rfl H.f_addU64 (x_addU64_n L) (x_addU64_b L) (x_addU64_x L) .u64 (x_addU64_f L) rfl rfl hw.cellSt (hw.thaw 0)).trans (by rw [eS]; rfl),?_⟩
  replace hF:F (w₂.setCell (stA Q.Wg) (.int .u64 S))∧WgLive Q.ty Q.Wg (w₂.setCell (stA Q.Wg) (.int .u64 S)):=⟨hF2 _ _ (stays_aside ho (aside_setCell w₂ (stA Q.Wg) _)) hF.1,⟨_,_,hw.setSt _⟩⟩
  clear hw hS hV eS;walk_nrm
  refine sw_goes (n:=110) ?_;u_op (fs_rely hF2) hF
  u_c stepG_region_end (fs_rely hF2) hF
  u_c stepG_ret' (fs_rely hF2) hF
  u_leave1 H.f_uAdd (fs_rely hF2) hF
  u_op (fs_rely hF2) hF
  u_c stepG_region_end (fs_rely hF2) hF
  u_c stepG_seq (fs_rely hF2) hF
  u_c stepG_seq (fs_rely hF2) hF
  u_reg (fs_rely hF2) hF
  u_op (fs_rely hF2) hF
  u_op (fs_rely hF2) hF
  u_op (fs_rely hF2) hF
  u_op (fs_rely hF2) hF
  u_skip (fs_rely hF2) hF
  u_skip (fs_rely hF2) hF
  u_op (fs_rely hF2) hF
  u_c stepG_region_end (fs_rely hF2) hF
  u_cnd false (fs_rely hF2) hF
  u_c stepG_skip (fs_rely hF2) hF
  u_c stepG_seq (fs_rely hF2) hF
  u_reg (fs_rely hF2) hF
  u_op (fs_rely hF2) hF
  u_op (fs_rely hF2) hF
  u_op (fs_rely hF2) hF
  u_op (fs_rely hF2) hF
  u_c stepG_region_end (fs_rely hF2) hF
  u_c stepG_seq (fs_rely hF2) hF
  u_reg (fs_rely hF2) hF
  u_op (fs_rely hF2) hF
  u_op (fs_rely hF2) hF
  u_op (fs_rely hF2) hF
  u_op (fs_rely hF2) hF
  u_c stepG_region_end (fs_rely hF2) hF
  u_c stepG_seq (fs_rely hF2) hF
  u_c stepG_seq (fs_rely hF2) hF
  u_reg (fs_rely hF2) hF
  u_op (fs_rely hF2) hF
  u_op (fs_rely hF2) hF
  u_op (fs_rely hF2) hF
  u_op (fs_rely hF2) hF
  u_op (fs_rely hF2) hF
  u_op (fs_rely hF2) hF
  u_op (fs_rely hF2) hF
  u_op (fs_rely hF2) hF
  u_op (fs_rely hF2) hF
  u_op (fs_rely hF2) hF
  u_c stepG_region_end (fs_rely hF2) hF
  u_cnd false (fs_rely hF2) hF
  u_c stepG_skip (fs_rely hF2) hF
  u_c stepG_seq (fs_rely hF2) hF
  u_c stepG_seq (fs_rely hF2) hF
  u_reg (fs_rely hF2) hF
  u_op (fs_rely hF2) hF
  u_op (fs_rely hF2) hF
  u_c stepG_region_end (fs_rely hF2) hF
  u_cnd false (fs_rely hF2) hF
  u_c stepG_skip (fs_rely hF2) hF
  u_c stepG_seq (fs_rely hF2) hF
  u_c stepG_seq (fs_rely hF2) hF
  u_reg (fs_rely hF2) hF
  u_op (fs_rely hF2) hF
  u_op (fs_rely hF2) hF
  u_op (fs_rely hF2) hF
  u_skip (fs_rely hF2) hF
  u_skip (fs_rely hF2) hF
  u_op (fs_rely hF2) hF
  u_op (fs_rely hF2) hF
  u_skip (fs_rely hF2) hF
  u_skip (fs_rely hF2) hF
  u_skip (fs_rely hF2) hF
  u_skip (fs_rely hF2) hF
  u_op (fs_rely hF2) hF
  u_c stepG_region_end (fs_rely hF2) hF
  u_cnd false (fs_rely hF2) hF
  u_c stepG_skip (fs_rely hF2) hF
  u_c stepG_seq (fs_rely hF2) hF
  u_c stepG_seq (fs_rely hF2) hF
  u_reg (fs_rely hF2) hF
  u_op (fs_rely hF2) hF
  u_op (fs_rely hF2) hF
  u_op (fs_rely hF2) hF
  u_skip (fs_rely hF2) hF
  u_skip (fs_rely hF2) hF
  u_op (fs_rely hF2) hF
  u_c stepG_region_end (fs_rely hF2) hF
  u_cnd true (fs_rely hF2) hF
  u_c stepG_ret' (fs_rely hF2) hF
  refine Goes.stop (fun w₁ h₁=>WayG.stop (fun w₂ h₂ => ?_));replace hF:=fs_rely hF2 (fs_rely hF2 hF h₁) h₂
  clear h₁ h₂;refine ⟨rfl,_,stepG_unwind_entry (v := .tuple #[]) (evs := #[mk .enable]) rfl H.f_enable (x_enable_n L) (x_enable_b L) (x_enable_x L) (x_enable_f L) (by simp [Extern.Race.none_]) (by simp [mk]) (by simp [mk]),?_⟩;refine sw_goes (n:=2) ?_;u_leave0 H.f_add (fs_rely hF2) hF
  exact Goes.stop fun w₁ h₁=>hT _ (fs_rely hF2 hF h₁).1 (fs_rely hF2 hF h₁).2
end
end Rn
namespace Rn
open Go.Conc Go.RowKit Go.Conc.Lib Go.ConcR.Gen Go.ConcN.Gen
open Go.ConcN (WgLive PayAt Has)
open Go.ConcR (KK WgAt stA smA rd wr mk Payload DC0)
def Anch (L:WgLink) (Q:Ph) (F:World→Prop) (own:Bl) (c:Frame) (cs:List Frame) (o:Bl) (g:Goroutine) (w:World):Prop :=
 o=own∧∃ T:Array Value,g=G ((base L.wait).at ⟨T,[]⟩ [.code (L7 L),.inLoop (L7 L),.inBlock 0]) (c :: cs)∧T.size=84∧T[0]?=some (.pointer (some ⟨Q.Wg,0,none⟩))∧F w∧WgLive Q.ty Q.Wg w
theorem Anch.running {L:WgLink} {Q:Ph} {F:World→Prop} {own:Bl} {c:Frame} {cs:List Frame} (o:Bl) (g:Goroutine) (w:World) (h:Anch L Q F own c cs o g w):g.status = .running:=by
 obtain ⟨_,T,rfl,_⟩:=h;rfl
section
variable {L : WgLink} {Q : Ph} {own : Bl} {F : World → Prop} {b₀ : Frame} {a₀ : Act} {ops₀ : Array Oper} {i₀ : Nat} {rest₀ : List Nat} {k₀ : List Item} {cs : List Frame}
set_option maxRecDepth 100000 in
set_option maxHeartbeats 8000000 in
theorem waitS (H:WgLib Q.P L) (hF2:Keeps Q own F) (w:World) (hF:F w∧WgLive Q.ty Q.Wg w) :
  SW Q (SKd Q (Anch L Q F own (b₀.at a₀ (.inRegion ops₀ (i₀ :: rest₀) :: k₀)) cs)) own
   (G ((base L.wait).at ⟨#[.pointer (some ⟨Q.Wg,0,none⟩)] ++ Array.replicate 83 undef,[]⟩ [.code (body_wait L)]) (b₀.at a₀ (.inRegion ops₀ (i₀ :: rest₀) :: k₀) :: cs)) w:=by
 lib_facts
 simp only [body_wait,waitFn,Option.getD_some];simp only [Array.replicate,Array.append,List.replicate];refine sw_goes (n:=3) ?_;u_c stepG_seq (fs_rely hF2) hF
 u_cond true (fs_rely hF2) hF
 u_reg (fs_rely hF2) hF
 refine Goes.stop (fun w₁ h₁=>WayG.stop (fun w₂ h₂ => ?_));replace hF:=fs_rely hF2 (fs_rely hF2 hF h₁) h₂
 clear h₁ h₂;refine ⟨rfl,_,stepG_mark0 .disable (by simp) rfl rfl (by k_ne) rfl H.f_disable (x_disable_n L) (x_disable_b L) (x_disable_x L) (x_disable_f L),?_⟩;walk_nrm
 refine sw_goes (n:=3) ?_;u_c stepG_region_end (fs_rely hF2) hF
 u_c stepG_block (fs_rely hF2) hF
 u_c stepG_loop (fs_rely hF2) hF
 exact Goes.stop fun w₁ h₁=>WayG.stop fun w₂ h₂=>⟨rfl,_,rfl,by simp,by simp,fs_rely hF2 (fs_rely hF2 hF h₁) h₂⟩
set_option maxRecDepth 100000 in
set_option maxHeartbeats 16000000 in
theorem waitR (H:WgLib Q.P L) (hF2:Keeps Q own F) (ho:¬ own Q.Wg)
  {Z:Goroutine→World→Prop} {mT:Nat} (hT:∀ w,F w→WgLive Q.ty Q.Wg w→Goes Q.P true (RelyS Q own) DC0 Z mT (G (b₀.at (a₀.put ((ops₀[i₀]?).bind (·.dst)) (.tuple #[])) (.inRegion ops₀ rest₀ :: k₀)) cs) w)
  (o:Bl) (g:Goroutine) (w:World) (h:Anch L Q F own (b₀.at a₀ (.inRegion ops₀ (i₀ :: rest₀) :: k₀)) cs o g w) :
  SW Q (SW1 Q (Anch L Q F own (b₀.at a₀ (.inRegion ops₀ (i₀ :: rest₀) :: k₀)) cs) fun o g w=>o=own∧Goes Q.P true (RelyS Q own) DC0 Z (mT+30) g w) o g w:=by
 lib_facts
 obtain ⟨rfl,T,rfl,hT84,t0,hF⟩:=h;obtain ⟨v0,v1,v2,v3,v4,v5,v6,v7,v8,v9,v10,v11,v12,v13,v14,v15,v16,v17,v18,v19,v20,v21,v22,v23,v24,v25,v26,v27,v28,v29,v30,v31,v32,v33,v34,v35,v36,v37,v38,v39,v40,v41,v42,v43,v44,v45,v46,v47,v48,v49,v50,v51,v52,v53,v54,v55,v56,v57,v58,v59,v60,v61,v62,v63,v64,v65,v66,v67,v68,v69,v70,v71,v72,v73,v74,v75,v76,v77,v78,v79,v80,v81,v82,v83,rfl⟩:=array84 T hT84;simp only [List.getElem?_toArray,List.getElem?_cons_zero,Option.some.injEq] at t0;subst t0;refine sw_goes (n:=30) ?_;simp only [L7,body_wait,waitFn,Option.getD_some];u_c stepG_block (fs_rely hF2) hF
 u_c stepG_seq (fs_rely hF2) hF
 u_reg (fs_rely hF2) hF
 u_op (fs_rely hF2) hF
 u_op (fs_rely hF2) hF
 u_op (fs_rely hF2) hF
 u_call H.f_uLoad (nm_uLoad L) uLoadFn (fs_rely hF2) hF
 u_c stepG_seq (fs_rely hF2) hF
 u_reg (fs_rely hF2) hF
 u_op (fs_rely hF2) hF
 u_c stepG_region_end (fs_rely hF2) hF
 u_c stepG_seq (fs_rely hF2) hF
 u_reg (fs_rely hF2) hF
 u_op (fs_rely hF2) hF
 u_op (fs_rely hF2) hF
 u_op (fs_rely hF2) hF
 refine Goes.stop (fun w₁ h₁=>WayG.stop (fun w₂ h₂ => ?_));replace hF:=fs_rely hF2 (fs_rely hF2 hF h₁) h₂
 clear h₁ h₂;refine ⟨rfl,fun v hv hw => ?_⟩;rcases Nat.eq_zero_or_pos v with rfl | hvp
 ·replace hw:WgAt Q.ty Q.Wg w₂ 0 0:=by simpa using hw
  refine ⟨_,stepG_load_atomic (v:=0) rfl rfl (by k_ne) rfl H.f_loadU64 (x_loadU64_n L) (x_loadU64_b L) (x_loadU64_x L) .u64 (x_loadU64_f L) rfl hw.cellSt,fun _ => ?_,fun h=>absurd rfl h⟩;clear hw;walk_nrm
  refine sw_goes (n:=50) ?_;u_op (fs_rely hF2) hF
  u_c stepG_region_end (fs_rely hF2) hF
  u_c stepG_ret' (fs_rely hF2) hF
  u_leave1 H.f_uLoad (fs_rely hF2) hF
  u_op (fs_rely hF2) hF
  u_c stepG_region_end (fs_rely hF2) hF
  u_c stepG_seq (fs_rely hF2) hF
  u_reg (fs_rely hF2) hF
  u_op (fs_rely hF2) hF
  u_op (fs_rely hF2) hF
  u_op (fs_rely hF2) hF
  u_op (fs_rely hF2) hF
  u_c stepG_region_end (fs_rely hF2) hF
  u_c stepG_seq (fs_rely hF2) hF
  u_reg (fs_rely hF2) hF
  u_op (fs_rely hF2) hF
  u_op (fs_rely hF2) hF
  u_op (fs_rely hF2) hF
  u_op (fs_rely hF2) hF
  u_c stepG_region_end (fs_rely hF2) hF
  u_c stepG_seq (fs_rely hF2) hF
  u_c stepG_seq (fs_rely hF2) hF
  u_reg (fs_rely hF2) hF
  u_op (fs_rely hF2) hF
  u_op (fs_rely hF2) hF
  u_c stepG_region_end (fs_rely hF2) hF
  u_cond true (fs_rely hF2) hF
  u_c stepG_seq (fs_rely hF2) hF
  u_cond true (fs_rely hF2) hF
  u_c stepG_seq (fs_rely hF2) hF
  u_reg (fs_rely hF2) hF
  refine Goes.stop (fun w₁ h₁=>WayG.stop (fun w₂ h₂ => ?_));replace hF:=fs_rely hF2 (fs_rely hF2 hF h₁) h₂
  clear h₁ h₂;refine ⟨rfl,_,stepG_mark0 .enable (by simp) rfl rfl (by k_ne) rfl H.f_enable (x_enable_n L) (x_enable_b L) (x_enable_x L) (x_enable_f L),?_⟩;walk_nrm
  refine sw_goes (n:=12) ?_;u_c stepG_region_end (fs_rely hF2) hF
  u_reg (fs_rely hF2) hF
  u_op (fs_rely hF2) hF
  u_in (fs_rely hF2) hF
  refine goes_oper_k rfl rfl (by k_ne) (fun Kx hKx => ?_);have hcv:=run_convert_to_unsafe (P:=Q.P) H.underlying_tWgP H.underlying_tUP H.room_tWg (WgLive.cell0 hF.2).choose_spec;have hce:=fun es=>events_convert_to_unsafe (P:=Q.P) H.underlying_tWgP H.underlying_tUP H.room_tWg (WgLive.cell0 hF.2).choose_spec es
  go_simp
  refine hKx _ _ ⟨?_,?_⟩
  ·u_none
   intro ex hex;have hmx:=mem_listed hex;simp [go_sem,hce] at hmx
  clear hKx Kx hcv hce;refine Goes.stop (fun w₁ h₁=>WayG.stop (fun w₂ h₂ => ?_));replace hF:=fs_rely hF2 (fs_rely hF2 hF h₁) h₂
  clear h₁ h₂;refine ⟨rfl,_,stepG_markAt .acquire (by simp) rfl rfl (by k_ne) rfl H.f_acquire (x_acquire_n L) (x_acquire_b L) (x_acquire_x L) (x_acquire_f L) (by simp [Act.eval,stA]),fun w₁ h₁=>⟨rfl,?_⟩⟩;replace hF:=fs_rely hF2 hF h₁
  clear h₁;walk_nrm
  u_c stepG_region_end (fs_rely hF2) hF
  u_c stepG_seq (fs_rely hF2) hF
  u_c stepG_seq (fs_rely hF2) hF
  u_reg (fs_rely hF2) hF
  u_op (fs_rely hF2) hF
  u_op (fs_rely hF2) hF
  u_op (fs_rely hF2) hF
  u_op (fs_rely hF2) hF
  u_op (fs_rely hF2) hF
  u_op (fs_rely hF2) hF
  u_op (fs_rely hF2) hF
  u_op (fs_rely hF2) hF
  u_skip (fs_rely hF2) hF
  u_skip (fs_rely hF2) hF
  u_op (fs_rely hF2) hF
  u_c stepG_region_end (fs_rely hF2) hF
  u_cond false (fs_rely hF2) hF
  u_c stepG_skip (fs_rely hF2) hF
  u_c stepG_ret' (fs_rely hF2) hF
  u_leave0 H.f_wait (fs_rely hF2) hF
  exact Goes.mono (hT _ hF.1 hF.2) (by omega)
 ·obtain ⟨S,hS⟩:∃ S:Int,(v:Int)*KK=S:=⟨_,rfl⟩
  have a1:S / 4294967296=(v:Int):=by rw [← hS]; simp only [KK]; omega
  have b1:bits .and .u64 S 2147483648=0:=by rw [← hS]; have:=Go.ConcN.st_flag v 0 (by omega) (by omega); simpa [KK] using this
  have b2:bits .and .u64 S 2147483647=0:=by rw [← hS]; have:=Go.ConcN.st_waiters v 0 (by omega) (by omega); simpa [KK] using this
  have c1:IntKind.i32.wrap (v:Int)=(v:Int):=by rw [IntKind.wrap_i32]; omega
  have w1:IntKind.u64.wrap (S+1)=S+1:=by rw [IntKind.wrap_u64,← hS]; simp only [KK]; omega
  have q3:decide ((v:Int)<0)=false:=decide_eq_false (by omega);have q4:decide (0<(v:Int))=true:=decide_eq_true (by omega);have q5:((v:Int) == 0)=false:=by simp; omega
  have q6:decide ((v:Int)=0)=false:=decide_eq_false (by omega);rw [hS] at hw;refine ⟨_,stepG_load_atomic (v:=S) rfl rfl (by k_ne) rfl H.f_loadU64 (x_loadU64_n L) (x_loadU64_b L) (x_loadU64_x L) .u64 (x_loadU64_f L) rfl hw.cellSt,fun h0=>absurd h0 (by omega),fun _ => ?_⟩;clear hw;walk_nrm
  refine sw_goes (n:=60) ?_;u_op (fs_rely hF2) hF
  u_c stepG_region_end (fs_rely hF2) hF
  u_c stepG_ret' (fs_rely hF2) hF
  u_leave1 H.f_uLoad (fs_rely hF2) hF
  u_op (fs_rely hF2) hF
  u_c stepG_region_end (fs_rely hF2) hF
  u_c stepG_seq (fs_rely hF2) hF
  u_reg (fs_rely hF2) hF
  u_op (fs_rely hF2) hF
  u_op (fs_rely hF2) hF
  u_op (fs_rely hF2) hF
  u_op (fs_rely hF2) hF
  u_c stepG_region_end (fs_rely hF2) hF
  u_c stepG_seq (fs_rely hF2) hF
  u_reg (fs_rely hF2) hF
  u_op (fs_rely hF2) hF
  u_op (fs_rely hF2) hF
  u_op (fs_rely hF2) hF
  u_op (fs_rely hF2) hF
  u_c stepG_region_end (fs_rely hF2) hF
  u_c stepG_seq (fs_rely hF2) hF
  u_c stepG_seq (fs_rely hF2) hF
  u_reg (fs_rely hF2) hF
  u_op (fs_rely hF2) hF
  u_op (fs_rely hF2) hF
  u_c stepG_region_end (fs_rely hF2) hF
  u_cnd false (fs_rely hF2) hF
  u_c stepG_skip (fs_rely hF2) hF
  u_c stepG_seq (fs_rely hF2) hF
  u_reg (fs_rely hF2) hF
  u_op (fs_rely hF2) hF
  u_op (fs_rely hF2) hF
  u_op (fs_rely hF2) hF
  u_op (fs_rely hF2) hF
  u_op (fs_rely hF2) hF
  u_op (fs_rely hF2) hF
  u_call H.f_uCas (nm_uCas L) uCasFn (fs_rely hF2) hF
  u_c stepG_seq (fs_rely hF2) hF
  u_reg (fs_rely hF2) hF
  u_op (fs_rely hF2) hF
  u_c stepG_region_end (fs_rely hF2) hF
  u_c stepG_seq (fs_rely hF2) hF
  u_reg (fs_rely hF2) hF
  u_op (fs_rely hF2) hF
  u_op (fs_rely hF2) hF
  u_op (fs_rely hF2) hF
  u_op (fs_rely hF2) hF
  u_op (fs_rely hF2) hF
  refine Goes.stop (fun w₁ h₁=>WayG.stop (fun w₂ h₂ => ?_));replace hF:=fs_rely hF2 (fs_rely hF2 hF h₁) h₂
  clear h₁ h₂;refine ⟨rfl,fun v' hv' hw=>⟨fun e => ?_,fun e => ?_⟩⟩
  ·subst e
   rw [hS] at hw ⊢;refine ⟨_,(stepG_cas_hit (v:=S) (n:=S+1) rfl rfl (by k_ne) rfl H.f_casU64 (x_casU64_n L) (x_casU64_b L) (x_casU64_x L) .u64 (x_casU64_f L) rfl rfl rfl hw.cellSt (hw.thaw 0)).trans (by rfl),?_⟩;replace hF:F (w₂.setCell (stA Q.Wg) (.int .u64 (S+1)))∧WgLive Q.ty Q.Wg (w₂.setCell (stA Q.Wg) (.int .u64 (S+1))):=⟨hF2 _ _ (stays_aside ho (aside_setCell w₂ (stA Q.Wg) _)) hF.1,⟨_,_,hw.setSt _⟩⟩
   clear hw;walk_nrm
   refine sw_goes (n:=70) ?_;u_op (fs_rely hF2) hF
   u_c stepG_region_end (fs_rely hF2) hF
   u_c stepG_ret' (fs_rely hF2) hF
   u_leave1 H.f_uCas (fs_rely hF2) hF
   u_c stepG_region_end (fs_rely hF2) hF
   u_cond true (fs_rely hF2) hF
   u_c stepG_seq (fs_rely hF2) hF
   u_c stepG_seq (fs_rely hF2) hF
   u_reg (fs_rely hF2) hF
   u_op (fs_rely hF2) hF
   u_op (fs_rely hF2) hF
   u_op (fs_rely hF2) hF
   u_op (fs_rely hF2) hF
   u_c stepG_region_end (fs_rely hF2) hF
   u_cond true (fs_rely hF2) hF
   u_reg (fs_rely hF2) hF
   u_op (fs_rely hF2) hF
   u_op (fs_rely hF2) hF
   u_op (fs_rely hF2) hF
   u_in (fs_rely hF2) hF
   refine goes_oper_k rfl rfl (by k_ne) (fun Kx hKx => ?_);have hcv:=run_convert_to_unsafe (P:=Q.P) H.underlying_tPU32 H.underlying_tUP H.room_tU32 (WgLive.cell1 hF.2).choose_spec;have hce:=fun es=>events_convert_to_unsafe (P:=Q.P) H.underlying_tPU32 H.underlying_tUP H.room_tU32 (WgLive.cell1 hF.2).choose_spec es
   go_simp
   refine hKx _ _ ⟨?_,?_⟩
   ·u_none
    intro ex hex;have hmx:=mem_listed hex;simp [go_sem,hce] at hmx
   clear hKx Kx hcv hce;refine Goes.stop (fun w₁ h₁=>WayG.next rfl (fun w₂ h₂ => ?_));replace hF:=fs_rely hF2 (fs_rely hF2 hF h₁) h₂
   clear h₁ h₂;refine ⟨_,_,_,stepG_markAt .write (by simp) rfl rfl (by k_ne) rfl H.f_raceWrite (x_raceWrite_n L) (x_raceWrite_b L) (x_raceWrite_x L) (x_raceWrite_f L) (ad:=⟨Q.Wg,1,none⟩) (by simp [Act.eval] <;> rfl),said_write w₂ ⟨Q.Wg,1,none⟩ rfl,?_⟩
   rw [Plus.same rfl];walk_nrm
   refine sw_goes (n:=50) ?_;u_c stepG_region_end (fs_rely hF2) hF
   u_c stepG_seq (fs_rely hF2) hF
   u_reg (fs_rely hF2) hF
   u_op (fs_rely hF2) hF
   u_c stepG_region_end (fs_rely hF2) hF
   u_c stepG_seq (fs_rely hF2) hF
   u_c stepG_seq (fs_rely hF2) hF
   u_reg (fs_rely hF2) hF
   u_op (fs_rely hF2) hF
   u_op (fs_rely hF2) hF
   u_op (fs_rely hF2) hF
   u_op (fs_rely hF2) hF
   u_skip (fs_rely hF2) hF
   u_op (fs_rely hF2) hF
   u_c stepG_region_end (fs_rely hF2) hF
   u_cond false (fs_rely hF2) hF
   u_c stepG_skip (fs_rely hF2) hF
   u_c stepG_seq (fs_rely hF2) hF
   u_reg (fs_rely hF2) hF
   u_op (fs_rely hF2) hF
   u_op (fs_rely hF2) hF
   u_op (fs_rely hF2) hF
   u_op (fs_rely hF2) hF
   refine Goes.stop (fun w₁ h₁=>WayG.stop (fun w₂ h₂ => ?_));replace hF:=fs_rely hF2 (fs_rely hF2 hF h₁) h₂
   clear h₁ h₂;refine ⟨rfl,rfl,fun ⟨st,hw⟩=>stepG_semacquire_wait rfl rfl rfl H.f_semacquire (x_semacquire_n L) (x_semacquire_b L) (x_semacquire_x L) (x_semacquire_f L) (by simp [Act.eval,smA]) hw.cellSm,fun hf => ?_⟩;refine ⟨_,(stepG_semacquire (n:=1) rfl rfl (by k_ne) rfl H.f_semacquire (x_semacquire_n L) (x_semacquire_b L) (x_semacquire_x L) (x_semacquire_f L) (by simp [Act.eval,smA]) hf.cellSm (by k_ne) (hf.thaw 1)).trans (by rfl),?_⟩;replace hF:F (w₂.setCell (smA Q.Wg) (.int .u32 0))∧WgLive Q.ty Q.Wg (w₂.setCell (smA Q.Wg) (.int .u32 0)):=⟨hF2 _ _ (stays_aside ho (aside_setCell w₂ (smA Q.Wg) _)) hF.1,⟨_,_,hf.setSm 0⟩⟩
   clear hf;walk_nrm
   refine sw_goes (n:=30) ?_;u_c stepG_region_end (fs_rely hF2) hF
   u_c stepG_seq (fs_rely hF2) hF
   u_reg (fs_rely hF2) hF
   u_op (fs_rely hF2) hF
   u_op (fs_rely hF2) hF
   u_op (fs_rely hF2) hF
   u_call H.f_uLoad (nm_uLoad L) uLoadFn (fs_rely hF2) hF
   u_c stepG_seq (fs_rely hF2) hF
   u_reg (fs_rely hF2) hF
   u_op (fs_rely hF2) hF
   u_c stepG_region_end (fs_rely hF2) hF
   u_c stepG_seq (fs_rely hF2) hF
   u_reg (fs_rely hF2) hF
   u_op (fs_rely hF2) hF
   u_op (fs_rely hF2) hF
   u_op (fs_rely hF2) hF
   refine Goes.stop (fun w₁ h₁=>WayG.stop (fun w₂ h₂ => ?_));replace hF:=fs_rely hF2 (fs_rely hF2 hF h₁) h₂
   clear h₁ h₂;refine ⟨rfl,fun hw=>⟨_,stepG_load_atomic (v:=0) rfl rfl (by k_ne) rfl H.f_loadU64 (x_loadU64_n L) (x_loadU64_b L) (x_loadU64_x L) .u64 (x_loadU64_f L) rfl hw.cellSt,?_⟩⟩;clear hw;walk_nrm
   refine sw_goes (n:=30) ?_;u_op (fs_rely hF2) hF
   u_c stepG_region_end (fs_rely hF2) hF
   u_c stepG_ret' (fs_rely hF2) hF
   u_leave1 H.f_uLoad (fs_rely hF2) hF
   u_op (fs_rely hF2) hF
   u_op (fs_rely hF2) hF
   u_c stepG_region_end (fs_rely hF2) hF
   u_c stepG_seq (fs_rely hF2) hF
   u_cond true (fs_rely hF2) hF
   u_c stepG_seq (fs_rely hF2) hF
   u_reg (fs_rely hF2) hF
   refine Goes.stop (fun w₁ h₁=>WayG.stop (fun w₂ h₂ => ?_));replace hF:=fs_rely hF2 (fs_rely hF2 hF h₁) h₂
   clear h₁ h₂;refine ⟨rfl,_,stepG_mark0 .enable (by simp) rfl rfl (by k_ne) rfl H.f_enable (x_enable_n L) (x_enable_b L) (x_enable_x L) (x_enable_f L),?_⟩;walk_nrm
   refine sw_goes (n:=12) ?_;u_c stepG_region_end (fs_rely hF2) hF
   u_reg (fs_rely hF2) hF
   u_op (fs_rely hF2) hF
   u_in (fs_rely hF2) hF
   refine goes_oper_k rfl rfl (by k_ne) (fun Kx hKx => ?_);have hcv:=run_convert_to_unsafe (P:=Q.P) H.underlying_tWgP H.underlying_tUP H.room_tWg (WgLive.cell0 hF.2).choose_spec;have hce:=fun es=>events_convert_to_unsafe (P:=Q.P) H.underlying_tWgP H.underlying_tUP H.room_tWg (WgLive.cell0 hF.2).choose_spec es
   go_simp
   refine hKx _ _ ⟨?_,?_⟩
   ·u_none
    intro ex hex;have hmx:=mem_listed hex;simp [go_sem,hce] at hmx
   clear hKx Kx hcv hce;refine Goes.stop (fun w₁ h₁=>WayG.stop (fun w₂ h₂ => ?_));replace hF:=fs_rely hF2 (fs_rely hF2 hF h₁) h₂
   clear h₁ h₂;refine ⟨rfl,_,stepG_markAt .acquire (by simp) rfl rfl (by k_ne) rfl H.f_acquire (x_acquire_n L) (x_acquire_b L) (x_acquire_x L) (x_acquire_f L) (by simp [Act.eval,stA]),fun w₁ h₁=>⟨rfl,?_⟩⟩;replace hF:=fs_rely hF2 hF h₁
   clear h₁;walk_nrm
   u_c stepG_region_end (fs_rely hF2) hF
   u_c stepG_seq (fs_rely hF2) hF
   u_c stepG_seq (fs_rely hF2) hF
   u_reg (fs_rely hF2) hF
   u_op (fs_rely hF2) hF
   u_c stepG_region_end (fs_rely hF2) hF
   u_cond false (fs_rely hF2) hF
   u_c stepG_skip (fs_rely hF2) hF
   u_c stepG_ret' (fs_rely hF2) hF
   u_leave0 H.f_wait (fs_rely hF2) hF
   exact Goes.mono (hT _ hF.1 hF.2) (by omega)
  ·refine ⟨_,stepG_cas_miss (v:=(v':Int)*KK) (old:=S) (n:=S+1) rfl rfl (by k_ne) rfl H.f_casU64 (x_casU64_n L) (x_casU64_b L) (x_casU64_x L) .u64 (x_casU64_f L) rfl rfl rfl hw.cellSt (hw.thaw 0) (by rw [← hS]; simp only [KK]; omega),?_⟩
   clear hw;walk_nrm
   refine sw_goes (n:=20) ?_;u_op (fs_rely hF2) hF
   u_c stepG_region_end (fs_rely hF2) hF
   u_c stepG_ret' (fs_rely hF2) hF
   u_leave1 H.f_uCas (fs_rely hF2) hF
   u_c stepG_region_end (fs_rely hF2) hF
   u_cond false (fs_rely hF2) hF
   u_c stepG_skip (fs_rely hF2) hF
   u_c stepG_inBlock (fs_rely hF2) hF
   u_c stepG_inLoop (fs_rely hF2) hF
   exact Goes.stop fun w₁ h₁=>WayG.stop fun w₂ h₂=>⟨rfl,_,rfl,by simp,by simp,fs_rely hF2 (fs_rely hF2 hF h₁) h₂⟩
end
end Rn
end Go.Proofs.YtpblihmhpalkfaaGreat
