/-
  Texts that the law stands on, part 5.
-/
import Derived.Test.YtbpnbhemdbgmjaaGreatC1
import Derived.Test.YtbpnbhemdbgmjaaGreatC4
import Derived.Conc.CrowdStepC2
set_option linter.unusedVariables false
set_option linter.unusedSimpArgs false
namespace Go.Proofs.YtbpnbhemdbgmjaaGreat
namespace Rn
open Go.Conc
def SLoc (P : Program) (g : Goroutine) (w : World) (g' : Goroutine) (w' : World) : Prop :=
 ∃ n, w'.tape = w.tape ∧ w'.drawn = w.drawn + n ∧ ∀ t' d', Agree n w.tape w.drawn t' d' → ∃ es, stepG P true g (w.tp t' d') = .go g' (w'.tp t' (d' + n)) es
theorem SLoc.still {P : Program} {g g1 g' : Goroutine} {w w' : World} {es : Array Event} (h : ∀ u, stepG P true g u = .go g1 u #[]) (hs : stepG P true g w = .go g' w' es) : SLoc P g w g' w' := by
 rw [h] at hs
 cases hs
 exact ⟨0, rfl, rfl, fun t' d' _ => ⟨_, h _⟩⟩
theorem SLoc.run {P : Program} {α : Type} {x : Sem α} {g : Goroutine} {w w1 : World} {a : α} (hl : Loc P x w w.tape w.drawn #[]) (hx : x.run P w = .ok a w1) {g' : Goroutine}
  (h : ∀ u u1, x.run P u = .ok a u1 → ∃ es, stepG P true g u = .go g' u1 es) : SLoc P g w g' w1 := by
 obtain ⟨n, R, es', h1, h2⟩ := hl
 have e1 : R.tp w.tape (w.drawn + n) = .ok a w1 := by
  have := Sem.runT_fst P x w #[]
  rw [hx] at this
  rw [show x.runT P w #[] = (R.tp w.tape (w.drawn + n), es') from h1] at this
  exact this
 cases R with
 | halt hh wh => cases e1
 | ok b u =>
  cases e1
  refine ⟨n, rfl, rfl, fun t' d' ha => ?_⟩
  refine h _ _ ?_
  have := Sem.runT_fst P x (w.tp t' d') #[]
  rw [h2 t' d' ha] at this
  exact this.symm
section
variable {C : Ctx} {r r' : Ren}
theorem stepLoc (ok : CtxOk C) {X : List Frame} {bs : List Frame} {f f' : Frame} {L L' : List Frame} {w v : World} (hf : FrR C r f f') (hl : LR C r X bs L L') (hw : WR C r w v) (ht : TE w v)
  {g' : Goroutine} {w' : World} {es : Array Event} (hs : stepG C.Px true (G f L) w = .go g' w' es) (hn : Nice g') (hnf : ¬ (f.mode = .returning ∧ L = X)) : SLoc C.Px (G f L) w g' w' := by
 cases hf with
 | @mk f ts ts' todo todo' m hF hv hk =>
  cases m with
  | true =>
   cases hl with
   | nil => exact absurd ⟨rfl, rfl⟩ hnf
   | @cons c c' L1 L1' hc hl' =>
    obtain ⟨fn, bd, h1, h2⟩ := hF.body
    have sim := Sim.results fn (ok.res _ _ h1) hv w v #[] #[] hw ht (by simp)
    cases hrun : (results fn ts).run C.Px w with
    | halt h wh => exact absurd hs (stepG_leaveH (P := C.Px) h1 hrun)
    | ok x w1 =>
     rw [stepG_leaveE (P := C.Px) h1 hrun] at hs
     cases hs
     exact SLoc.run sim.2.2 hrun fun u u1 hu => ⟨_, stepG_leaveE (P := C.Px) h1 hu⟩
  | false =>
   cases hk with
   | nil => exact .still (fun u => by rw [fra_run, stepG_end]) hs
   | stop h h0 => exact absurd hs stepG_refuse
   | part hk => exact .still (fun u => by rw [fra_run, stepG_seq]) hs
   | @cons x k k' hk0 hk1 =>
    cases x with
    | code c =>
     cases c with
     | skip => exact .still (fun u => by rw [fra_run, stepG_skip]) hs
     | ret => exact .still (fun u => by rw [fra_run, stepG_ret']) hs
     | seq a b => exact .still (fun u => by rw [fra_run, stepG_seq]) hs
     | block id b => exact .still (fun u => by rw [fra_run, stepG_block]) hs
     | loop b => exact .still (fun u => by rw [fra_run, stepG_loop]) hs
     | exit id =>
      cases he : exitTo id k with
      | none => exact absurd hs (stepG_exit_bad he)
      | some k' => exact .still (fun u => by rw [fra_run, stepG_exit he]) hs
     | cond c a b =>
      by_cases hb : ∃ t, (Act.mk ts []).eval c = .bool t
      ·obtain ⟨t, hb⟩ := hb
       exact .still (fun u => by rw [fra_run, stepG_cond hb]) hs
      ·exact absurd hs (stepG_cond_bad fun t e => hb ⟨t, e⟩)
     | region id ops draw =>
      cases draw with
      | false => exact .still (fun u => by rw [fra_run, stepG_region]) hs
      | true =>
       rw [fra_run, stepG_region_draw] at hs
       cases hs
       refine ⟨1, rfl, rfl, fun t' d' ha => ⟨#[], ?_⟩⟩
       have e0 := ha 0 (.order (base f).fn id) (by omega)
       simp only [Nat.add_zero] at e0
       rw [fra_run, stepG_region_draw]
       rw [show (w.tp t' d').tape (w.tp t' d').drawn (.order (base f).fn id) = w.tape w.drawn (.order (base f).fn id) from e0.symm]
       rfl
     | _ => cases hk0
    | inBlock id => exact .still (fun u => by rw [fra_run, stepG_inBlock]) hs
    | inLoop b => exact .still (fun u => by rw [fra_run, stepG_inLoop]) hs
    | inRegion ops is =>
     cases is with
     | nil => exact .still (fun u => by rw [fra_run, stepG_region_end]) hs
     | cons i rest =>
      cases ho : ops[i]? with
      | none => exact .still (fun u => stepG_noOp ho) hs
      | some o =>
       cases hwn : Region.wanted o (yielded ops ts) with
       | false => exact .still (fun u => by rw [fra_run, stepG_unwanted ho hwn]) hs
       | true =>
        have hoo : okOp C.tb C.F (C.D f) o = true := by
         simp only [okI, Bool.and_eq_true] at hk0
         obtain ⟨hi, rfl⟩ := Array.getElem?_eq_some_iff.1 ho
         exact List.all_eq_true.1 hk0.1 _ (by simp)
        have he : ∀ x, okX C.F (C.D f) x = true → VR C r ((Act.mk ts []).eval x) ((Act.mk ts' []).eval x) := by
         intro x hx
         cases x with
         | tmp t => exact hv.getD hx vr_undef
         | const c => exact vr_flat hx
         | global g => cases hx
         | func g => exact .func hx rfl (fun i x y h => by simp at h) rfl (fun i x y h => by simp at h)
        have sim := simOp ok (fun g h => ⟨f, h⟩) hoo he (fun _ => rfl) (fun _ => rfl) w v #[] #[] hw ht (by simp)
        have hki : (base f).kind ≠ .early := by simp [base]
        simp only [fra_run] at hs ⊢
        cases hrun : (execOp (Act.mk ts []).eval o).run C.Px w with
        | halt h wh =>
         have hni := sim.2.1 h wh _ (by rw [← hrun, ← Sem.runT_fst _ _ _ #[]])
         rw [stepG_oper ho hwn] at hs
         exact (apply_halt rfl hrun (fun x e => by subst e; simp [isInit] at hni) (fun m e => by subst e; simp [isInit] at hni) (fun m e => by subst e; simp [isInit] at hni) hs hn).elim
        | ok n w1 =>
         obtain ⟨n', v1, fs1, r1, e1, x1, hw1, ht1, hf1, q1⟩ := sim.1 n w1 ((execOp (Act.mk ts []).eval o).runT C.Px w #[]).2 (by rw [← hrun, ← Sem.runT_fst _ _ _ #[]])
         rcases q1.out with ⟨a, b, rfl, rfl, hab⟩ | ⟨rfl, rfl⟩ | ⟨fn, xs, ys, rfl, rfl, hF, hxy⟩
         ·rw [stepG_value ho hwn hki hrun] at hs
          cases hs
          exact SLoc.run sim.2.2 hrun fun u u1 hu => ⟨_, stepG_value ho hwn hki hu⟩
         ·rw [stepG_none ho hwn hki hrun] at hs
          cases hs
          exact SLoc.run sim.2.2 hrun fun u u1 hu => ⟨_, stepG_none ho hwn hki hu⟩
         ·rw [stepG_enter ho hwn hki hrun] at hs
          cases hs
          exact SLoc.run sim.2.2 hrun fun u u1 hu => ⟨_, stepG_enter ho hwn hki hu⟩
    | _ => cases hk0
end
end Rn
namespace Rn
open Go.Conc
structure St where
 f : Frame
 L : List Frame
 w : World
def St.at (s : St) (t : Tp) (d : Nat) : Machine := lone s.f s.L (s.w.tp t d)
def LStep (P : Program) (s : St) (n N : Nat) (s' : St) (t : Tp) (d : Nat) : Prop := ∀ t' d', Agree n t d t' d' → runN P N (s.at t' d') = .next (s'.at t' (d' + n))
def Path (P : Program) (s : St) (n N : Nat) (s' : St) : Prop := ∃ t d, LStep P s n N s' t d
def glue (n : Nat) (t : Tp) (d : Nat) (t2 : Tp) (d2 : Nat) : Tp := fun i q => if i < n then t (d + i) q else t2 (d2 + (i - n)) q
theorem glue_left {n : Nat} {t t2 t' : Tp} {d d2 d' m : Nat} (h : Agree (n + m) (glue n t d t2 d2) 0 t' d') : Agree n t d t' d' := fun i q hi => by
 have := h i q (by omega)
 rw [Nat.zero_add] at this
 rw [← this, glue, if_pos hi]
theorem glue_right {n : Nat} {t t2 t' : Tp} {d d2 d' m : Nat} (h : Agree (n + m) (glue n t d t2 d2) 0 t' d') : Agree m t2 d2 t' (d' + n) := fun i q hi => by
 have := h (n + i) q (by omega)
 rw [Nat.zero_add, glue, if_neg (by omega), Nat.add_sub_cancel_left] at this
 rw [this, Nat.add_assoc]
theorem LStep.refl (P : Program) (s : St) (t : Tp) (d : Nat) : LStep P s 0 0 s t d := fun _ _ _ => rfl
theorem LStep.trans {P : Program} {s s1 s2 : St} {n N m M : Nat} {t t2 : Tp} {d d2 : Nat} (h : LStep P s n N s1 t d) (k : LStep P s1 m M s2 t2 d2) : LStep P s (n + m) (N + M) s2 (glue n t d t2 d2) 0 := fun t' d' ha => by
 rw [runN_add, h t' d' (glue_left ha)]
 have := k t' (d' + n) (glue_right ha)
 rw [← Nat.add_assoc]
 exact this
theorem Path.refl (P : Program) (s : St) : Path P s 0 0 s := ⟨fun _ _ => 0, 0, LStep.refl _ _ _ _⟩
theorem Path.trans {P : Program} {s s1 s2 : St} {n N m M : Nat} (h : Path P s n N s1) (k : Path P s1 m M s2) : Path P s (n + m) (N + M) s2 := by
 obtain ⟨t, d, h⟩ := h
 obtain ⟨t2, d2, k⟩ := k
 exact ⟨_, _, h.trans k⟩
theorem Path.under {P : Program} {s s1 : St} {n N : Nat} (h : Path P s n N s1) (t2 : Tp) (d2 : Nat) : ∃ t, runN P N (s.at t 0) = .next (s1.at t n) ∧ ∀ i q, t (n + i) q = t2 (d2 + i) q := by
 obtain ⟨t, d, h⟩ := h
 refine ⟨glue n t d t2 d2, ?_, fun i q => by rw [glue, if_neg (by omega), Nat.add_sub_cancel_left]⟩
 have := h (glue n t d t2 d2) 0 fun i q hi => by rw [Nat.zero_add, glue, if_pos hi]
 rwa [Nat.zero_add] at this
theorem LStep.one {P : Program} {f f1 : Frame} {L L1 : List Frame} {w w1 : World} (h : SLoc P (G f L) w (G f1 L1) w1) : ∃ n, LStep P ⟨f, L, w⟩ n 1 ⟨f1, L1, w1⟩ w.tape w.drawn ∧ w1.tape = w.tape ∧ w1.drawn = w.drawn + n := by
 obtain ⟨n, e1, e2, h⟩ := h
 refine ⟨n, fun t' d' ha => ?_, e1, e2⟩
 obtain ⟨es, hs⟩ := h t' d' ha
 have : step P (lone f L (w.tp t' d')) = .next (lone f1 L1 (w1.tp t' (d' + n))) := step_lone_go (by
  show (stepG P true (G f L) (w.tp t' d')).bare = _
  rw [hs]
  rfl)
 show runN P 1 (lone f L (w.tp t' d')) = _
 simp only [runN, this]
 rfl
def Term (P : Program) (s : St) : Prop := ∀ t d, ∃ K, ∀ m, runN P K (s.at t d) ≠ .next m
def Rel (P : Program) (s' s : St) : Prop := ∃ n N, 1 ≤ N ∧ Path P s n N s'
theorem runN_less {P : Program} {a b : Nat} {m m' : Machine} (h : runN P b m = .next m') (hab : a ≤ b) : ∃ m1, runN P a m = .next m1 := by
 have := runN_add P a (b - a) m
 rw [show a + (b - a) = b by omega, h] at this
 cases hr : runN P a m with
 | next m1 => exact ⟨m1, rfl⟩
 | ended o w => rw [hr] at this; cases this
section
variable {P : Program}
structure Seg (P : Program) (s : St) where
 n : Nat
 N : Nat
 s' : St
 t : Tp
 d : Nat
 pos : 1 ≤ N
 run : LStep P s n N s' t d
open Classical in
theorem acc_of_term {s0 : St} (h : Term P s0) : Acc (Rel P) s0 := by
  apply Classical.byContradiction
  intro hna
  have nxt : ∀ s : {s : St // ¬ Acc (Rel P) s}, ∃ g : Seg P s.1, ¬ Acc (Rel P) g.s' := by
    intro ⟨s, hs⟩
    apply Classical.byContradiction
    intro hno
    refine hs (Acc.intro s fun s' hr => ?_)
    apply Classical.byContradiction
    intro hs'
    obtain ⟨n, N, hN, t, d, hl⟩ := hr
    exact hno ⟨⟨n, N, s', t, d, hN, hl⟩, hs'⟩
  let seg : (s : {s : St // ¬ Acc (Rel P) s}) → Seg P s.1 := fun s => Classical.choose (nxt s)
  have segN : ∀ s, ¬ Acc (Rel P) (seg s).s' := fun s => Classical.choose_spec (nxt s)
  let st : Nat → {s : St // ¬ Acc (Rel P) s} := fun k => Nat.rec ⟨s0, hna⟩ (fun _ s => ⟨(seg s).s', segN s⟩) k
  have st1 : ∀ k, (st (k + 1)).1 = (seg (st k)).s' := fun k => rfl
  let D : Nat → Nat := fun k => Nat.rec 0 (fun j x => x + (seg (st j)).n) k
  let E : Nat → Nat := fun k => Nat.rec 0 (fun j x => x + (seg (st j)).N) k
  have D1 : ∀ k, D (k + 1) = D k + (seg (st k)).n := fun k => rfl
  have E1 : ∀ k, E (k + 1) = E k + (seg (st k)).N := fun k => rfl
  have Dm : ∀ j k, j ≤ k → D j ≤ D k := by
    intro j k hjk
    induction k with
    | zero => obtain rfl : j = 0 := by omega
              exact Nat.le_refl _
    | succ k ih =>
      by_cases e : j = k + 1
      · subst e; exact Nat.le_refl _
      · have := ih (by omega); rw [D1]; omega
  have Ek : ∀ k, k ≤ E k := by
    intro k
    induction k with
    | zero => exact Nat.zero_le _
    | succ k ih => rw [E1]; have := (seg (st k)).pos; omega
  have uniq : ∀ i j k, D j ≤ i → i < D (j + 1) → D k ≤ i → i < D (k + 1) → j = k := by
    intro i j k h1 h2 h3 h4
    rcases Nat.lt_trichotomy j k with hl | he | hg
    · have := Dm (j + 1) k hl; omega
    · exact he
    · have := Dm (k + 1) j hg; omega
  let T : Tp := fun i q => if hk : ∃ k, D k ≤ i ∧ i < D (k + 1) then (seg (st (Classical.choose hk))).t ((seg (st (Classical.choose hk))).d + (i - D (Classical.choose hk))) q else 0
  have ag : ∀ k, Agree (seg (st k)).n (seg (st k)).t (seg (st k)).d T (D k) := by
    intro k i q hi
    have hk : ∃ k', D k' ≤ D k + i ∧ D k + i < D (k' + 1) := ⟨k, by omega, by rw [D1]; omega⟩
    have e := Classical.choose_spec hk
    have ek := uniq _ _ k e.1 e.2 (Nat.le_add_right _ _) (by rw [D1]; omega)
    show _ = (if hk : ∃ k', D k' ≤ D k + i ∧ D k + i < D (k' + 1) then (seg (st (Classical.choose hk))).t ((seg (st (Classical.choose hk))).d + (D k + i - D (Classical.choose hk))) q else 0)
    rw [dif_pos hk, ek, Nat.add_sub_cancel_left]
  have run : ∀ k, runN P (E k) (s0.at T 0) = .next ((st k).1.at T (D k)) := by
    intro k
    induction k with
    | zero => rfl
    | succ k ih =>
      rw [E1, runN_add, ih, st1]
      exact (seg (st k)).run T (D k) (ag k)
  obtain ⟨K, hK⟩ := h T 0
  obtain ⟨m1, h1⟩ := runN_less (run K) (Ek K)
  exact hK m1 h1
end
end Rn
namespace Rn
open Go.Conc
def Xb : Frame := { (base 0).at ⟨#[], []⟩ [.code (.refuse "")] with defers := [⟨.nil, #[]⟩] }
theorem Xb_finish (v : Value) : Xb.finish v = Xb := rfl
theorem step_Xb (P : Program) (w : World) (m : Machine) : step P (lone Xb [] w) ≠ .next m := by
 intro e
 have h : ∃ o, (stepG P true { frame := Xb, callers := [], status := .running, dying := none } w).bare = .ended o w :=
  ⟨_, by simp [Xb, stepG, stepG.exec, Frame.at, base]; rfl⟩
 obtain ⟨o, h⟩ := h
 rw [step_lone_ended h] at e
 cases e
theorem step_Xb_pan (P : Program) (w : World) (chain : List PanicEntry) (m : Machine) : step P (lone (Xb.raise chain) [] w) ≠ .next m := by
 intro e
 have h : ∃ o, (stepG P true { frame := Xb.raise chain, callers := [], status := .running, dying := none } w).bare = .ended o w :=
  ⟨_, by simp [Xb, stepG, Frame.at, base, Frame.raise, unwind, callDeferred]; rfl⟩
 obtain ⟨o, h⟩ := h
 rw [step_lone_ended h] at e
 cases e
def StopF (f : Frame) : Prop := ∃ g ts k0, f = fra g ts (.code (.refuse "") :: k0) false
def Ends (P : Program) (b : Bool) (fr : Frame) (w : World) (v : Value) : Prop := (b = false ∧ fr.leaving P w (.returned v)) ∨ (b = true ∧ ∃ g ts k0, fr = fra g ts (.code (.refuse "") :: k0) false ∧ v = .tuple #[.int .i64 g, .tuple ts])
theorem Ends.mode {P : Program} {b : Bool} {fr : Frame} {w : World} {v : Value} (h : Ends P b fr w v) : fr.mode = .returning ∨ fr.mode = .run := by
 rcases h with ⟨_, h⟩ | ⟨_, g, ts, k0, rfl, _⟩
 ·exact .inl h.1
 ·exact .inr rfl
theorem Ends.fin {P : Program} {b : Bool} {fr : Frame} {w : World} {v : Value} (h : Ends P b fr w v) : fr.mode = .returning ∨ StopF fr := by
 rcases h with ⟨_, h⟩ | ⟨_, g, ts, k0, e, _⟩
 ·exact .inl h.1
 ·exact .inr ⟨g, ts, k0, e⟩
theorem step_stop {P : Program} {f : Frame} (h : StopF f) (L : List Frame) (w : World) (m : Machine) : step P (lone f L w) ≠ .next m := by
 obtain ⟨g, ts, k0, rfl⟩ := h
 intro e
 have h : ∃ o, (stepG P true { frame := fra g ts (.code (.refuse "") :: k0) false, callers := L, status := .running, dying := none } w).bare = .ended o w :=
  ⟨_, by simp [fra, stepG, stepG.exec, Frame.at, base]; rfl⟩
 obtain ⟨o, h⟩ := h
 rw [step_lone_ended h] at e
 cases e
def Res (P : Program) (R : Bool → Value → World → Prop) (s : St) : Prop :=
 ∀ t d, ∃ K b v w' fr, runN P K (s.at t d) = .next (lone fr [Xb] w') ∧ R b v w' ∧ Ends P b fr w' v
section
variable {P : Program} {R : Bool → Value → World → Prop}
theorem run_past {b : Bool} {fr : Frame} {w : World} {v : Value} (h : Ends P b fr w v) {k : Nat} {m : Machine} (hr : runN P k (lone fr [Xb] w) = .next m) : (k = 0 ∧ m = lone fr [Xb] w) ∨ (k = 1 ∧ m = lone Xb [] w) := by
 rcases h with ⟨_, h⟩ | ⟨_, g, ts, k0, e, _⟩
 rotate_left
 ·cases k with
  | zero => cases hr; exact .inl ⟨rfl, rfl⟩
  | succ k =>
   simp only [runN] at hr
   cases hs : step P (lone fr [Xb] w) with
   | next m1 => exact absurd hs (step_stop ⟨g, ts, k0, e⟩ _ _ _)
   | ended o w1 => rw [hs] at hr; cases hr
 match k with
 | 0 => cases hr; exact .inl ⟨rfl, rfl⟩
 | 1 =>
  simp only [runN, step_leave_returned h, Xb_finish] at hr
  cases hr
  exact .inr ⟨rfl, rfl⟩
 | k + 2 =>
  simp only [runN, step_leave_returned h, Xb_finish] at hr
  cases hs : step P (lone Xb [] w) with
  | next m1 => exact absurd hs (step_Xb P w m1)
  | ended o w1 => rw [hs] at hr; cases hr
theorem Res.term {s : St} (h : Res P R s) : Term P s := fun t d => by
 obtain ⟨K, b, v, w', fr, h1, _, h3⟩ := h t d
 refine ⟨K + 2, fun m e => ?_⟩
 rw [runN_add, h1] at e
 rcases run_past h3 e with ⟨e1, _⟩ | ⟨e1, _⟩ <;> omega
theorem Res.acc {s : St} (h : Res P R s) : Acc (Rel P) s := acc_of_term h.term
theorem Res.ahead {s s1 : St} {n N : Nat} (h : Res P R s) (hp : Path P s n N s1) (hL : s1.L ≠ []) (t2 : Tp) (d2 : Nat) :
  ∃ t, (∀ i q, t (n + i) q = t2 (d2 + i) q) ∧ ∃ K b v w' fr, runN P K (s1.at t n) = .next (lone fr [Xb] w') ∧ R b v w' ∧ Ends P b fr w' v := by
 obtain ⟨t, ht, ha⟩ := hp.under t2 d2
 refine ⟨t, ha, ?_⟩
 obtain ⟨K, b, v, w', fr, h1, h2, h3⟩ := h t 0
 by_cases hK : N ≤ K
 ·refine ⟨K - N, b, v, w', fr, ?_, h2, h3⟩
  have := runN_add P N (K - N) (s.at t 0)
  rw [show N + (K - N) = K by omega, h1, ht] at this
  exact this.symm
 ·have := runN_add P K (N - K) (s.at t 0)
  rw [show K + (N - K) = N by omega, h1, ht] at this
  rcases run_past h3 this.symm with ⟨e1, _⟩ | ⟨_, e2⟩
  ·omega
  ·unfold St.at lone at e2
   simp at e2
   exact absurd e2.2.2 hL
theorem Res.of_calls {R : Value → World → Prop} {f : FuncId} {args : Array Value} {w : World} (h : ∀ t d, Calls P f args (w.tp t d) fun e w' => ∃ v, e = .returned v ∧ R v w') : Res P (fun b v w => b = false ∧ R v w) ⟨Frame.enter P f args .normal, [Xb], w⟩ := fun t d => by
 obtain ⟨e, w', fr, ⟨v, rfl, hr⟩, hs, _, hl⟩ := h t d [Xb]
 obtain ⟨K, hK⟩ : Steps P _ _ := hs
 exact ⟨K, false, v, w', fr, hK, ⟨rfl, hr⟩, .inl ⟨rfl, hl⟩⟩
def PlainF (P : Program) (fr : Frame) : Prop := fr.defers = [] ∧ (∃ fn, P.funcs[fr.fn]? = some fn) ∧ (fr.mode = .run ∨ fr.mode = .returning)
theorem pan_never {k : Nat} : ∀ {cs : List Frame} {fr : Frame} {w : World} {chain : List PanicEntry}, fr.mode = .panicking chain → fr.defers = [] → (∃ fn, P.funcs[fr.fn]? = some fn) → (∀ c ∈ cs, PlainF P c) →
  ∀ {fr' : Frame} {w' : World}, (fr'.mode = .returning ∨ fr'.mode = .run) → runN P k (lone fr (cs ++ [Xb]) w) ≠ .next (lone fr' [Xb] w') := by
 induction k with
 | zero =>
  intro cs fr w chain hm hd hf hc fr' w' hr e
  simp only [runN] at e
  unfold lone at e
  simp at e
  obtain ⟨_, e2, _⟩ := e
  rw [← e2, hm] at hr
  rcases hr with hr | hr <;> cases hr
 | succ k ih =>
  intro cs fr w chain hm hd hf hc fr' w' hr e
  obtain ⟨fn, hfn⟩ := hf
  have hcat : fr.catches P = false := by unfold Frame.catches; rw [hfn]
  cases cs with
  | nil =>
   have h1 : step P (lone fr [Xb] w) = .next (lone (Xb.raise chain) [] w) := step_lone_go (by simp [stepG, hm, unwind, hd, hcat])
   simp only [runN, List.nil_append, h1] at e
   cases k with
   | zero =>
    simp only [runN] at e
    unfold lone at e
    simp at e
   | succ k =>
    simp only [runN] at e
    cases hs : step P (lone (Xb.raise chain) [] w) with
    | next m1 => exact absurd hs (step_Xb_pan P w chain m1)
    | ended o w1 => rw [hs] at e; cases e
  | cons c cs =>
   have h1 : step P (lone fr (c :: cs ++ [Xb]) w) = .next (lone (c.raise chain) (cs ++ [Xb]) w) := step_lone_go (by simp [stepG, hm, unwind, hd, hcat])
   simp only [runN, h1] at e
   obtain ⟨c1, c2, c3⟩ := hc c (by simp)
   have er : c.raise chain = { c with mode := .panicking chain } := by
    unfold Frame.raise
    rcases c3 with c3 | c3 <;> rw [c3]
   refine ih (chain := chain) (fr := c.raise chain) (cs := cs) ?_ ?_ ?_ (fun x hx => hc x (by simp [hx])) hr e
   ·rw [er]
   ·rw [er]; exact c1
   ·rw [er]; exact c2
end
end Rn
namespace Rn
open Go.Conc
def Form (P : Program) (f : Frame) (L : List Frame) (w : World) : Prop :=
 (∃ f1 L1 w1 es, stepG P true (G f L) w = .go (G f1 L1) w1 es ∧ Nice (G f1 L1)) ∨
 (∃ f1 w1 es chain, stepG P true (G f L) w = .go (G f1 L) w1 es ∧ f1.mode = .panicking chain ∧ f1.defers = f.defers ∧ f1.fn = f.fn) ∨
 (∃ o w1, (stepG P true (G f L) w).bare = .ended o w1)
theorem Form.still {P : Program} {f f1 : Frame} {L L1 : List Frame} {w w1 : World} {es : Array Event} (h : stepG P true (G f L) w = .go (G f1 L1) w1 es) (hm : f1.mode = .run ∨ f1.mode = .returning) : Form P f L w := .inl ⟨f1, L1, w1, es, h, rfl, hm⟩
theorem apply_form {P : Program} {fr : Frame} {cs : List Frame} {s : Sem Next} {w wh : World} {h : Halt} (hm : fr.mode = .run) (hr : s.run P w = .halt h wh) (hi : isInit h = false) :
  (∃ f1 w1 es chain, stepG.apply P true fr cs none s w = .go (G f1 cs) w1 es ∧ f1.mode = .panicking chain ∧ f1.defers = fr.defers ∧ f1.fn = fr.fn) ∨ (∃ o w1, (stepG.apply P true fr cs none s w).bare = .ended o w1) := by
 have hx : (s.runT P w #[]) = (.halt h wh, (s.runT P w #[]).2) := by rw [← hr, ← Sem.runT_fst P s w #[]]
 unfold stepG.apply
 rw [hx]
 cases h with
 | panic p =>
  left
  simp only [if_true, GStep.after]
  refine ⟨_, _, _, [{ v := p, recovered := false }], rfl, ?_, ?_, ?_⟩ <;> unfold Frame.raise <;> rw [hm]
 | goexit => cases hi
 | blocked => cases hi
 | waiting => cases hi
 | fatal m => cases hi
 | throw m => cases hi
 | exit c => cases hi
 | stuck c => right; simp only [if_true, GStep.after]; exact ⟨_, _, rfl⟩
 | unsupported u =>
  right
  cases u <;> first | (cases hi; done) | (simp only [if_true, GStep.after]; exact ⟨_, _, rfl⟩)
theorem stepG_leaveF {P : Program} {f : FuncId} {ts : Array Value} {todo : List Item} {cs : List Frame} {w w1 : World} {fn : Func} {h : Halt} (hf : P.funcs[f]? = some fn) (hr : (results fn ts).run P w = .halt h w1) :
  ∃ o w2, (stepG P true (G (fra f ts todo true) cs) w).bare = .ended o w2 := by
 cases h <;> exact ⟨_, _, by simp [G, fra, stepG, unwind, Frame.at, base, hf, hr, GStep.after]; first | rfl | exact ⟨rfl, rfl⟩⟩
section
variable {C : Ctx} {r r' : Ren}
theorem stepForm (ok : CtxOk C) {X : List Frame} {bs : List Frame} {f f' : Frame} {L L' : List Frame} {w v : World} (hf : FrR C r f f') (hl : LR C r X bs L L') (hw : WR C r w v) (ht : TE w v)
  (hnf : ¬ (f.mode = .returning ∧ L = X)) : Form C.Px f L w := by
 cases hf with
 | @mk f ts ts' todo todo' m hF hv hk =>
  cases m with
  | true =>
   cases hl with
   | nil => exact absurd ⟨rfl, rfl⟩ hnf
   | @cons c c' L1 L1' hc hl' =>
    obtain ⟨fn, bd, h1, h2⟩ := hF.body
    cases hrun : (results fn ts).run C.Px w with
    | halt h wh => exact .inr (.inr (stepG_leaveF (P := C.Px) h1 hrun))
    | ok x w1 =>
     refine .still (stepG_leaveE (P := C.Px) h1 hrun) ?_
     cases hc with
     | @mk f2 ts2 ts2' todo2 todo2' m2 a b c =>
      have : ((fra f2 ts2 todo2 m2).finish x).mode = (fra f2 ts2 todo2 m2).mode := by
       unfold Frame.finish
       split <;> rfl
      rw [this]
      cases m2
      ·exact .inl rfl
      ·exact .inr rfl
  | false =>
   cases hk with
   | nil => exact .still (by rw [fra_run, stepG_end]) (.inr rfl)
   | stop h h0 => exact .inr (.inr ⟨_, _, by simp [G, fra, stepG, stepG.exec, Frame.at, base]; first | rfl | exact ⟨rfl, rfl⟩⟩)
   | part hk => exact .still (by rw [fra_run, stepG_seq]) (.inl rfl)
   | @cons x k k' hk0 hk1 =>
    cases x with
    | code c =>
     cases c with
     | skip => exact .still (by rw [fra_run, stepG_skip]) (.inl rfl)
     | ret => exact .still (by rw [fra_run, stepG_ret']) (.inr rfl)
     | seq a b => exact .still (by rw [fra_run, stepG_seq]) (.inl rfl)
     | block id b => exact .still (by rw [fra_run, stepG_block]) (.inl rfl)
     | loop b => exact .still (by rw [fra_run, stepG_loop]) (.inl rfl)
     | exit id =>
      cases he : exitTo id k with
      | none => exact .inr (.inr ⟨_, _, by simp [G, fra, stepG, stepG.exec, Frame.at, he, base]; first | rfl | exact ⟨rfl, rfl⟩⟩)
      | some k' => exact .still (by rw [fra_run, stepG_exit he]) (.inl rfl)
     | cond c a b =>
      by_cases hb : ∃ t, (Act.mk ts []).eval c = .bool t
      ·obtain ⟨t, hb⟩ := hb
       exact .still (by rw [fra_run, stepG_cond hb]) (.inl rfl)
      ·have hst : ∃ o, (stepG C.Px true (G (fra f ts (.code (.cond c a b) :: k) false) L) w).bare = .ended o w := by
        have h' := Frame.eval_at (base f) ⟨ts, []⟩ (.code (.cond c a b) :: k) c
        simp only [Frame.at] at h'
        simp only [G, fra, stepG, stepG.exec, Frame.at, Bool.false_eq_true, if_false, h']
        generalize (Act.mk ts []).eval c = u at hb
        cases u <;> first | exact absurd ⟨_, rfl⟩ hb | exact ⟨_, rfl⟩
       obtain ⟨o, hst⟩ := hst
       exact .inr (.inr ⟨o, w, hst⟩)
     | region id ops draw =>
      cases draw with
      | false => exact .still (by rw [fra_run, stepG_region]) (.inl rfl)
      | true => exact .still (by rw [fra_run, stepG_region_draw]) (.inl rfl)
     | _ => cases hk0
    | inBlock id => exact .still (by rw [fra_run, stepG_inBlock]) (.inl rfl)
    | inLoop b => exact .still (by rw [fra_run, stepG_inLoop]) (.inl rfl)
    | inRegion ops is =>
     cases is with
     | nil => exact .still (by rw [fra_run, stepG_region_end]) (.inl rfl)
     | cons i rest =>
      cases ho : ops[i]? with
      | none => exact .still (stepG_noOp ho) (.inl rfl)
      | some o =>
       cases hwn : Region.wanted o (yielded ops ts) with
       | false => exact .still (by rw [fra_run, stepG_unwanted ho hwn]) (.inl rfl)
       | true =>
        have hoo : okOp C.tb C.F (C.D f) o = true := by
         simp only [okI, Bool.and_eq_true] at hk0
         obtain ⟨hi, rfl⟩ := Array.getElem?_eq_some_iff.1 ho
         exact List.all_eq_true.1 hk0.1 _ (by simp)
        have he : ∀ x, okX C.F (C.D f) x = true → VR C r ((Act.mk ts []).eval x) ((Act.mk ts' []).eval x) := by
         intro x hx
         cases x with
         | tmp t => exact hv.getD hx vr_undef
         | const c => exact vr_flat hx
         | global g => cases hx
         | func g => exact .func hx rfl (fun i x y h => by simp at h) rfl (fun i x y h => by simp at h)
        have sim := simOp ok (fun g h => ⟨f, h⟩) hoo he (fun _ => rfl) (fun _ => rfl) w v #[] #[] hw ht (by simp)
        have hki : (base f).kind ≠ .early := by simp [base]
        simp only [fra_run]
        cases hrun : (execOp (Act.mk ts []).eval o).run C.Px w with
        | halt h wh =>
         have hni := sim.2.1 h wh _ (by rw [← hrun, ← Sem.runT_fst _ _ _ #[]])
         unfold Form
         rw [stepG_oper ho hwn]
         exact .inr (apply_form rfl hrun hni)
        | ok n w1 =>
         obtain ⟨n', v1, fs1, r1, e1, x1, hw1, ht1, hf1, q1⟩ := sim.1 n w1 ((execOp (Act.mk ts []).eval o).runT C.Px w #[]).2 (by rw [← hrun, ← Sem.runT_fst _ _ _ #[]])
         rcases q1.out with ⟨a, b, rfl, rfl, hab⟩ | ⟨rfl, rfl⟩ | ⟨fn, xs, ys, rfl, rfl, hF, hxy⟩
         ·exact .still (stepG_value ho hwn hki hrun) (.inl rfl)
         ·exact .still (stepG_none ho hwn hki hrun) (.inl rfl)
         ·refine .still (stepG_enter ho hwn hki hrun) (.inl ?_)
          obtain ⟨⟨fc, h1, h2, h3⟩, _⟩ := ok.both hF
          have h1' : C.Px.funcs[fn]? = some fc := h1
          cases hb : fc.body with
          | none => rw [hb] at h3; cases h3
          | some c => rw [enter_at xs h1' hb]; rfl
    | _ => cases hk0
end
end Rn
namespace Rn
open Go.Conc
section
variable {C : Ctx} {r r' : Ren}
theorem WR.tp {w v : World} (h : WR C r w v) (t : Tp) (d : Nat) : WR C r (w.tp t d) v := ⟨h.lt, h.fn, h.inj, h.obj, h.win, h.winG, h.glob, h.big, h.shz, h.roLt, h.noInfo⟩
theorem LR.plain {X : List Frame} {bs : List Frame} : ∀ {L L' : List Frame}, LR C r X bs L L' → ∃ cs, L = cs ++ X ∧ ∀ c ∈ cs, PlainF C.Px c
 | _, _, .nil => ⟨[], rfl, fun c h => by simp at h⟩
 | _, _, .cons (f := f) a b => by
  obtain ⟨cs, e, h⟩ := LR.plain b
  refine ⟨f :: cs, by rw [e]; rfl, fun c hc => ?_⟩
  rcases List.mem_cons.1 hc with rfl | hc
  ·cases a with
   | mk m hF _ _ =>
    obtain ⟨fn, c, h1, _⟩ := hF.body
    exact ⟨rfl, ⟨fn, h1⟩, by cases m <;> first | exact .inl rfl | exact .inr rfl⟩
  ·exact h c hc
theorem stepOn (ok : CtxOk C) {R : Bool → Value → World → Prop} {s0 : St} {n N : Nat} {f f' : Frame} {L L' : List Frame} {w v : World} {bs : List Frame} {main : Bool} (hR : Res C.Px R s0) (hp : Path C.Px s0 n N ⟨f, L, w⟩)
    (hf : FrR C r f f') (hl : LR C r [Xb] bs L L') (hw : WR C r w v) :
    ∃ t d, TE (w.tp t d) v ∧
      ((L = [Xb] ∧ ∃ b x, R b x (w.tp t d) ∧ Ends C.Px b f (w.tp t d) x) ∨
       ∃ f1 L1 w1 m, ¬ (f.mode = .returning ∧ L = [Xb]) ∧ ¬ StopF f ∧ Path C.Px s0 (n + m) (N + 1) ⟨f1, L1, w1⟩ ∧ Rel C.Px ⟨f1, L1, w1⟩ ⟨f, L, w⟩ ∧ Answers C r [Xb] bs main f' L' (w.tp t d) v (G f1 L1) w1) := by
  obtain ⟨cs, rfl, hcs⟩ := hl.plain
  obtain ⟨t, ha, K, b, x, w', fr, hK, hRx, hlv⟩ := hR.ahead hp (by simp) v.tape v.drawn
  have hT : TE (w.tp t n) v := ha
  have hwt := hw.tp t n
  refine ⟨t, n, hT, ?_⟩
  by_cases h0 : K = 0
  · subst h0
    simp only [runN, St.at] at hK
    unfold lone at hK
    simp at hK
    obtain ⟨e1, e2, e3⟩ := hK
    refine .inl ⟨by rw [e3]; rfl, b, x, ?_, ?_⟩
    · rw [e1]; exact hRx
    · rw [e1, e2]; exact hlv
  · obtain ⟨k, rfl⟩ : ∃ k, K = k + 1 := ⟨K - 1, by omega⟩
    have hfin : ¬ (f.mode = .returning ∧ cs ++ [Xb] = [Xb]) := by
      rintro ⟨hm, he⟩
      have hcs0 : cs = [] := by simpa using he
      subst hcs0
      have hstep : ∀ m, runN C.Px (k + 1) (lone f [Xb] (w.tp t n)) = .next m → (∃ fr w', m = lone fr [Xb] w') → False := by
        rintro m hr ⟨fr, w', rfl⟩
        cases hf with
        | @mk fid ts ts' todo todo' m2 hF hv hk =>
          cases m2 with
          | false => cases hm
          | true =>
            obtain ⟨fn, bd, h1, h2⟩ := hF.body
            cases hrun : (results fn ts).run C.Px (w.tp t n) with
            | halt h wh =>
              obtain ⟨o, w2, he⟩ := stepG_leaveF (P := C.Px) (todo := todo) (cs := [Xb]) h1 hrun
              simp only [runN] at hr
              rw [step_lone_ended he] at hr
              cases hr
            | ok y w1 =>
              have hs : step C.Px (lone (fra fid ts todo true) [Xb] (w.tp t n)) = .next (lone Xb [] w1) := step_lone_go (by
                show (stepG C.Px true (G (fra fid ts todo true) [Xb]) (w.tp t n)).bare = _
                rw [stepG_leaveE (P := C.Px) h1 hrun]
                rfl)
              simp only [runN, hs] at hr
              cases k with
              | zero => simp only [runN] at hr; unfold lone at hr; simp at hr
              | succ k =>
                simp only [runN] at hr
                cases hq : step C.Px (lone Xb [] w1) with
                | next m1 => exact absurd hq (step_Xb _ _ m1)
                | ended o w2 => rw [hq] at hr; cases hr
      exact hstep _ hK ⟨fr, w', rfl⟩
    have hns : ¬ StopF f := fun hst => by
      simp only [runN, St.at] at hK
      cases hs : step C.Px (lone f (cs ++ [Xb]) (w.tp t n)) with
      | next m1 => exact step_stop hst _ _ _ hs
      | ended o w1 => rw [hs] at hK; cases hK
    right
    rcases stepForm ok hf hl hwt hT hfin with ⟨f1, L1, w1, es, hs, hn⟩ | ⟨f1, w1, es, chain, hs, hm, hd, hfn⟩ | ⟨o, w1, hs⟩
    · have hans := stepSim (main := main) ok hf hl hwt hT hs hn hfin
      have hloc := stepLoc ok hf hl hwt hT hs hn hfin
      obtain ⟨m, hls, _, _⟩ := LStep.one hloc
      have hpath : Path C.Px ⟨f, cs ++ [Xb], w⟩ m 1 ⟨f1, L1, w1⟩ := ⟨_, _, hls⟩
      exact ⟨f1, L1, w1, m, hfin, hns, hp.trans hpath, ⟨m, 1, Nat.le_refl _, hpath⟩, hans⟩
    · exfalso
      have h1 : step C.Px (lone f (cs ++ [Xb]) (w.tp t n)) = .next (lone f1 (cs ++ [Xb]) w1) := step_lone_go (by
        show (stepG C.Px true (G f (cs ++ [Xb])) (w.tp t n)).bare = _
        rw [hs]; rfl)
      have hK' : runN C.Px (k + 1) (lone f (cs ++ [Xb]) (w.tp t n)) = .next (lone fr [Xb] w') := hK
      simp only [runN, h1] at hK'
      have hpf : f.defers = [] ∧ ∃ fn, C.Px.funcs[f.fn]? = some fn := by
        cases hf with
        | mk m hF _ _ =>
          obtain ⟨fn, c, h1, _⟩ := hF.body
          exact ⟨rfl, fn, h1⟩
      exact pan_never hm (hd.trans hpf.1) (by rw [hfn]; exact hpf.2) hcs hlv.mode hK'
    · exfalso
      have hK' : runN C.Px (k + 1) (lone f (cs ++ [Xb]) (w.tp t n)) = .next (lone fr [Xb] w') := hK
      simp only [runN] at hK'
      rw [step_lone_ended hs] at hK'
      cases hK'
end
end Rn
namespace Rn
open Go.Conc
abbrev Bl := Nat → Prop
structure Stays (keep : Bl) (w w1 : World) : Prop where
 tape : w1.tape = w.tape
 os : w1.os = w.os
 output : w1.output = w.output
 size : w.heap.size ≤ w1.heap.size
 block : ∀ b, b < w.heap.size → keep b → w1.heap[b]? = w.heap[b]?
theorem Stays.refl (keep : Bl) (w : World) : Stays keep w w := ⟨rfl, rfl, rfl, Nat.le_refl _, fun _ _ _ => rfl⟩
theorem Stays.trans {keep : Bl} {a b c : World} (h : Stays keep a b) (k : Stays keep b c) : Stays keep a c :=
 ⟨k.tape.trans h.tape, k.os.trans h.os, k.output.trans h.output, Nat.le_trans h.size k.size, fun i hi hk => (k.block i (Nat.lt_of_lt_of_le hi h.size) hk).trans (h.block i hi hk)⟩
theorem Stays.less {keep keep' : Bl} {a b : World} (h : Stays keep a b) (hk : ∀ i, keep' i → keep i) : Stays keep' a b := ⟨h.tape, h.os, h.output, h.size, fun i hi h' => h.block i hi (hk i h')⟩
def Made (w w' : World) : Bl := fun b => w.heap.size ≤ b ∧ b < w'.heap.size
def EvOwn (own ro : Bl) (e : Event) : Prop :=
 (e.sync = false ∧ ((∃ q, e.loc = .cell q ∧ (own q.block ∨ (ro q.block ∧ e.write = false))) ∨ (∃ b, e.loc = .obj b ∧ (own b ∨ (ro b ∧ e.write = false))))) ∨ e = ⟨.mark .noRoom, false, true⟩
structure Did (own ro : Bl) (w w' : World) (es : Array Event) : Prop where
 tape : w'.tape = w.tape
 os : w'.os = w.os
 output : w'.output = w.output
 size : w.heap.size ≤ w'.heap.size
 block : ∀ b, b < w.heap.size → ¬ own b → w'.heap[b]? = w.heap[b]?
 ev : ∀ e ∈ es, EvOwn (fun b => own b ∨ Made w w' b) ro e
inductive Way (P : Program) (main : Bool) (ro : Bl) (Stop : Bl → Goroutine → World → Prop) : Bl → Goroutine → World → Prop
 | stop {own : Bl} {g : Goroutine} {w : World} : (∀ w1, Stays (fun b => own b ∨ ro b) w w1 → Stop own g w1) → Way P main ro Stop own g w
 | step {own : Bl} {g : Goroutine} {w : World} (ng : World → Goroutine) (nw : World → World) (ne : World → Array Event) : g.status = .running →
   (∀ w1, Stays (fun b => own b ∨ ro b) w w1 → stepG P main g w1 = .go (ng w1) (nw w1) (ne w1) ∧ Did own ro w1 (nw w1) (ne w1)) →
   (∀ w1, Stays (fun b => own b ∨ ro b) w w1 → Way P main ro Stop (fun b => own b ∨ Made w1 (nw w1) b) (ng w1) (nw w1)) → Way P main ro Stop own g w
open Classical in
theorem Way.next {P : Program} {main : Bool} {ro : Bl} {Stop : Bl → Goroutine → World → Prop} {own : Bl} {g : Goroutine} {w : World} (hg : g.status = .running)
  (h : ∀ w1, Stays (fun b => own b ∨ ro b) w w1 → ∃ g' w' es, stepG P main g w1 = .go g' w' es ∧ Did own ro w1 w' es ∧ Way P main ro Stop (fun b => own b ∨ Made w1 w' b) g' w') : Way P main ro Stop own g w := by
 let ch : World → Goroutine × World × Array Event := fun w1 => match stepG P main g w1 with
  | .go g' w' es => (g', w', es)
  | _ => (g, w1, #[])
 refine .step (fun w1 => (ch w1).1) (fun w1 => (ch w1).2.1) (fun w1 => (ch w1).2.2) hg (fun w1 hs => ?_) (fun w1 hs => ?_)
 ·obtain ⟨g', w', es, h1, h2, _⟩ := h w1 hs
  have e : ch w1 = (g', w', es) := by show (match stepG P main g w1 with | .go g' w' es => (g', w', es) | _ => (g, w1, #[])) = _; rw [h1]
  rw [e]
  exact ⟨h1, h2⟩
 ·obtain ⟨g', w', es, h1, _, h3⟩ := h w1 hs
  have e : ch w1 = (g', w', es) := by show (match stepG P main g w1 with | .go g' w' es => (g', w', es) | _ => (g, w1, #[])) = _; rw [h1]
  rw [e]
  exact h3
section
variable {C : Ctx} {r r' : Ren}
def Within2 (C : Ctx) (r : Ren) (own ro : Bl) : Prop := ∀ a b, r a b → (¬ C.RO a → own b) ∧ (C.RO a → ro b)
theorem WR.stays {w v v1 : World} {own ro : Bl} (h : WR C r w v) (hi : Within2 C r own ro) (hs : Stays (fun b => own b ∨ ro b) v v1) : WR C r w v1 := by
 have keep : ∀ a b, r a b → v1.heap[b]? = v.heap[b]? := fun a b ab => hs.block b (h.lt a b ab).2 (by
  by_cases hr : C.RO a
  ·exact .inr ((hi a b ab).2 hr)
  ·exact .inl ((hi a b ab).1 hr))
 exact ⟨fun a b ab => ⟨(h.lt a b ab).1, Nat.lt_of_lt_of_le (h.lt a b ab).2 hs.size⟩, h.fn, h.inj, fun a b ab hr => by rw [keep a b ab]; exact h.obj a b ab hr, fun a b ab hr => by rw [keep a b ab]; exact h.win a b ab hr,
  h.winG, h.glob, ⟨h.big.1, Nat.le_trans h.big.2 hs.size⟩, h.shz, h.roLt, h.noInfo⟩
theorem Ext.within {w v w' v' : World} {own ro : Bl} (h : Ext C r w v r' w' v') (hw : WR C r w v) (hw' : WR C r' w' v') (hi : Within2 C r own ro) : Within2 C r' (fun b => own b ∨ Made v v' b) ro := by
 intro a b ab
 rcases h.new a b ab with h1 | ⟨i, rfl, rfl⟩
 ·exact ⟨fun hr => .inl ((hi a b h1).1 hr), (hi a b h1).2⟩
 ·exact ⟨fun _ => .inr ⟨Nat.le_add_right _ _, (hw'.lt _ _ ab).2⟩, fun hr => absurd (hw.roLt _ hr) (by omega)⟩
theorem Ext.did {w v w' v' : World} {own ro : Bl} {es : Array Event} (h : Ext C r w v r' w' v') (hw : WR C r w v) (hw' : WR C r' w' v') (hi : Within2 C r own ro) (he : ∀ f ∈ es, EvOk C r' f) : Did own ro v v' es := by
 have hi' := h.within hw hw' hi
 refine ⟨h.tape, h.os, h.output, by have := h.size; have := h.sizeL; omega, fun b hb hn => ?_, fun e hem => ?_⟩
 ·by_cases hx : ∃ a, r a b
  ·obtain ⟨a, ab⟩ := hx
   by_cases hr : C.RO a
   ·exact h.keepRO a b ab hr
   ·exact absurd ((hi a b ab).1 hr) hn
  ·exact h.keep b hb fun a ab => hx ⟨a, ab⟩
 ·have one : ∀ a b, r' a b → (e.write = true → ¬ C.RO a) → ((own b ∨ Made v v' b) ∨ (ro b ∧ e.write = false)) := by
   intro a b ab hwr
   by_cases hr : C.RO a
   ·refine .inr ⟨(hi' a b ab).2 hr, ?_⟩
    cases hq : e.write with
    | false => rfl
    | true => exact absurd hr (hwr hq)
   ·exact .inl ((hi' a b ab).1 hr)
  rcases he e hem with ⟨hs, ⟨q, hq, a, ab, hwr⟩ | ⟨b, hq, a, ab, hwr⟩⟩ | h1
  ·exact .inl ⟨hs, .inl ⟨q, hq, one a _ ab hwr⟩⟩
  ·exact .inl ⟨hs, .inr ⟨b, hq, one a _ ab hwr⟩⟩
  ·exact .inr h1
def AtEnd (C : Ctx) (R : Bool → Value → World → Prop) (ro : Bl) (bs : List Frame) (own : Bl) (g : Goroutine) (v : World) : Prop :=
 ∃ r w f f' b x, g = G f' bs ∧ FrR C r f f' ∧ WR C r w v ∧ TE w v ∧ Within2 C r own ro ∧ R b x w ∧ Ends C.Px b f w x
theorem way_of_res (ok : CtxOk C) (hsp : ∀ k f, C.D k (specAt f) = true) (hall : ∀ f, C.F f = true → Fine C f) {R : Bool → Value → World → Prop} {s0 : St} {bs : List Frame} {main : Bool} {ro : Bl} (hR : Res C.Px R s0) :
  ∀ (s : St), Acc (Rel C.Px) s → ∀ {n N : Nat} {r : Ren} {f' : Frame} {L' : List Frame} {v : World} {own : Bl}, Path C.Px s0 n N s → FrR C r s.f f' → LR C r [Xb] bs s.L L' → WR C r s.w v → Within2 C r own ro →
   Way C.P main ro (AtEnd C R ro bs) own (G f' L') v := by
 intro s hacc
 induction hacc with
 | intro s _ ih =>
  obtain ⟨f, L, w⟩ := s
  intro n N r f' L' v own hp hf hl hw hi
  by_cases hend : (f.mode = .returning ∨ StopF f) ∧ L = [Xb]
  ·obtain ⟨hm, rfl⟩ := hend
   refine .stop fun v1 hs => ?_
   have hw1 := hw.stays hi hs
   obtain ⟨t, d, hT, ⟨_, b, x, hRx, hlv⟩ | ⟨f1, L1, w1, m, hnf, hns, hp1, hrel, hans⟩⟩ := stepOn (main := main) ok hR hp hf hl hw1
   ·cases hl with
    | nil => exact ⟨r, w.tp t d, f, f', b, x, rfl, hf, hw1.tp t d, hT, hi, hRx, hlv⟩
    | cons a b => cases b
   ·rcases hm with hm | hm
    ·exact absurd ⟨hm, rfl⟩ hnf
    ·exact absurd hm hns
  ·refine .next rfl fun v1 hs => ?_
   have hw1 := hw.stays hi hs
   obtain ⟨t, d, hT, ⟨hL, b, x, hRx, hlv⟩ | ⟨f1, L1, w1, m, hnf, hns, hp1, hrel, h', v', es, r', hstep, hx, hw', hT', hev, hout⟩⟩ := stepOn (main := main) ok hR hp hf hl hw1
   ·exact absurd ⟨hlv.fin, hL⟩ hend
   ·refine ⟨h', v', es, hstep, hx.did (hw1.tp t d) hw' hi hev, ?_⟩
    cases hout with
    | go a b => exact ih ⟨f1, L1, w1⟩ hrel hp1 a b hw' (hx.within (hw1.tp t d) hw' hi)
    | call hF hnf _ _ _ => exact absurd (hall _ (hF.resolve_right fun ⟨⟨k, h⟩, _⟩ => by rw [hsp] at h; cases h)) hnf
end
end Rn
namespace Rn
open Go.Conc
inductive Tree
 | leaf
 | node (f : World → Tree)
inductive TLt : Tree → Tree → Prop
 | mk (f : World → Tree) (w : World) : TLt (f w) (.node f)
theorem TLt.wf : WellFounded TLt := ⟨fun t => by
 induction t with
 | leaf => exact ⟨_, fun y h => by cases h⟩
 | node f ih => exact ⟨_, fun y h => by cases h with | mk f w => exact ih w⟩⟩
def natT : Nat → Tree
 | 0 => .leaf
 | n + 1 => .node fun _ => natT n
theorem natT_lt (w : World) (n : Nat) : TLt (natT n) (natT (n + 1)) := .mk (fun _ => natT n) w
def FL : Nat → (Nat → Tree) → (Nat → Tree) → Prop
 | 0, _, _ => False
 | n + 1, a, b => TLt (a n) (b n) ∨ (a n = b n ∧ FL n a b)
theorem FL.wf : ∀ n, WellFounded (FL n)
 | 0 => ⟨fun a => ⟨_, fun y h => h.elim⟩⟩
 | n + 1 => by
  have h := (Prod.lex ⟨TLt, TLt.wf⟩ ⟨FL n, FL.wf n⟩).wf
  refine Subrelation.wf (r := InvImage (Prod.Lex TLt (FL n)) fun a => (a n, a)) ?_ (InvImage.wf _ h)
  intro a b hab
  rcases hab with hab | ⟨e, hab⟩
  ·exact Prod.Lex.left _ _ hab
  ·show Prod.Lex _ _ (a n, a) (b n, b)
   rw [e]
   exact Prod.Lex.right _ hab
theorem FL.at {n k : Nat} (hk : k < n) {a b : Nat → Tree} (h : TLt (a k) (b k)) (he : ∀ m, k < m → m < n → a m = b m) : FL n a b := by
 induction n with
 | zero => omega
 | succ n ih =>
  by_cases e : k = n
  ·subst e; exact .inl h
  ·exact .inr ⟨he n (by omega) (by omega), ih (by omega) fun m h1 h2 => he m h1 (by omega)⟩
def Plus (own : Bl) (w w' : World) : Bl := fun b => own b ∨ Made w w' b
theorem Plus.same {own : Bl} {w w' : World} (h : w'.heap.size = w.heap.size) : Plus own w w' = own := by
 funext b
 refine propext ⟨fun x => x.elim id fun ⟨a, c⟩ => absurd c (by omega), .inl⟩
section
variable {P : Program} {main : Bool} {R R' : Bl → World → World → Prop} {D D' : Bl → World → World → Array Event → Prop} {Stop Stop' : Bl → Goroutine → World → Prop}
inductive WayG (P : Program) (main : Bool) (R : Bl → World → World → Prop) (D : Bl → World → World → Array Event → Prop) (Stop : Bl → Goroutine → World → Prop) : Bl → Goroutine → World → Prop
 | stop {own : Bl} {g : Goroutine} {w : World} : (∀ w1, R own w w1 → Stop own g w1) → WayG P main R D Stop own g w
 | step {own : Bl} {g : Goroutine} {w : World} (ng : World → Goroutine) (nw : World → World) (ne : World → Array Event) : g.status = .running →
   (∀ w1, R own w w1 → stepG P main g w1 = .go (ng w1) (nw w1) (ne w1) ∧ D own w1 (nw w1) (ne w1)) →
   (∀ w1, R own w w1 → WayG P main R D Stop (Plus own w1 (nw w1)) (ng w1) (nw w1)) → WayG P main R D Stop own g w
open Classical in
theorem WayG.next {own : Bl} {g : Goroutine} {w : World} (hg : g.status = .running)
  (h : ∀ w1, R own w w1 → ∃ g' w' es, stepG P main g w1 = .go g' w' es ∧ D own w1 w' es ∧ WayG P main R D Stop (Plus own w1 w') g' w') : WayG P main R D Stop own g w := by
 let ch : World → Goroutine × World × Array Event := fun w1 => match stepG P main g w1 with
  | .go g' w' es => (g', w', es)
  | _ => (g, w1, #[])
 have key : ∀ w1, R own w w1 → ∃ g' w' es, ch w1 = (g', w', es) ∧ stepG P main g w1 = .go g' w' es ∧ D own w1 w' es ∧ WayG P main R D Stop (Plus own w1 w') g' w' := fun w1 hs => by
  obtain ⟨g', w', es, h1, h2, h3⟩ := h w1 hs
  refine ⟨g', w', es, ?_, h1, h2, h3⟩
  show (match stepG P main g w1 with | .go g' w' es => (g', w', es) | _ => (g, w1, #[])) = _
  rw [h1]
 refine .step (fun w1 => (ch w1).1) (fun w1 => (ch w1).2.1) (fun w1 => (ch w1).2.2) hg (fun w1 hs => ?_) (fun w1 hs => ?_)
 ·obtain ⟨g', w', es, e, h1, h2, _⟩ := key w1 hs
  rw [e]
  exact ⟨h1, h2⟩
 ·obtain ⟨g', w', es, e, _, _, h3⟩ := key w1 hs
  rw [e]
  exact h3
theorem WayG.bind (refl : ∀ own w, R own w w) (hR : ∀ own w w1, R' own w w1 → R own w w1) (hD : ∀ own w w' es, D own w w' es → D' own w w' es)
  (k : ∀ own g w, Stop own g w → WayG P main R' D' Stop' own g w) {own : Bl} {g : Goroutine} {w : World} (h : WayG P main R D Stop own g w) : WayG P main R' D' Stop' own g w := by
 induction h with
 | @stop own g w h => exact k _ _ _ (h w (refl own w))
 | step ng nw ne hg h1 _ ih => exact .step ng nw ne hg (fun w1 hr => ⟨(h1 w1 (hR _ _ _ hr)).1, hD _ _ _ _ (h1 w1 (hR _ _ _ hr)).2⟩) fun w1 hr => ih w1 (hR _ _ _ hr)
theorem WayG.of_goes {R0 : World → World → Prop} {D0 : World → World → Array Event → Prop} {St : Goroutine → World → Prop} {own : Bl} (hR : ∀ w w1, R own w w1 → R0 w w1)
  (hD : ∀ w w' es, D0 w w' es → D own w w' es ∧ w'.heap.size = w.heap.size) : ∀ {n : Nat} {g : Goroutine} {w : World}, Goes P main R0 D0 St n g w → WayG P main R D (fun o g w => o = own ∧ St g w) own g w := by
 intro n
 induction n with
 | zero => exact fun h => .stop fun w1 hr => ⟨rfl, h w1 (hR _ _ hr)⟩
 | succ n ih =>
  intro g w h
  rcases h with h | ⟨hg, h⟩
  ·exact .stop fun w1 hr => ⟨rfl, h w1 (hR _ _ hr)⟩
  ·refine .next hg fun w1 hr => ?_
   obtain ⟨g', w', es, e, d, k⟩ := goes_elim (h w1 (hR _ _ hr))
   obtain ⟨d1, d2⟩ := hD _ _ _ d
   exact ⟨g', w', es, e, d1, by rw [Plus.same d2]; exact ih k⟩
theorem Way.toG {ro : Bl} {own : Bl} {g : Goroutine} {w : World} (h : Way P main ro Stop own g w) : WayG P main (fun own => Stays (fun b => own b ∨ ro b)) (fun own => Did own ro) Stop own g w := by
 induction h with
 | stop h => exact .stop h
 | step ng nw ne hg h1 _ ih => exact .step ng nw ne hg h1 ih
inductive WayT (P : Program) (main : Bool) (R : Bl → World → World → Prop) (D : Bl → World → World → Array Event → Prop) (Stop : Bl → Goroutine → World → Prop) : Tree → Bl → Goroutine → World → Prop
 | stop {T : Tree} {own : Bl} {g : Goroutine} {w : World} : (∀ w1, R own w w1 → Stop own g w1) → WayT P main R D Stop T own g w
 | step {f : World → Tree} {own : Bl} {g : Goroutine} {w : World} (ng : World → Goroutine) (nw : World → World) (ne : World → Array Event) : g.status = .running →
   (∀ w1, R own w w1 → stepG P main g w1 = .go (ng w1) (nw w1) (ne w1) ∧ D own w1 (nw w1) (ne w1)) →
   (∀ w1, R own w w1 → WayT P main R D Stop (f w1) (Plus own w1 (nw w1)) (ng w1) (nw w1)) → WayT P main R D Stop (.node f) own g w
open Classical in
theorem WayG.tree {own : Bl} {g : Goroutine} {w : World} (h : WayG P main R D Stop own g w) : ∃ T, WayT P main R D Stop T own g w := by
 induction h with
 | stop h => exact ⟨.leaf, .stop h⟩
 | @step own g w ng nw ne hg h1 _ ih =>
  let f : World → Tree := fun w1 => if h : R own w w1 then Classical.choose (ih w1 h) else .leaf
  refine ⟨.node f, .step ng nw ne hg h1 fun w1 hr => ?_⟩
  have e : f w1 = Classical.choose (ih w1 hr) := dif_pos hr
  rw [e]
  exact Classical.choose_spec (ih w1 hr)
theorem WayT.way {T : Tree} {own : Bl} {g : Goroutine} {w : World} (h : WayT P main R D Stop T own g w) : WayG P main R D Stop own g w := by
 induction h with
 | stop h => exact .stop h
 | step ng nw ne hg h1 _ ih => exact .step ng nw ne hg h1 ih
theorem WayT.rely (trans : ∀ own a b c, R own a b → R own b c → R own a c) {T : Tree} {own : Bl} {g : Goroutine} {w w1 : World} (h : WayT P main R D Stop T own g w) (hr : R own w w1) : WayT P main R D Stop T own g w1 := by
 cases h with
 | stop h => exact .stop fun w2 h2 => h w2 (trans _ _ _ _ hr h2)
 | step ng nw ne hg h1 h2 => exact .step ng nw ne hg (fun w2 h3 => h1 w2 (trans _ _ _ _ hr h3)) fun w2 h3 => h2 w2 (trans _ _ _ _ hr h3)
theorem WayT.inv (refl : ∀ own w, R own w w) {T : Tree} {own : Bl} {g : Goroutine} {w : World} (h : WayT P main R D Stop T own g w) :
  (∀ w1, R own w w1 → Stop own g w1) ∨ (g.status = .running ∧ ∃ T' g' w' es, TLt T' T ∧ stepG P main g w = .go g' w' es ∧ D own w w' es ∧ WayT P main R D Stop T' (Plus own w w') g' w') := by
 cases h with
 | stop h => exact .inl h
 | @step f _ _ _ ng nw ne hg h1 h2 => exact .inr ⟨hg, f w, ng w, nw w, ne w, .mk f w, (h1 w (refl _ _)).1, (h1 w (refl _ _)).2, h2 w (refl _ _)⟩
theorem WayT.running (refl : ∀ own w, R own w w) (hs : ∀ own g w, Stop own g w → g.status = .running) {T : Tree} {own : Bl} {g : Goroutine} {w : World} (h : WayT P main R D Stop T own g w) : g.status = .running := by
 rcases h.inv refl with h | ⟨h, _⟩
 ·exact hs _ _ _ (h w (refl _ _))
 ·exact h
end
end Rn
end Go.Proofs.YtbpnbhemdbgmjaaGreat
