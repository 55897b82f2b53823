/-
  Texts that the law stands on, part 11.
-/
import Derived.Test.YtbpnbhemdbgmjaaGreatC1
import Derived.Test.YtbpnbhemdbgmjaaGreatC8
import Derived.Test.YtbpnbhemdbgmjaaGreatC10
import Derived.Deep.Draws
import Derived.OwnWalk
import Derived.ArgAppend
import Derived.Test.YtbpnbhemdbgmjaaGreatProg
import Derived.WalkKit
import Derived.Outline
import Derived.Deep.RegionHeld3
import Derived.Deep.QuietTactic
import Derived.BigQuiet
import Derived.BigRegion
import Derived.IntWalk
set_option linter.unusedVariables false
set_option linter.unusedSimpArgs false
namespace Go.Proofs.YtbpnbhemdbgmjaaGreat
namespace Rn
open Go.Conc
open Go.ConcN (sumTo upd sumTo_upd upd_ne upd_same)
open Go.ConcR (g_of_ofEvents)
structure EvC (SB : Bl) (B : Nat) (e : Event) : Prop where
 low : ∀ x, (MemAct.ofEvent e).touch? = some x → ∀ b, lb x.loc = some b → b < B
 alive : ∀ x, (MemAct.ofEvent e).touch? = some x → ¬ DeadL SB x.loc
 nodis : e.loc ≠ .mark .disable
 noen : e.loc ≠ .mark .enable
 norel : ∀ a, e.loc ≠ .mark (.release a)
theorem EvC.evB {SB : Bl} {B : Nat} {e : Event} (h : EvC SB B e) : EvB B e := ⟨h.low, h.norel⟩
section
variable {SB : Bl} {t u : Trace}
theorem PastO.app0 (h : PastO SB t) {fn : FuncId} {pos : String} {es : Array Event} {B : Nat} (hes : ∀ e ∈ es, EvC SB B e) : PastO SB (t ++ MemOp.ofEvents 0 fn pos es) := by
 have hu : ∀ op ∈ MemOp.ofEvents 0 fn pos es, op.g = 0 := fun op hop => by obtain ⟨e, _, rfl⟩ := Go.Conc.mem_ofEvents hop; rfl
 refine ⟨fun said => noRace_append (h.clean said) hu fun i a ha op hop b hb hc => ?_, fun i a ha hm => ?_, handedOver_app h.over fun op hop => .inl (hu op hop), ?_⟩
 ·rcases h.known i a ha hc.2.1 with hk | ⟨hd, _⟩
  ·exact hk
  ·obtain ⟨e, he, rfl⟩ := Go.Conc.mem_ofEvents hop
   exact absurd (hc.1 ▸ hd) ((hes e he).alive b hb)
 ·obtain ⟨x, hx, hxa⟩ := touch_of ha
  rcases getElem?_append_cases hx with ⟨_, hx'⟩ | ⟨_, hxu⟩
  ·exact (h.known i a (by rw [touchAt_of hx']; exact hxa) hm).imp (·.app _) id
  ·have := knows_own hx
   rw [hu x hxu] at this
   exact .inl this
 ·rw [Deaf_own]
  rw [deafBehind_still (fun e he => ⟨(hes e he).nodis, (hes e he).noen⟩)]
  exact h.hears
theorem PastO.appMute {g : Nat} (h : PastO SB t) (hg : g ≠ 0) (hu : ∀ op ∈ u, op.g = g) (hn : ∀ op ∈ u, op.act.touch? = none) : PastO SB (t ++ u) := by
 refine ⟨fun said => noRace_append (h.clean said) hu fun i a _ op hop b hb _ => (by rw [hn op hop] at hb; cases hb), fun i a ha hm => ?_, handedOver_app h.over fun op hop => .inr (hn op hop), (Deaf_other t hg u hu).trans h.hears⟩
 obtain ⟨x, hx, hxa⟩ := touch_of ha
 rcases getElem?_append_cases hx with ⟨_, hx'⟩ | ⟨_, hxu⟩
 ·exact (h.known i a (by rw [touchAt_of hx']; exact hxa) hm).imp (·.app u) id
 ·rw [hn x hxu] at hxa; cases hxa
end
section
variable {P : Program} {SB : Bl}
theorem Calm.at {gs : Array Goroutine} {w : World} {t : Trace} (h : Calm P SB gs w t) (d : Nat) : Calm P SB gs (w.at d) t := ⟨h.old, h.above, h.past, h.seen, h.norel, h.sb⟩
theorem beside_any {gs : Array Goroutine} {a : Goroutine} {w : World} {sl : Option (Nat × Nat)} {t : Trace} {q : Nat → Nat} (hc : Calm P SB gs w t) (hq : ∀ i g, 0 < i → gs[i]? = some g → QuitsD P (q i) (Deaf t i) g) (h0 : gs[0]? = some a) (hrun : a.status = .running) :
  (∃ d sl', stepT P (crowd gs w sl) = runT P (crowd gs (w.at d) sl') 0) ∨
  ∃ gs' d sl' t' q', runNT P 1 (crowd gs w sl) t = (.next (crowd gs' (w.at d) sl'), t') ∧ runN P 1 (crowd gs w sl) = .next (crowd gs' (w.at d) sl') ∧ Calm P SB gs' (w.at d) t' ∧ (∀ i g, 0 < i → gs'[i]? = some g → QuitsD P (q' i) (Deaf t' i) g) ∧ gs'[0]? = some a ∧ gs'.size = gs.size ∧ sumTo gs.size q' < sumTo gs.size q := by
 have haw : ∀ g ∈ gs, awake g := by
  intro g hg
  obtain ⟨i, hi, rfl⟩ := Array.mem_iff_getElem.1 hg
  rcases Nat.eq_zero_or_pos i with rfl | hpos
  ·have : gs[0] = a := by simpa [Array.getElem?_eq_getElem hi] using h0
   rw [this]; exact awake_of (.inl hrun)
  ·exact awake_of ((hq i _ hpos (Array.getElem?_eq_getElem hi)).status.elim .inl fun x => .inr (.inr x))
 obtain ⟨i, g, d, sl', hi, hg, hst⟩ := crowd_pick (P := P) (w := w) (sl := sl) haw ⟨0, a, h0, hrun⟩
 rcases Nat.eq_zero_or_pos i with rfl | hpos
 ·exact .inl ⟨d, sl', hst⟩
 ·right
  have hqq := hq i g hpos hi
  have hi0 : (i == 0) = false := by simp; omega
  have hlt : i < gs.size := (Array.getElem?_eq_some_iff.1 hi).1
  cases hqi : q i with
  | zero => rw [hqi] at hqq; rw [hqq.1] at hg; cases hg
  | succ k =>
   rw [hqi] at hqq
   rcases hqq with ⟨hf, _⟩ | ⟨_, g', es, hm, hstp, hq'⟩
   ·rw [hf] at hg; cases hg
   have hrunT := runT_crowd_go (P := P) (sl := sl') (i := i) hi (by rw [hi0]; exact hstp (w.at d))
   have hsum : sumTo gs.size (upd q i k) + (k + 1) = sumTo gs.size q + k := by
    have := sumTo_upd q k id hlt
    simpa [hqi] using this
   have hstep := hst.trans hrunT
   have hq2 : ∀ j x, 0 < j → ((gs.map (woken P g g' (w.at d))).setIfInBounds i g')[j]? = some x → QuitsD P (upd q i k j) (Deaf (t ++ MemOp.ofEvents i g.frame.fn g.frame.place es) j) x := fun j x hj hx => by
    by_cases hji : i = j
    ·subst hji
     rw [Array.getElem?_setIfInBounds_self_of_lt (by simpa using hlt)] at hx
     obtain rfl := Option.some.inj hx
     rw [upd_same, Deaf_own]
     exact hq'
    ·rw [Array.getElem?_setIfInBounds_ne hji, Array.getElem?_map] at hx
     obtain ⟨y, hy, rfl⟩ := Option.map_eq_some_iff.1 hx
     have hqj := hq j y hj hy
     rw [woken_quitsD hqj, upd_ne q k (Ne.symm hji), Deaf_other t hji _ g_of_ofEvents]
     exact hqj
   obtain ⟨sn, nrl⟩ := seen_ofEvents (B := w.heap.size) (g := i) (fn := g.frame.fn) (pos := g.frame.place) (es := es) fun e he => evB_mute (hm e he)
   refine ⟨_, d, sl', t ++ MemOp.ofEvents i g.frame.fn g.frame.place es, upd q i k, ?_, ?_, ⟨fun j x hj hx => ⟨_, hq2 j x hj hx⟩, fun j hj => ?_, ?_, hc.seen.app (Nat.le_refl _) sn, hc.norel.app nrl, hc.sb⟩, hq2, ?_, by simp, by omega⟩
   ·rw [runNT_succ_next hstep]; rfl
   ·rw [runN_succ_next hstep]; rfl
   ·rw [Deaf_other t (g' := i) (by simp at hj; omega) _ g_of_ofEvents]
    exact hc.above j (by simpa using hj)
   ·exact hc.past.appMute (by omega) g_of_ofEvents fun op hop => by obtain ⟨e, he, rfl⟩ := Go.Conc.mem_ofEvents hop; exact touch_mute (hm e he)
   ·rw [Array.getElem?_setIfInBounds_ne (by omega), Array.getElem?_map, h0]
    simp [woken_run hrun]
theorem runN_one_add {n : Nat} {m m1 : Machine} {t t1 : Trace} (h1 : runNT P 1 m t = (.next m1, t1)) (h2 : runN P 1 m = .next m1) : runNT P (1 + n) m t = runNT P n m1 t1 ∧ runN P (1 + n) m = runN P n m1 := by
 rw [runNT_add, h1, runN_add, h2]
 exact ⟨rfl, rfl⟩
theorem beside_one : ∀ (M : Nat) {gs : Array Goroutine} {a : Goroutine} {w : World} {sl : Option (Nat × Nat)} {t : Trace} {q : Nat → Nat}, sumTo gs.size q ≤ M → Calm P SB gs w t → (∀ i g, 0 < i → gs[i]? = some g → QuitsD P (q i) (Deaf t i) g) → gs[0]? = some a → a.status = .running →
  (∀ d, ∃ a' w' es, stepG P true a (w.at d) = .go a' w' es ∧ w.heap.size ≤ w'.heap.size ∧ ∀ e ∈ es, EvC SB w'.heap.size e) →
  ∃ N gs' sl' t' d a' w' es, runNT P N (crowd gs w sl) t = (.next (crowd gs' w' sl'), t') ∧ runN P N (crowd gs w sl) = .next (crowd gs' w' sl') ∧ stepG P true a (w.at d) = .go a' w' es ∧ Calm P SB gs' w' t' ∧ gs'[0]? = some a' ∧ gs'.size = gs.size := by
 intro M
 induction M with
 | zero =>
  intro gs a w sl t q hM hc hq h0 hrun hstep
  rcases beside_any (sl := sl) hc hq h0 hrun with ⟨d, sl', hst⟩ | ⟨_, _, _, _, _, _, _, _, _, _, _, hlt⟩
  ·obtain ⟨a', w', es, hgo, hsz, hev⟩ := hstep d
   have hrunT := runT_crowd_go (P := P) (sl := sl') (i := 0) h0 (show stepG P (0 == 0) a (w.at d) = _ from hgo)
   have hstep' := hst.trans hrunT
   have hlt : 0 < gs.size := (Array.getElem?_eq_some_iff.1 h0).1
   obtain ⟨sn, nrl⟩ := seen_ofEvents (g := 0) (fn := a.frame.fn) (pos := a.frame.place) fun e he => (hev e he).evB
   refine ⟨1, _, sl', _, d, a', w', es, by rw [runNT_succ_next hstep']; rfl, by rw [runN_succ_next hstep']; rfl, hgo, ⟨fun j x hj hx => ?_, fun j hj => ?_, hc.past.app0 hev, hc.seen.app hsz sn, hc.norel.app nrl, fun b hb => Nat.lt_of_lt_of_le (hc.sb b hb) hsz⟩, by simp [hlt], by simp⟩
   ·rw [Array.getElem?_setIfInBounds_ne (by omega), Array.getElem?_map] at hx
    obtain ⟨y, hy, rfl⟩ := Option.map_eq_some_iff.1 hx
    have hqj := hq j y hj hy
    refine ⟨q j, ?_⟩
    rw [woken_quitsD hqj, Deaf_other t (by omega) _ g_of_ofEvents]
    exact hqj
   ·rw [Deaf_other t (g' := 0) (by simp at hj; omega) _ g_of_ofEvents]
    exact hc.above j (by simpa using hj)
  ·omega
 | succ M ih =>
  intro gs a w sl t q hM hc hq h0 hrun hstep
  rcases beside_any (sl := sl) hc hq h0 hrun with ⟨d, sl', hst⟩ | ⟨gs1, d, sl1, t1, q1, e1, e2, hc1, hq1, h01, hs1, hlt⟩
  ·obtain ⟨a', w', es, hgo, hsz, hev⟩ := hstep d
   have hrunT := runT_crowd_go (P := P) (sl := sl') (i := 0) h0 (show stepG P (0 == 0) a (w.at d) = _ from hgo)
   have hstep' := hst.trans hrunT
   have hlt : 0 < gs.size := (Array.getElem?_eq_some_iff.1 h0).1
   obtain ⟨sn, nrl⟩ := seen_ofEvents (g := 0) (fn := a.frame.fn) (pos := a.frame.place) fun e he => (hev e he).evB
   refine ⟨1, _, sl', _, d, a', w', es, by rw [runNT_succ_next hstep']; rfl, by rw [runN_succ_next hstep']; rfl, hgo, ⟨fun j x hj hx => ?_, fun j hj => ?_, hc.past.app0 hev, hc.seen.app hsz sn, hc.norel.app nrl, fun b hb => Nat.lt_of_lt_of_le (hc.sb b hb) hsz⟩, by simp [hlt], by simp⟩
   ·rw [Array.getElem?_setIfInBounds_ne (by omega), Array.getElem?_map] at hx
    obtain ⟨y, hy, rfl⟩ := Option.map_eq_some_iff.1 hx
    have hqj := hq j y hj hy
    refine ⟨q j, ?_⟩
    rw [woken_quitsD hqj, Deaf_other t (by omega) _ g_of_ofEvents]
    exact hqj
   ·rw [Deaf_other t (g' := 0) (by simp at hj; omega) _ g_of_ofEvents]
    exact hc.above j (by simpa using hj)
  ·obtain ⟨N, gs', sl', t', d', a', w', es, r1, r2, r3, r4, r5, r6⟩ := ih (sl := sl1) (by rw [hs1]; omega) hc1 hq1 h01 hrun fun d' => hstep d'
   obtain ⟨k1, k2⟩ := runN_one_add (n := N) e1 e2
   exact ⟨1 + N, gs', sl', t', d', a', w', es, k1.trans r1, k2.trans r2, r3, r4, r5, r6.trans hs1⟩
theorem Calm.fuel {gs : Array Goroutine} {w : World} {t : Trace} (hc : Calm P SB gs w t) : ∃ q : Nat → Nat, ∀ i g, 0 < i → gs[i]? = some g → QuitsD P (q i) (Deaf t i) g := by
 classical
 refine ⟨fun i => if h : ∃ g, 0 < i ∧ gs[i]? = some g then Classical.choose (hc.old i h.choose h.choose_spec.1 h.choose_spec.2) else 0, fun i g hi hg => ?_⟩
 have h : ∃ g, 0 < i ∧ gs[i]? = some g := ⟨g, hi, hg⟩
 have e : h.choose = g := Option.some.inj (h.choose_spec.2.symm.trans hg)
 have := Classical.choose_spec (hc.old i h.choose h.choose_spec.1 h.choose_spec.2)
 simp only [dif_pos h]
 generalize Classical.choose (hc.old i h.choose h.choose_spec.1 h.choose_spec.2) = n at this
 rw [e] at this
 exact this
theorem beside_step {gs : Array Goroutine} {a : Goroutine} {w : World} {t : Trace} (sl : Option (Nat × Nat)) (hc : Calm P SB gs w t) (h0 : gs[0]? = some a) (hrun : a.status = .running)
  (hstep : ∀ d, ∃ a' w' es, stepG P true a (w.at d) = .go a' w' es ∧ w.heap.size ≤ w'.heap.size ∧ ∀ e ∈ es, EvC SB w'.heap.size e) :
  ∃ N gs' sl' t' d a' w' es, runNT P N (crowd gs w sl) t = (.next (crowd gs' w' sl'), t') ∧ runN P N (crowd gs w sl) = .next (crowd gs' w' sl') ∧ stepG P true a (w.at d) = .go a' w' es ∧ Calm P SB gs' w' t' ∧ gs'[0]? = some a' ∧ gs'.size = gs.size := by
 obtain ⟨q, hq⟩ := hc.fuel
 exact beside_one _ (Nat.le_refl _) hc hq h0 hrun hstep
theorem beside_last {Post : Value → World → Prop} : ∀ (M : Nat) {gs : Array Goroutine} {a : Goroutine} {w : World} {sl : Option (Nat × Nat)} {t : Trace} {q : Nat → Nat}, sumTo gs.size q ≤ M → Calm P SB gs w t → (∀ i g, 0 < i → gs[i]? = some g → QuitsD P (q i) (Deaf t i) g) → gs[0]? = some a → a.status = .running →
  (∀ d, ∃ v w' es, stepG P true a (w.at d) = .ended (.done v) w' es ∧ Post v w' ∧ ∀ e ∈ es, EvC SB w'.heap.size e) →
  ∃ N last o w' t', runNT P (N + 1) (crowd gs w sl) t = (.ended o w', t') ∧ runN P N (crowd gs w sl) = .next last ∧ step P last = .ended o w' ∧ Go.Conc.Good P Post last o w' t' := by
 intro M
 induction M with
 | zero =>
  intro gs a w sl t q hM hc hq h0 hrun hstep
  rcases beside_any (sl := sl) hc hq h0 hrun with ⟨d, sl', hst⟩ | ⟨_, _, _, _, _, _, _, _, _, _, _, hlt⟩
  ·obtain ⟨v, w', es, hend, hpost, hev⟩ := hstep d
   have hrunT := runT_many_ended (P := P) (sl := sl') (i := 0) h0 (show stepG P (0 == 0) a (w.at d) = _ from hend)
   have hstep' := hst.trans hrunT
   have hP' := hc.past.app0 (fn := a.frame.fn) (pos := a.frame.place) hev
   refine ⟨0, crowd gs w sl, _, w', _, by simp [runNT, hstep'], rfl, by simp [step, hstep'], v, rfl, hpost, hP'.clean, hP'.over, ⟨fun x hx => ?_, rfl⟩, fun j x hx hj => ?_⟩
   ·obtain ⟨j, hj⟩ := List.mem_iff_getElem?.1 hx
    rw [List.getElem?_drop] at hj
    exact ⟨_, (hq (1 + j) x (by omega) (by simpa [crowd] using hj)).leaves⟩
   ·have hqj := hq j x (by omega) hx
    refine ⟨q j, ?_⟩
    have e : (t ++ MemOp.ofEvents 0 a.frame.fn a.frame.place es).deaf j (t ++ MemOp.ofEvents 0 a.frame.fn a.frame.place es).size = Deaf t j := Deaf_other t (g := j) (g' := 0) (by omega) _ g_of_ofEvents
    rw [e]
    exact hqj.hears _
  ·omega
 | succ M ih =>
  intro gs a w sl t q hM hc hq h0 hrun hstep
  rcases beside_any (sl := sl) hc hq h0 hrun with ⟨d, sl', hst⟩ | ⟨gs1, d, sl1, t1, q1, e1, e2, hc1, hq1, h01, hs1, hlt⟩
  ·obtain ⟨v, w', es, hend, hpost, hev⟩ := hstep d
   have hrunT := runT_many_ended (P := P) (sl := sl') (i := 0) h0 (show stepG P (0 == 0) a (w.at d) = _ from hend)
   have hstep' := hst.trans hrunT
   have hP' := hc.past.app0 (fn := a.frame.fn) (pos := a.frame.place) hev
   refine ⟨0, crowd gs w sl, _, w', _, by simp [runNT, hstep'], rfl, by simp [step, hstep'], v, rfl, hpost, hP'.clean, hP'.over, ⟨fun x hx => ?_, rfl⟩, fun j x hx hj => ?_⟩
   ·obtain ⟨j, hj⟩ := List.mem_iff_getElem?.1 hx
    rw [List.getElem?_drop] at hj
    exact ⟨_, (hq (1 + j) x (by omega) (by simpa [crowd] using hj)).leaves⟩
   ·have hqj := hq j x (by omega) hx
    refine ⟨q j, ?_⟩
    have e : (t ++ MemOp.ofEvents 0 a.frame.fn a.frame.place es).deaf j (t ++ MemOp.ofEvents 0 a.frame.fn a.frame.place es).size = Deaf t j := Deaf_other t (g := j) (g' := 0) (by omega) _ g_of_ofEvents
    rw [e]
    exact hqj.hears _
  ·obtain ⟨N, last, o, w', t', r1, r2, r3, r4⟩ := ih (sl := sl1) (by rw [hs1]; omega) hc1 hq1 h01 hrun fun d' => hstep d'
   obtain ⟨k1, _⟩ := runN_one_add (n := N + 1) e1 e2
   obtain ⟨_, k2⟩ := runN_one_add (n := N) e1 e2
   exact ⟨1 + N, last, o, w', t', by rw [Nat.add_assoc]; exact k1.trans r1, k2.trans r2, r3, r4⟩
structure Ran (own : Bl) (w w' : World) (own' : Bl) : Prop where
 tape : w'.tape = w.tape
 os : w'.os = w.os
 output : w'.output = w.output
 size : w.heap.size ≤ w'.heap.size
 block : ∀ b, b < w.heap.size → ¬ own b → w'.heap[b]? = w.heap[b]?
 news : ∀ b, own' b → own b ∨ (w.heap.size ≤ b ∧ b < w'.heap.size)
 sub : ∀ b, own b → own' b
theorem Ran.refl (own : Bl) (w : World) : Ran own w w own := ⟨rfl, rfl, rfl, Nat.le_refl _, fun _ _ _ => rfl, fun _ x => .inl x, fun _ x => x⟩
theorem evOwn_evC {own ro : Bl} {SB : Bl} {B : Nat} {e : Event} (h : EvOwn own ro e) (ho : ∀ b, own b ∨ ro b → b < B ∧ ¬ SB b) : EvC SB B e := by
 have key : (∀ x, (MemAct.ofEvent e).touch? = some x → ∃ b, lb x.loc = some b ∧ (own b ∨ ro b)) ∧ e.loc ≠ .mark .disable ∧ e.loc ≠ .mark .enable ∧ ∀ a, e.loc ≠ .mark (.release a) := by
  obtain ⟨loc, wr, sy⟩ := e
  rcases h with ⟨hsy, ⟨q, hq, hx2⟩ | ⟨q, hq, hx2⟩⟩ | hx2
  ·simp only at hsy hq; subst hsy; subst hq
   refine ⟨fun x hx => ?_, by simp, by simp, by simp⟩
   simp only [MemAct.ofEvent, MemAct.touch?, Option.some.injEq] at hx
   subst hx
   exact ⟨_, rfl, hx2.imp id fun y => y.1⟩
  ·simp only at hsy hq; subst hsy; subst hq
   refine ⟨fun x hx => ?_, by simp, by simp, by simp⟩
   cases wr <;> simp only [MemAct.ofEvent, MemAct.touch?, Option.some.injEq] at hx <;> subst hx <;> exact ⟨_, rfl, hx2.imp id fun y => y.1⟩
  ·cases hx2
   refine ⟨fun x hx => ?_, by simp, by simp, by simp⟩
   simp [MemAct.ofEvent, MemAct.touch?] at hx
 obtain ⟨k1, k2, k3, k4⟩ := key
 refine ⟨fun x hx b hb => ?_, fun x hx hd => ?_, k2, k3, k4⟩
 ·obtain ⟨b', hb', hob⟩ := k1 x hx
  rw [hb] at hb'; cases hb'
  exact (ho b hob).1
 ·obtain ⟨b', hb', hob⟩ := k1 x hx
  obtain ⟨b, hb, hs⟩ := hd
  rw [hb] at hb'; cases hb'
  exact (ho _ hob).2 hs
theorem beside_way {ro : Bl} {Stop : Bl → Goroutine → World → Prop} {own : Bl} {a : Goroutine} {w : World} (h : WayG P true (fun own => Stays (fun b => own b ∨ ro b)) (fun own => Did own ro) Stop own a w) :
  ∀ {gs : Array Goroutine} {sl : Option (Nat × Nat)} {t : Trace}, Calm P SB gs w t → gs[0]? = some a → (∀ b, own b ∨ ro b → b < w.heap.size ∧ ¬ SB b) →
  ∃ N gs' sl' t' a' w' own', runNT P N (crowd gs w sl) t = (.next (crowd gs' w' sl'), t') ∧ runN P N (crowd gs w sl) = .next (crowd gs' w' sl') ∧ Calm P SB gs' w' t' ∧ gs'[0]? = some a' ∧ gs'.size = gs.size ∧ Stop own' a' w' ∧ Ran own w w' own' := by
 induction h with
 | @stop own a w h => intro gs sl t hc h0 ho; exact ⟨0, gs, sl, t, a, w, own, rfl, rfl, hc, h0, rfl, h w (Stays.refl _ _), .refl _ _⟩
 | @step own a w ng nw ne hg h1 _ ih =>
  intro gs sl t hc h0 ho
  have hst : ∀ d, Stays (fun b => own b ∨ ro b) w (w.at d) := fun d => ⟨rfl, rfl, rfl, Nat.le_refl _, fun _ _ _ => rfl⟩
  have hpl : ∀ d, ∀ b, Plus own (w.at d) (nw (w.at d)) b ∨ ro b → b < (nw (w.at d)).heap.size ∧ ¬ SB b := fun d b hb => by
   have hd := (h1 _ (hst d)).2
   have hsz : w.heap.size ≤ _ := hd.size
   rcases hb with (hb | ⟨h2, h3⟩) | hb
   ·obtain ⟨k1, k2⟩ := ho b (.inl hb)
    exact ⟨by omega, k2⟩
   ·exact ⟨h3, fun hs => by have := hc.sb b hs; have h2' : w.heap.size ≤ b := h2; omega⟩
   ·obtain ⟨k1, k2⟩ := ho b (.inr hb)
    exact ⟨by omega, k2⟩
  obtain ⟨N, gs1, sl1, t1, d, a1, w1, es, r1, r2, r3, r4, r5, r6⟩ := beside_step sl hc h0 hg fun d => ⟨_, _, _, (h1 _ (hst d)).1, (h1 _ (hst d)).2.size, fun e he => evOwn_evC ((h1 _ (hst d)).2.ev e he) (hpl d)⟩
  have e := (h1 _ (hst d)).1.symm.trans r3
  have hd := (h1 _ (hst d)).2
  simp only [GStep.go.injEq] at e
  obtain ⟨rfl, rfl, rfl⟩ := e
  obtain ⟨N2, gs2, sl2, t2, a2, w2, own2, q1, q2, q3, q4, q5, q6, q7⟩ := ih _ (hst d) (sl := sl1) r4 r5 (hpl d)
  have hsz : w.heap.size ≤ _ := hd.size
  refine ⟨N + N2, gs2, sl2, t2, a2, w2, own2, by rw [runNT_add, r1]; exact q1, by rw [runN_add, r2]; exact q2, q3, q4, q5.trans r6, q6, ⟨q7.tape.trans hd.tape, q7.os.trans hd.os, q7.output.trans hd.output, Nat.le_trans hsz q7.size, fun b hb hn => ?_, fun b hb => ?_, fun b hb => q7.sub b (.inl hb)⟩⟩
  ·rw [q7.block b (Nat.lt_of_lt_of_le hb hsz) (fun x => x.elim hn fun y => by have h2' : w.heap.size ≤ b := y.1; omega)]
   exact hd.block b hb hn
  ·rcases q7.news b hb with (x | ⟨x, y⟩) | ⟨x, y⟩
   ·exact .inl x
   ·exact .inr ⟨x, Nat.lt_of_lt_of_le y q7.size⟩
   ·exact .inr ⟨by omega, y⟩
end
end Rn
namespace Rn
open Go.Conc Go.RowKit Go.Conc.Lib Go.ConcR.Gen Go.ConcN.Gen
open Go.ConcN (WgLive PayAt Has AtR0 RW AsideCell ShN PermW RelBy CTag WD upd upd_same upd_ne sumTo cnt Vc Ssum phi)
open Go.ConcR (KK WgAt stA smA rd wr mk Payload DC0)
theorem beside_goes {P : Program} {SB : Bl} {R : World → World → Prop} {Z : Goroutine → World → Prop} (hR : ∀ w d, R w (w.at d)) (tr : ∀ a b c, R a b → R b c → R a c) (hZ : ∀ g w, Z g w → g.status = .running) : ∀ (m : Nat) {gs : Array Goroutine} {a : Goroutine} {w : World} {t : Trace} (sl : Option (Nat × Nat)),
  Calm P SB gs w t → gs[0]? = some a → Goes P true R DC0 Z m a w →
  ∃ N gs' sl' t' d a', runNT P N (crowd gs w sl) t = (.next (crowd gs' (w.at d) sl'), t') ∧ Calm P SB gs' (w.at d) t' ∧ gs'[0]? = some a' ∧ gs'.size = gs.size ∧ Z a' (w.at d) := by
 intro m
 induction m with
 | zero =>
  intro gs a w t sl hc h0 h
  exact ⟨0, gs, sl, t, w.drawn, a, rfl, hc, h0, rfl, h _ (hR w _)⟩
 | succ m ih =>
  intro gs a w t sl hc h0 h
  rcases h with h | ⟨hg, h⟩
  ·exact ⟨0, gs, sl, t, w.drawn, a, rfl, hc, h0, rfl, h _ (hR w _)⟩
  ·obtain ⟨N, gs1, sl1, t1, d, a1, w1, es, r1, r2, r3, r4, r5, r6⟩ := Rn.beside_step sl hc h0 hg fun d => (goes_elim (h _ (hR w d))).elim fun a' x => x.elim fun w' x => x.elim fun es x => ⟨a', w', es, x.1, by rw [x.2.1.1]; exact Nat.le_refl _, by rw [x.2.1.2]; simp⟩
   obtain ⟨a', w', es', e, ⟨rfl, rfl⟩, hk⟩ := goes_elim (h _ (hR w d))
   rw [e] at r3
   simp only [GStep.go.injEq] at r3
   obtain ⟨rfl, rfl, rfl⟩ := r3
   obtain ⟨N2, gs2, sl2, t2, d2, a2, q1, q2, q3, q4, q5⟩ := ih sl1 r4 r5 hk
   exact ⟨N + N2, gs2, sl2, t2, d2, a2, by rw [runNT_add, r1]; exact q1, q2, q3, q4.trans r6, q5⟩
section
variable {n c : Nat} {xs : List Int} {rb fb blk off Wg C : Nat}
structure AtLoop (SB : Bl) (n c : Nat) (xs : List Int) (rb fb blk off Wg C : Nat) (w : World) : Prop where
 n1 : 1 ≤ n
 n20 : n ≤ 20
 glob : Tryz.prog.globals.size ≤ Wg
 ne : C ≠ Wg
 hwg : WgAt wgLink.tWg Wg w 0 0
 pay : PayAt C n w
 sWg : ¬ SB Wg
 sC : ¬ SB C
 hrb : rb < w.heap.size ∧ rb ≠ Wg ∧ rb ≠ C ∧ ¬ SB rb
 hfb : fb < w.heap.size ∧ fb ≠ Wg ∧ fb ≠ C ∧ ¬ SB fb
 hblk : blk < w.heap.size ∧ blk ≠ Wg ∧ blk ≠ C ∧ ¬ SB blk
 rbx : w.cell? ⟨rb, 0, none⟩ = some (.slice (some ⟨blk, off, none⟩) n c)
 fbx : w.cell? ⟨fb, 0, none⟩ = some (.slice (some ⟨C, 0, none⟩) n n)
 rows : ∀ k, k < 4 * n → w.cell? ⟨blk, off + k, none⟩ = some (.int .i64 (nth xs k))
noncomputable def phC (SB : Bl) (zs : Nat → List Int) (n Wg C s B0 N0 : Nat) : Ph := { P := Tryz.prog, ty := wgLink.tWg, Wg, C, n, s, B0, N0, SB, fin := FinT zs }
theorem phaseC {zs : Nat → List Int} {noT : TypeId} (hno : Tryz.prog.toTables.info? noT = none)
    (hlone : ∀ i, i < n → ∀ w t d, Calls Tryz.prog 117 #[.slice (some ⟨Tryz.prog.globals.size, 0, none⟩) n c, .int .i64 i] ((winW w n xs noT).tp t d) fun e w' => ∃ v, e = .returned v ∧ ∃ A m c', v = .slice A m c' ∧ m * 4 = (zs i).length ∧ ((m = 0 ∧ A = none) ∨ 0 < m ∧ ∃ b off, A = some ⟨b, off, none⟩ ∧ b ≠ Tryz.prog.globals.size ∧ ∀ k, k < 4 * m → w'.cell? ⟨b, off + k, none⟩ = some (.int .i64 (nth (zs i) k))))
    {SB : Bl} {gs : Array Goroutine} {w : World} {t : Trace} (sl : Option (Nat × Nat)) (hc : Calm Tryz.prog SB gs w t) {T : Array Value} {cs : List Frame}
    (h0 : gs[0]? = some (G ((base 68).at ⟨T, []⟩ [.code (.block 0 (.loop cloop)), .code ctail]) cs))
    (hT : TC T rb fb Wg n) (h24 : T[24]? = some (.int .i64 n)) (h25 : T[25]? = some (.int .i64 0)) (hA : AtLoop SB n c xs rb fb blk off Wg C w) :
    ∃ N gs' sl' t' w' T', runNT Tryz.prog N (crowd gs w sl) t = (.next (crowd gs' w' sl'), t') ∧ Calm Tryz.prog (fun b => SB b ∨ b = Wg) gs' w' t' ∧ gs'.size = gs.size + n ∧
      gs'[0]? = some (G ((base 68).at ⟨T', []⟩ [.code cend]) cs) ∧ TC T' rb fb Wg n ∧ Stays (fun b => b < w.heap.size ∧ b ≠ Wg ∧ b ≠ C) w w' ∧
      PayAt C n w' ∧ ∀ i, i < n → ∃ v O, Has C i v w' ∧ FinT zs i O v w' ∧ ∀ b, O b → w.heap.size ≤ b ∧ b < w'.heap.size := by
  let Q : Ph := phC SB zs n Wg C gs.size w.heap.size t.size
  have hgs : 0 < gs.size := (Array.getElem?_eq_some_iff.1 h0).1
  obtain ⟨cs0, hc1, hc2⟩ := hA.pay
  have gq : Geo Q := { s1 := hgs, wg := (Array.getElem?_eq_some_iff.1 hA.hwg).1, c := (Array.getElem?_eq_some_iff.1 hc1).1, ne := hA.ne, sWg := hA.sWg, sC := hA.sC, sB := hc.sb }
  have gc : GC Q rb fb blk := ⟨⟨⟨hA.hrb.1, hA.hrb.2.1, hA.hrb.2.2.1⟩, hA.hrb.2.2.2⟩, ⟨⟨hA.hfb.1, hA.hfb.2.1, hA.hfb.2.2.1⟩, hA.hfb.2.2.2⟩, ⟨⟨hA.hblk.1, hA.hblk.2.1, hA.hblk.2.2.1⟩, hA.hblk.2.2.2⟩⟩
  have hF : FC Q n c xs rb fb blk off w ∧ WgLive Q.ty Q.Wg w := ⟨⟨Nat.le_refl _, hA.rbx, hA.fbx, hA.rows⟩, 0, 0, hA.hwg⟩
  have fo : FinOk Q := finT_ok (zs := zs) rfl
  have hsp : Spawns Q (AnchC Q n c xs rb fb blk off cs) n (fun _ => False) (G ((base 68).at ⟨T, []⟩ [.code (.block 0 (.loop cloop)), .code ctail]) cs) w := by
    have hP : Q.P = Tryz.prog := rfl
    refine spawns_goes hP (m := 2) ?_
    u_c stepG_block (fc_rely gc) hF
    u_c stepG_loop (fc_rely gc) hF
    refine Goes.stop fun w1 h1 => ?_
    replace hF := fc_rely gc hF h1
    exact spawnsC hno gq gc hP rfl rfl rfl hA.glob hA.n20 hlone cs n 0 (Nat.zero_add _) T w1 hT h24 h25 hF
  obtain ⟨r, hr⟩ : ∃ r, n = r + 1 := ⟨n - 1, by have := hA.n1; omega⟩
  have hrn : r < Q.n := by show r < n; omega
  have hj : Q.n - (r + 1) = 0 := by show n - (r + 1) = 0; omega
  obtain ⟨T0, hT0⟩ : ∃ T0, CS Q (AnchC Q n c xs rb fb blk off cs) (OutC Q n c xs rb fb blk off cs) (.sp r 5) 0 T0 0 (fun _ => False) (G ((base 68).at ⟨T, []⟩ [.code (.block 0 (.loop cloop)), .code ctail]) cs) w := by
    have hsp' : Spawns Q (AnchC Q n c xs rb fb blk off cs) (r + 1) (fun _ => False) (G ((base 68).at ⟨T, []⟩ [.code (.block 0 (.loop cloop)), .code ctail]) cs) w := by rw [← hr]; exact hsp
    obtain ⟨T0, hT0⟩ := WayG.tree hsp'
    exact ⟨T0, by have := CS.skd (Out := OutC Q n c xs rb fb blk off cs) hrn hT0; rwa [hj] at this⟩
  obtain ⟨q, hq⟩ := hc.fuel
  have hI : Inv Q (AnchC Q n c xs rb fb blk off cs) (OutC Q n c xs rb fb blk off cs) w _ (crowd gs w sl) t := ⟨gs, w, sl, 0, fun _ => ⟨0, 0, 0⟩, fun k => if k = 0 then T0 else natT (q k), .sp r 5, 0, fun _ => 0, fun _ => 0, fun _ _ => False, fun _ => False, _, 0, 0, rfl,
    { size := rfl
      a0 := h0
      cs := by rw [if_pos rfl]; exact hT0
      old := fun k hk hks g hg => ⟨q k, by rw [if_neg (by omega)], hq k g hk hg⟩
      wk := fun i hi => absurd hi (by omega)
      ti := TI.start gq hc.past rfl
      xok := ⟨fun i hi => absurd hi (by omega), fun i hi => absurd hi (by omega)⟩
      xlt := fun i hi => absurd hi (by omega)
      olt := fun i hi => absurd hi (by omega)
      o0 := fun b hb => hb.elim
      seen := hc.seen
      norel := hc.norel
      deaf0 := hc.past.hears
      deafW := fun i hi => absurd hi (by omega)
      above := fun k hk => hc.above k hk
      rel := fun i hi => absurd hi (by omega)
      has := fun i hi => absurd hi (by omega)
      pay := hA.pay
      wg := hA.hwg
      mode := by
        have := Go.ConcN.Mode.opn (j := 0) (D := fun _ => (⟨0, 0, 0⟩ : WD)) (tag := .sp r 5) trivial (fun i hi => absurd hi (by omega)) (fun vs e => by cases e)
        have e : (((Vc 0 (fun _ => (⟨0, 0, 0⟩ : WD)) + Go.ConcN.pend (.sp r 5) : Nat) : Int) * KK) = 0 := by simp [Vc, sumTo, Go.ConcN.pend]
        rwa [e] at this
      acq := fun e => by cases e
      b0 := Nat.le_refl _
      fresh := fun _ _ => rfl
      base := .refl _ _ }, rfl⟩
  obtain ⟨N1, m1, t1, e1, j1, gs1, w1, sl1, D1, F1, d1, ow1, X1, O1, O01, a1, st1, sm1, rfl, hp⟩ := phase_runs gq fo (by show n < _; have := hA.n20; omega) (anchC_run cs) (outC_run cs) (anchC_way gq gc rfl cs) _ _ _ hI
  obtain ⟨c1, c2, ⟨_, c3⟩, c4, c5, c6, c7, c8, c9, c10⟩ := phase_calm gq hp
  obtain ⟨N2, gs2, sl2, t2, d2, a2, f1, f2, f3, f4, T', f5, rfl, f6⟩ := beside_goes (Z := ZC Q n c xs rb fb blk off cs) (R := RelyS Q fun _ => False) (fun w d => ⟨⟨rfl, rfl, rfl, Nat.le_refl _, fun _ _ _ => rfl⟩, id⟩) (RelyS.trans Q _) (fun g w ⟨_, _, e, _⟩ => by rw [e]; rfl) _ sl1 c1 c2 c3
  have e1' : runNT Tryz.prog N1 (crowd gs w sl) t = _ := e1
  refine ⟨N1 + N2, gs2, sl2, t2, w1.at d2, T', by rw [runNT_add, e1']; exact f1, f2, f4.trans c4, f3, f5, ⟨c8.tape, c8.os, c8.output, c8.size, c8.block⟩, c6, fun i hi => ?_⟩
  obtain ⟨v, hv, hf⟩ := c5 i hi
  exact ⟨v, O1 i, hv, hf, c9 i hi⟩
end
end Rn
section
open Go.RowKit
def OwnV (w : World) (base : Nat) (E : TypeId) (v : Value) (xs : List Int) : Prop := w.ownsRow base E 1 v xs.length (xs.map (Value.int .i64))
def OwnI (w : World) (base : Nat) (E : TypeId) (g cap : Nat) (xs : List Int) : Prop := OwnV w base E (.slice (some ⟨g, 0, none⟩) xs.length cap) xs
section
variable {w w' : World} {base : Nat} {E : TypeId} {g cap : Nat} {v : Value} {xs : List Int}
theorem OwnV.nil (w : World) (base : Nat) (E : TypeId) : OwnV w base E (.slice none 0 0) [] := World.ownsRow_nil _ _ _ _
theorem OwnV.alloc (h : OwnV w base E v xs) (o : Obj) : OwnV (w.alloc o) base E v xs := World.ownsRow.alloc h o
theorem OwnV.drewN (h : OwnV w base E v xs) (n : Nat) : OwnV (w.drewN n) base E v xs := h
theorem OwnV.drew (h : OwnV w base E v xs) : OwnV w.drew base E v xs := h
theorem OwnI.alloc (h : OwnI w base E g cap xs) (o : Obj) : OwnI (w.alloc o) base E g cap xs := World.ownsRow.alloc h o
theorem OwnI.drewN (h : OwnI w base E g cap xs) (n : Nat) : OwnI (w.drewN n) base E g cap xs := h
theorem OwnI.drew (h : OwnI w base E g cap xs) : OwnI w.drew base E g cap xs := h
theorem OwnI.blk (h : OwnI w base E g cap xs) : base ≤ g ∧ g < w.heap.size := World.ownsRow.lt h g rfl
theorem OwnI.cell (h : OwnI w base E g cap xs) {j : Nat} (hj : j < xs.length) : w.cell? ⟨g, j, none⟩ = some (.int .i64 (nth xs j)) := by
 rw [World.ownsRow.cellAt h j (by omega), nth_get xs j hj]
 simp [hj]
theorem OwnI.frozen (h : OwnI w base E g cap xs) (j : Nat) : w.frozen? ⟨g, j, none⟩ = false := World.ownsRow.frozenAt h j
theorem OwnI.set (h : OwnI w base E g cap xs) (j : Nat) (z : Int) : OwnI (w.setCell ⟨g, j, none⟩ (.int .i64 z)) base E g cap (xs.set j z) := by
 have := (World.ownsRow.stored h j (.int .i64 z)).1
 unfold OwnI OwnV
 rw [List.length_set, List.map_set]
 exact this
theorem OwnV.len {A : Option Addr} {n c : Nat} (h : OwnV w base E (.slice A n c) xs) : n = xs.length := by
 rcases h.2 with ⟨h1, h2⟩ | ⟨g, cap, cur, h1, _⟩
 ·simp at h1; omega
 ·simp at h1; omega
theorem OwnV.form (h : OwnV w base E v xs) : (v = .slice none 0 0 ∧ xs = []) ∨ ∃ g cap, v = .slice (some ⟨g, 0, none⟩) xs.length cap ∧ OwnI w base E g cap xs := by
 rcases h.2 with ⟨h1, h2⟩ | ⟨g, cap, cur, h1, hr⟩
 ·exact .inl ⟨h1, List.eq_nil_of_length_eq_zero h2⟩
 ·subst h1
  exact .inr ⟨g, cap, rfl, h⟩
theorem OwnI.new (w : World) (E : TypeId) : OwnI (w.alloc (.cells #[] E)) w.heap.size E w.heap.size 0 [] :=
 World.ownsRow_lit (base := w.heap.size) (e := E) (size := 1) w #[] 0 (Nat.le_refl _) (by simp [maxLen]) (by simp)
theorem OwnI.mono {base' : Nat} (h : OwnI w base E g cap xs) (hb : base' ≤ base) : OwnI w base' E g cap xs := by
 refine ⟨h.1, ?_⟩
 rcases h.2 with h2 | ⟨g, cap, cur, h1, h2, hr⟩
 ·exact .inl h2
 ·exact .inr ⟨g, cap, cur, h1, by omega, hr⟩
theorem OwnI.below {B : Nat} (h : OwnI w base E g cap xs) (hb : Below B w w') (hg : g < B) : OwnI w' base E g cap xs := by
 refine ⟨h.1, ?_⟩
 rcases h.2 with h2 | ⟨g', cap', cur, h1, h2, h3, hr⟩
 ·exact .inl h2
 ·simp at h1
  obtain ⟨rfl, rfl⟩ := h1
  exact .inr ⟨g, cap, cur, rfl, h2, (hb.block g hg).trans h3, hr⟩
theorem OwnV.below (h : OwnV w base E v xs) (hb : Below w.heap.size w w') : OwnV w' base E v xs := by
 rcases h.form with ⟨rfl, rfl⟩ | ⟨g, cap, rfl, hi⟩
 ·exact OwnV.nil _ _ _
 ·exact hi.below hb hi.blk.2
theorem OwnV.ownLt (h : OwnV w base E v xs) : ∀ k, v.ownBlock = some k → base ≤ k := fun k hk => (World.ownsRow.lt h k hk).1
end
theorem cell_new1 (w : World) (u : Value) (t : TypeId) : (w.alloc (.cells #[u] t)).cell? ⟨w.heap.size, 0, none⟩ = some u := World.rowIs.cell (World.rowIs_alloc w #[u] t (fun _ => u) (fun i hi => by simp at hi; subst hi; rfl)) (by simp)
theorem OwnI.cap {w : World} {base : Nat} {E : TypeId} {g cap : Nat} {xs : List Int} (h : OwnI w base E g cap xs) : xs.length ≤ cap := by
 rcases h.2 with ⟨h1, _⟩ | ⟨g', cap', cur, h1, _, _, h4, _⟩
 ·simp at h1
 ·simp at h1; omega
end
section
open Go.RowKit
structure Only (g : Nat) (w w' : World) : Prop where
 os : w'.os = w.os
 tape : w'.tape = w.tape
 output : w'.output = w.output
 size : w'.heap.size = w.heap.size
 block : ∀ k, k ≠ g → w'.heap[k]? = w.heap[k]?
section
variable {g : Nat} {w w' w'' : World}
theorem Only.refl (g : Nat) (w : World) : Only g w w := ⟨rfl, rfl, rfl, rfl, fun _ _ => rfl⟩
theorem Only.trans (h : Only g w w') (h' : Only g w' w'') : Only g w w'' := ⟨h'.os.trans h.os, h'.tape.trans h.tape, h'.output.trans h.output, h'.size.trans h.size, fun k hk => (h'.block k hk).trans (h.block k hk)⟩
theorem Only.setCell (h : Only g w w') (i : Nat) (u : Value) : Only g w (w'.setCell ⟨g, i, none⟩ u) :=
 h.trans ⟨rfl, rfl, rfl, by simp [World.setCell], fun k hk => Below.heap_setCell w' ⟨g, i, none⟩ u k hk⟩
theorem Only.below {B : Nat} (h : Only g w w') (hB : B ≤ g) : Below B w w' := ⟨h.os, h.tape, h.output, by rw [h.size]; exact Nat.le_refl _, fun k hk => h.block k (by omega)⟩
theorem Only.cell (h : Only g w w') {p : Addr} (hp : p.block ≠ g) : w'.cell? p = w.cell? p := World.cell?_of_block (w := w) (h.block _ hp)
theorem Only.ints {B n : Nat} {A : Option Addr} {zs : List Int} (h : Only g w w') (hi : IntsAt w B A n zs) (hA : ∀ b off, A = some ⟨b, off, none⟩ → b ≠ g) : IntsAt w' B A n zs :=
 ⟨hi.1, fun hn => by
  obtain ⟨b, off, e, hb, hc⟩ := hi.2 hn
  exact ⟨b, off, e, hb, fun k hk => (h.cell (p := ⟨b, off + k, none⟩) (hA b off e)).trans (hc k hk)⟩⟩
theorem Only.recs {B n K : Nat} {A : Option Addr} {zs : List Int} (h : Only g w w') (hi : RecsAt w B K A n zs) (hA : ∀ b off, A = some ⟨b, off, none⟩ → b ≠ g) : RecsAt w' B K A n zs :=
 ⟨hi.1, fun hn => by
  obtain ⟨b, off, e, hb, hc⟩ := hi.2 hn
  exact ⟨b, off, e, hb, fun k hk => (h.cell (p := ⟨b, off + k, none⟩) (hA b off e)).trans (hc k hk)⟩⟩
theorem Only.row {g' : Nat} {t : TypeId} {n : Nat} {f : Nat → Value} (h : Only g w w') (hr : w.rowIs g' t n f) (hne : g' ≠ g) : w'.rowIs g' t n f := hr.of_block (h.block g' hne)
theorem Only.own {base : Nat} {E : TypeId} {v : Value} {xs : List Int} (h : Only g w w') (ho : OwnV w base E v xs) (hne : v.ownBlock ≠ some g) : OwnV w' base E v xs := by
 rcases ho.form with ⟨rfl, rfl⟩ | ⟨g', cap, rfl, hi⟩
 ·exact OwnV.nil _ _ _
 ·refine ⟨hi.1, ?_⟩
  rcases hi.2 with h2 | ⟨g'', cap', cur, h1, h2, h3, hr⟩
  ·exact .inl h2
  ·simp at h1
   obtain ⟨rfl, rfl⟩ := h1
   exact .inr ⟨g', cap, cur, rfl, h2, (h.block g' (fun e => hne (by simp [Value.ownBlock, e]))).trans h3, hr⟩
theorem below_row {B : Nat} {g' : Nat} {t : TypeId} {n : Nat} {f : Nat → Value} (h : Below B w w') (hr : w.rowIs g' t n f) (hg : g' < B) : w'.rowIs g' t n f := hr.of_block (h.block g' hg)
end
def ints (zs : List Int) (j : Nat) : Value := .int .i64 (nth zs j)
theorem ints_def (zs : List Int) (j : Nat) : ints zs j = .int .i64 (nth zs j) := rfl
def fill (zs : List Int) (k j : Nat) : Value := .int .i64 (if j < k then nth zs j else 0)
theorem fill_0 (zs : List Int) (j : Nat) : fill zs 0 j = .int .i64 0 := by simp [fill]
theorem fill_at (zs : List Int) {k j : Nat} (h : k ≤ j) : fill zs k j = .int .i64 0 := by simp [fill]; omega
theorem fill_end (zs : List Int) {k j : Nat} (h : j < k) : fill zs k j = ints zs j := by simp [fill, ints, h]
theorem fill_step2 (zs : List Int) (i j : Nat) : (if j = i + 1 then Value.int .i64 (nth zs (i + 1)) else if j = i then Value.int .i64 (nth zs i) else fill zs i j) = fill zs (i + 2) j := by
 unfold fill
 by_cases h1 : j = i + 1
 ·subst h1; simp
 ·by_cases h0 : j = i
  ·subst h0; simp
  ·by_cases h : j < i
   ·simp [h1, h0, h, show j < i + 2 by omega]
   ·simp [h1, h0, h, show ¬ j < i + 2 by omega]
theorem fill_step4 (zs : List Int) (i j : Nat) : (if j = i + 3 then Value.int .i64 (nth zs (i + 3)) else if j = i + 2 then Value.int .i64 (nth zs (i + 2)) else if j = i + 1 then Value.int .i64 (nth zs (i + 1)) else if j = i then Value.int .i64 (nth zs i) else fill zs i j) = fill zs (i + 4) j := by
 unfold fill
 by_cases h3 : j = i + 3
 ·subst h3; simp
 ·by_cases h2 : j = i + 2
  ·subst h2; simp
  ·by_cases h1 : j = i + 1
   ·subst h1; simp
   ·by_cases h0 : j = i
    ·subst h0; simp
    ·by_cases h : j < i
     ·simp [h3, h2, h1, h0, h, show j < i + 4 by omega]
     ·simp [h3, h2, h1, h0, h, show ¬ j < i + 4 by omega]
theorem run_make_recs {P : Program} (t E : TypeId) (K bytes : Nat) (zc : Array Value) (ht : P.underlying t = some (.slice E)) (hinfo : (P.info? E).map (fun i => (i.zero, i.size, i.bytes)) = some (some (.agg zc), K, bytes)) (n : Nat) (hb : bytes * n ≤ 281474976710656) (hn : n ≤ 1048576) (w : World) :
  (Instr.makeSlice t (.int .i64 (n : Int)) (.int .i64 (n : Int))).run P w = .ok (.slice (some ⟨w.heap.size, 0, none⟩) n n) (w.alloc (.cells (madeCells zc (n * K)) E)) := by
 obtain ⟨i0, hi0, hz0, hz1, hz2⟩ := info_parts hinfo
 have hb' : (i0.bytes : Int) * (n : Int) ≤ 281474976710656 := by
  have h : ((i0.bytes * n : Nat) : Int) ≤ 281474976710656 := by rw [hz2]; omega
  rwa [Int.natCast_mul] at h
 have h := run_make (P := P) w t E i0 (.agg zc) ht hi0 hz0 .i64 .i64 (n : Int) (n : Int) (by omega) (by omega) hb' (by omega)
 simpa [hz1, Value.cells] using h
theorem rowIs_made0 (w : World) (zc : Array Value) (E : TypeId) (m : Nat) (hz : ∀ j, j < zc.size → zc[j]? = some (.int .i64 0)) (h0 : 0 < zc.size) (zs : List Int) : (w.alloc (.cells (madeCells zc m) E)).rowIs w.heap.size E m (fill zs 0) := by
 have hr := World.rowIs_alloc w (madeCells zc m) E (fill zs 0) (fun j hj => by
  have hj' : j < m := by simpa [size_madeCells] using hj
  have hm : j % zc.size < zc.size := Nat.mod_lt _ h0
  have hzz := hz _ hm
  rw [fill_0]
  have e : zc[j % zc.size]! = .int .i64 0 := by
   rw [getElem!_def, hzz]
  simp [madeCells, hj', e])
 simpa [size_madeCells] using hr
end
section
open Go.RowKit
def ptB (x y : Int) : Bool := inB x (-60) 60 && inB y (-60) 60
theorem ptB_iff {x y : Int} : ptB x y = true ↔ (-60 ≤ x ∧ x ≤ 60) ∧ (-60 ≤ y ∧ y ≤ 60) := by simp [ptB, inB_iff]
def sideI (ax ay bx b_y cx cy : Int) : Int := (bx - ax) * (cy - ay) - (b_y - ay) * (cx - ax)
theorem mul_bd {a b m n : Int} (ha : -m ≤ a ∧ a ≤ m) (hb : -n ≤ b ∧ b ≤ n) : -(m * n) ≤ a * b ∧ a * b ≤ m * n := by
 have h1 : (m - a) * (n - b) ≥ 0 := Int.mul_nonneg (by omega) (by omega)
 have h2 : (m + a) * (n + b) ≥ 0 := Int.mul_nonneg (by omega) (by omega)
 have h3 : (m - a) * (n + b) ≥ 0 := Int.mul_nonneg (by omega) (by omega)
 have h4 : (m + a) * (n - b) ≥ 0 := Int.mul_nonneg (by omega) (by omega)
 simp only [Int.sub_mul, Int.mul_sub, Int.add_mul, Int.mul_add] at h1 h2 h3 h4
 omega
theorem mul120 {a b : Int} (ha : -120 ≤ a ∧ a ≤ 120) (hb : -120 ≤ b ∧ b ≤ 120) : -14400 ≤ a * b ∧ a * b ≤ 14400 := by
 have := mul_bd (m := 120) (n := 120) ha hb
 omega
theorem sideI_bd {ax ay bx b_y cx cy : Int} (ha : ptB ax ay = true) (hb : ptB bx b_y = true) (hc : ptB cx cy = true) : -28800 ≤ sideI ax ay bx b_y cx cy ∧ sideI ax ay bx b_y cx cy ≤ 28800 := by
 rw [ptB_iff] at ha hb hc
 have h1 := mul120 (a := bx - ax) (b := cy - ay) (by omega) (by omega)
 have h2 := mul120 (a := b_y - ay) (b := cx - ax) (by omega) (by omega)
 unfold sideI
 omega
def ptA (zs : List Int) (k : Nat) : Bool := ptB (nth zs (k * 2)) (nth zs (k * 2 + 1))
def sd (zs : List Int) (i j k : Nat) : Int := sideI (nth zs (i * 2)) (nth zs (i * 2 + 1)) (nth zs (j * 2)) (nth zs (j * 2 + 1)) (nth zs (k * 2)) (nth zs (k * 2 + 1))
theorem sd_self (zs : List Int) (k : Nat) : sd zs 0 0 k = 0 := by simp [sd, sideI]
def ptsTo (zs : List Int) (k : Nat) : Prop := ∀ i, i < k → ptA zs i = true
theorem ptsTo_0 (zs : List Int) : ptsTo zs 0 := fun i hi => absurd hi (by omega)
theorem ptsTo_step {zs : List Int} {k : Nat} (h : ptsTo zs k) (e : ptA zs k = true) : ptsTo zs (k + 1) := by
 intro i hi
 by_cases hik : i = k
 ·subst hik; exact e
 ·exact h i (by omega)
def turnB (zs : List Int) (n k : Nat) : Bool := decide (0 < sd zs k ((k + 1) % n) ((k + 2) % n)) && (if k + 1 < n then decide (0 ≤ sd zs 0 k (k + 1)) else true)
def turnTo (zs : List Int) (n k : Nat) : Prop := ∀ i, i < k → turnB zs n i = true
theorem turnTo_0 (zs : List Int) (n : Nat) : turnTo zs n 0 := fun i hi => absurd hi (by omega)
theorem turnTo_step {zs : List Int} {n k : Nat} (h : turnTo zs n k) (e : turnB zs n k = true) : turnTo zs n (k + 1) := by
 intro i hi
 by_cases hik : i = k
 ·subst hik; exact e
 ·exact h i (by omega)
def stoneB (zs : List Int) (n : Nat) : Bool := inB (n : Int) 3 6 && ((List.range n).all (ptA zs) && (List.range n).all (turnB zs n))
theorem stoneB_f1 {zs : List Int} {n : Nat} (h : inB (n : Int) 3 6 = false) : stoneB zs n = false := by simp [stoneB, h]
theorem stoneB_f2 {zs : List Int} {n k : Nat} (hk : k < n) (h : ptA zs k = false) : stoneB zs n = false := by
 have : (List.range n).all (ptA zs) = false := by
  rw [List.all_eq_false]
  exact ⟨k, by simpa using hk, by simp [h]⟩
 simp [stoneB, this]
theorem stoneB_f3 {zs : List Int} {n k : Nat} (hk : k < n) (h : turnB zs n k = false) : stoneB zs n = false := by
 have : (List.range n).all (turnB zs n) = false := by
  rw [List.all_eq_false]
  exact ⟨k, by simpa using hk, by simp [h]⟩
 simp [stoneB, this]
theorem stoneB_t {zs : List Int} {n : Nat} (h1 : inB (n : Int) 3 6 = true) (h2 : ptsTo zs n) (h3 : turnTo zs n n) : stoneB zs n = true := by
 have e2 : (List.range n).all (ptA zs) = true := by
  rw [List.all_eq_true]
  exact fun i hi => h2 i (by simpa using hi)
 have e3 : (List.range n).all (turnB zs n) = true := by
  rw [List.all_eq_true]
  exact fun i hi => h3 i (by simpa using hi)
 simp [stoneB, h1, e2, e3]
theorem stoneB_out {zs : List Int} {n : Nat} (h : stoneB zs n = true) : (3 ≤ n ∧ n ≤ 6) ∧ ptsTo zs n ∧ turnTo zs n n := by
 simp only [stoneB, Bool.and_eq_true, inB_iff, List.all_eq_true] at h
 exact ⟨by omega, fun i hi => h.2.1 i (by simpa using hi), fun i hi => h.2.2 i (by simpa using hi)⟩
theorem turnB_f1 {zs : List Int} {n k : Nat} (h : sd zs k ((k + 1) % n) ((k + 2) % n) ≤ 0) : turnB zs n k = false := by
 have : decide (0 < sd zs k ((k + 1) % n) ((k + 2) % n)) = false := decide_eq_false (by omega)
 simp [turnB, this]
theorem turnB_f2 {zs : List Int} {n k : Nat} (hk : k + 1 < n) (h : sd zs 0 k (k + 1) < 0) : turnB zs n k = false := by
 have : decide (0 ≤ sd zs 0 k (k + 1)) = false := decide_eq_false (by omega)
 simp [turnB, this, hk]
theorem turnB_t1 {zs : List Int} {n k : Nat} (h : 0 < sd zs k ((k + 1) % n) ((k + 2) % n)) (hk : ¬ k + 1 < n) : turnB zs n k = true := by
 simp [turnB, h, hk]
theorem turnB_t2 {zs : List Int} {n k : Nat} (h : 0 < sd zs k ((k + 1) % n) ((k + 2) % n)) (hk : k + 1 < n) (h2 : 0 ≤ sd zs 0 k (k + 1)) : turnB zs n k = true := by
 simp [turnB, h, hk, h2]
end
section
open Go.RowKit
theorem within_any (x a b : Int) (w : World) : Calls Tryz.prog 112 #[.int .i64 x, .int .i64 a, .int .i64 b] w fun e w' => e = .returned (.bool (inB x a b)) ∧ w = w' := by
 by_cases c1 : a ≤ x
 ·by_cases c2 : x ≤ b
  ·have H := Lib.hid (inB_t ⟨c1, c2⟩)
   go_enter Tryz.func112, Tryz.ntmps112
   go_wp2
   go_ret
   exact ⟨ret_bool H.out.symm, rfl⟩
  ·have H := Lib.hid (inB_f (x := x) (a := a) (b := b) (by omega))
   go_enter Tryz.func112, Tryz.ntmps112
   go_wp2
   go_ret
   exact ⟨ret_bool H.out.symm, rfl⟩
 ·have H := Lib.hid (inB_f (x := x) (a := a) (b := b) (by omega))
  go_enter Tryz.func112, Tryz.ntmps112
  go_wp2
  go_ret
  exact ⟨ret_bool H.out.symm, rfl⟩
end
section
open Go.RowKit
def RowF (w : World) (g : Nat) (E : TypeId) (m : Nat) (f : Nat → Value) : Prop :=
 ∃ c : Array Value, w.heap[g]? = some (.cells c E (0, 0)) ∧ m ≤ c.size ∧ ∀ i, i < m → c[i]? = some (f i)
section
variable {w w' : World} {g : Nat} {E : TypeId} {m : Nat} {f f' : Nat → Value}
theorem RowF.of_row (h : w.rowIs g E m f) : RowF w g E m f := by
 obtain ⟨c, hb, hn, hc⟩ := h
 exact ⟨c, hb, by omega, hc⟩
theorem RowF.cell (h : RowF w g E m f) {i : Nat} (hi : i < m) : w.cell? ⟨g, i, none⟩ = some (f i) := by
 obtain ⟨c, hb, _, hc⟩ := h
 simp [World.cell?, hb, hc i hi]
theorem RowF.frozen (h : RowF w g E m f) (i : Nat) : w.frozen? ⟨g, i, none⟩ = false := by
 obtain ⟨c, hb, _, _⟩ := h
 simp [World.frozen?, hb]
theorem RowF.lt (h : RowF w g E m f) : g < w.heap.size := by
 obtain ⟨c, hb, _, _⟩ := h
 obtain ⟨hlt, _⟩ := Array.getElem?_eq_some_iff.1 hb
 exact hlt
theorem RowF.congr (h : RowF w g E m f) (e : ∀ i, i < m → f i = f' i) : RowF w g E m f' := by
 obtain ⟨c, hb, hn, hc⟩ := h
 exact ⟨c, hb, hn, fun i hi => by rw [hc i hi, e i hi]⟩
theorem RowF.of_block (h : RowF w g E m f) (e : w'.heap[g]? = w.heap[g]?) : RowF w' g E m f := by
 obtain ⟨c, hb, hn, hc⟩ := h
 exact ⟨c, e.trans hb, hn, hc⟩
theorem RowF.set (h : RowF w g E m f) (i : Nat) (v : Value) : RowF (w.setCell ⟨g, i, none⟩ v) g E m (fun j => if j = i then v else f j) := by
 obtain ⟨c, hb, hn, hc⟩ := h
 refine ⟨c.setIfInBounds i v, ?_, by simpa using hn, fun j hj => ?_⟩
 ·simp [World.setCell, Array.getElem?_modify, hb]
 ·rw [Array.getElem?_setIfInBounds]
  by_cases e : j = i
  ·subst e
   have : j < c.size := by omega
   simp [this]
  ·rw [if_neg (fun h => e h.symm)]
   show c[j]? = some (if j = i then v else f j)
   rw [if_neg e]
   exact hc j hj
theorem RowF.drewN (h : RowF w g E m f) (k : Nat) : RowF (w.drewN k) g E m f := h
theorem RowF.drew (h : RowF w g E m f) : RowF w.drew g E m f := h
theorem RowF.alloc (h : RowF w g E m f) (o : Obj) : RowF (w.alloc o) g E m f := h.of_block (Below.heap_alloc w o g h.lt)
theorem RowF.below {B : Nat} (h : RowF w g E m f) (hb : Below B w w') (hg : g < B) : RowF w' g E m f := h.of_block (hb.block g hg)
theorem RowF.after (h : RowF w g E m f) (hb : Below w.heap.size w w') : RowF w' g E m f := h.of_block (hb.block g h.lt)
theorem RowF.recs {K n : Nat} {zs : List Int} (h : RowF w g E (n * K) (ints zs)) (hz : zs.length = n * K) : RecsAt w w.heap.size K (some ⟨g, 0, none⟩) n zs :=
 ⟨hz, fun _ => ⟨g, 0, rfl, h.lt, fun i hi => by rw [Nat.zero_add]; exact h.cell hi⟩⟩
theorem RowF.only {g' : Nat} (h : RowF w g E m f) (ho : Only g' w w') (hne : g ≠ g') : RowF w' g E m f := h.of_block (ho.block g hne)
theorem RowF.set_other (h : RowF w g E m f) {p : Addr} (hp : g ≠ p.block) (v : Value) : RowF (w.setCell p v) g E m f := h.of_block (Below.heap_setCell w p v g hp)
end
end
section
open Go.RowKit
theorem cell_alloc_lt {w : World} {o : Obj} {g i : Nat} (h : g < w.heap.size) : (w.alloc o).cell? ⟨g, i, none⟩ = w.cell? ⟨g, i, none⟩ := World.cell?_of_block (a := ⟨g, i, none⟩) (Below.heap_alloc w o g h)
end
section
def allTo (p : Nat → Bool) (k : Nat) : Prop := ∀ i, i < k → p i = true
def allB (p : Nat → Bool) (n : Nat) : Bool := (List.range n).all p
section
variable {p : Nat → Bool} {k n : Nat}
theorem allTo_0 (p : Nat → Bool) : allTo p 0 := fun i hi => absurd hi (by omega)
theorem allTo_step (h : allTo p k) (e : p k = true) : allTo p (k + 1) := by
 intro i hi
 by_cases hik : i = k
 ·subst hik; exact e
 ·exact h i (by omega)
theorem allB_f (hk : k < n) (h : p k = false) : allB p n = false := by
 rw [allB, List.all_eq_false]
 exact ⟨k, by simpa using hk, by simp [h]⟩
theorem allB_t (h : allTo p n) : allB p n = true := by
 rw [allB, List.all_eq_true]
 exact fun i hi => h i (by simpa using hi)
theorem allB_out (h : allB p n = true) : allTo p n := by
 simp only [allB, List.all_eq_true] at h
 exact fun i hi => h i (by simpa using hi)
end
end
section
open Go.RowKit
def loadAt (ls : List Int) (n i : Nat) : Bool := inB (nth ls (i * 3)) 0 ((n : Int) - 2) && (inB (nth ls (i * 3 + 1)) 0 10000 && inB (nth ls (i * 3 + 2)) (-60) 60)
end
section
def crossI (ax ay bx b_y : Int) : Int := ax * b_y - ay * bx
theorem crossI_bd {ax ay bx b_y : Int} (ha : ptB ax ay = true) (hb : ptB bx b_y = true) : -7200 ≤ crossI ax ay bx b_y ∧ crossI ax ay bx b_y ≤ 7200 := by
 rw [ptB_iff] at ha hb
 have h1 := mul_bd (m := 60) (n := 60) (a := ax) (b := b_y) (by omega) (by omega)
 have h2 := mul_bd (m := 60) (n := 60) (a := ay) (b := bx) (by omega) (by omega)
 unfold crossI
 omega
abbrev Fac := Int → Int → Int → Int → Int
def FacOk (F : Fac) : Prop := ∀ ax ay bx b_y, ptB ax ay = true → ptB bx b_y = true → -120 ≤ F ax ay bx b_y ∧ F ax ay bx b_y ≤ 120
def facOne : Fac := fun _ _ _ _ => 1
def facX : Fac := fun ax _ bx _ => ax + bx
theorem facOne_ok : FacOk facOne := fun _ _ _ _ _ _ => by simp [facOne]
theorem facX_ok : FacOk facX := fun ax ay bx b_y ha hb => by rw [ptB_iff] at ha hb; unfold facX; omega
def part (F : Fac) (zs : List Int) (i j : Nat) : Int := F (nth zs (i * 2)) (nth zs (i * 2 + 1)) (nth zs (j * 2)) (nth zs (j * 2 + 1)) * crossI (nth zs (i * 2)) (nth zs (i * 2 + 1)) (nth zs (j * 2)) (nth zs (j * 2 + 1))
theorem part_bd {F : Fac} (hF : FacOk F) {zs : List Int} {i j : Nat} (hi : ptA zs i = true) (hj : ptA zs j = true) : -864000 ≤ part F zs i j ∧ part F zs i j ≤ 864000 := by
 unfold ptA at hi hj
 have h1 := hF _ _ _ _ hi hj
 have h2 := crossI_bd hi hj
 have := mul_bd (m := 120) (n := 7200) h1 h2
 unfold part
 omega
def overTo (F : Fac) (zs : List Int) (n : Nat) : Nat → Int
 | 0 => 0
 | k + 1 => overTo F zs n k + part F zs k ((k + 1) % n)
theorem overTo_bd {F : Fac} (hF : FacOk F) {zs : List Int} {n : Nat} (hp : ptsTo zs n) : ∀ k, k ≤ n → -(864000 * (k : Int)) ≤ overTo F zs n k ∧ overTo F zs n k ≤ 864000 * (k : Int)
 | 0, _ => by simp [overTo]
 | k + 1, hk => by
  have ih := overTo_bd hF hp k (by omega)
  have h := part_bd hF (hp k (by omega)) (hp ((k + 1) % n) (Nat.mod_lt _ (by omega)))
  simp only [overTo]
  omega
def overI (F : Fac) (zs : List Int) (n : Nat) : Int := if stoneB zs n = true then overTo F zs n n else 0
theorem overI_t {F : Fac} {zs : List Int} {n : Nat} (h : stoneB zs n = true) : overI F zs n = overTo F zs n n := by simp [overI, h]
theorem overI_f {F : Fac} {zs : List Int} {n : Nat} (h : stoneB zs n = false) : overI F zs n = 0 := by simp [overI, h]
theorem overI_bd {F : Fac} (hF : FacOk F) (zs : List Int) (n : Nat) : -5184000 ≤ overI F zs n ∧ overI F zs n ≤ 5184000 := by
 cases h : stoneB zs n
 ·rw [overI_f h]; omega
 ·have ho := stoneB_out h
  rw [overI_t h]
  have := overTo_bd hF ho.2.1 n (Nat.le_refl _)
  have := ho.1
  omega
def weightI (zs : List Int) (n : Nat) : Int := 3 * overI facOne zs n
theorem part_one (zs : List Int) (i j : Nat) : part facOne zs i j = crossI (nth zs (i * 2)) (nth zs (i * 2 + 1)) (nth zs (j * 2)) (nth zs (j * 2 + 1)) := by simp [part, facOne]
theorem areaTo_bd {zs : List Int} {n : Nat} (hp : ptsTo zs n) : ∀ k, k ≤ n → -(7200 * (k : Int)) ≤ overTo facOne zs n k ∧ overTo facOne zs n k ≤ 7200 * (k : Int)
 | 0, _ => by simp [overTo]
 | k + 1, hk => by
  have ih := areaTo_bd hp k (by omega)
  have h1 := hp k (by omega)
  have h2 := hp ((k + 1) % n) (Nat.mod_lt _ (by omega))
  unfold ptA at h1 h2
  have h := crossI_bd h1 h2
  simp only [overTo, part_one]
  omega
theorem weightI_bd (zs : List Int) (n : Nat) : -129600 ≤ weightI zs n ∧ weightI zs n ≤ 129600 := by
 unfold weightI
 cases h : stoneB zs n
 ·rw [overI_f h]; omega
 ·have ho := stoneB_out h
  rw [overI_t h]
  have := areaTo_bd ho.2.1 n (Nat.le_refl _)
  have := ho.1
  omega
end
section
open Go.RowKit
def gcdTo (L : List Int) : Nat → Nat
 | 0 => 0
 | k + 1 => Nat.gcd (gcdTo L k) (nth L k).natAbs
def gcd4 (a b c d : Int) : Nat := Nat.gcd (Nat.gcd a.natAbs b.natAbs) (Nat.gcd c.natAbs d.natAbs)
theorem gcdTo_4 (a b c d : Int) : gcdTo [a, b, c, d] 4 = gcd4 a b c d := by
 simp [gcdTo, nth, gcd4, Nat.gcd_assoc]
theorem gcdTo_2 (a b : Int) : gcdTo [a, b] 2 = Nat.gcd a.natAbs b.natAbs := by simp [gcdTo, nth]
theorem gcdTo_le {L : List Int} {M : Nat} (h : ∀ k, (nth L k).natAbs ≤ M) : ∀ k, gcdTo L k ≤ M
 | 0 => by simp [gcdTo]
 | k + 1 => by
  by_cases e : (nth L k).natAbs = 0
  ·simp only [gcdTo, e, Nat.gcd_zero_right]
   exact gcdTo_le h k
  ·simp only [gcdTo]
   exact Nat.le_trans (Nat.le_of_dvd (by omega) (Nat.gcd_dvd_right _ _)) (h k)
theorem gcd_round {d m : Nat} : Nat.gcd m (d % m) = Nat.gcd d m := by
 rw [Nat.gcd_comm d m, Nat.gcd_rec m d, Nat.gcd_comm]
theorem natAbs_tmod (a b : Int) : (Int.tmod a b).natAbs = a.natAbs % b.natAbs := Int.natAbs_tmod a b
theorem gcd_round_i {a b : Int} : Nat.gcd b.natAbs (Int.tmod a b).natAbs = Nat.gcd a.natAbs b.natAbs := by
 rw [natAbs_tmod]
 exact gcd_round
theorem gcd4_pos {a b c d : Int} (h : d ≠ 0) : 0 < gcd4 a b c d := by
 unfold gcd4
 refine Nat.pos_of_ne_zero fun e => ?_
 have h1 := (Nat.gcd_eq_zero_iff.1 e).2
 have h2 := (Nat.gcd_eq_zero_iff.1 h1).2
 omega
def okG (a : Int) : Prop := -4000000000000000000 ≤ a ∧ a ≤ 4000000000000000000
theorem okG_tmod {a b : Int} (hb : b ≠ 0) (h : okG b) : okG (Int.tmod a b) := by
 have h1 := natAbs_tmod a b
 have h2 := Nat.mod_lt a.natAbs (y := b.natAbs) (by omega)
 unfold okG at *
 omega
theorem okG_neg {a : Int} (h : okG a) : IntKind.i64.wrap (-a) = -a := by
 unfold okG at h
 exact IntWalk.i64_in _ (by omega)
def okU (n : Nat) : Prop := n ≤ 4000000000000000000
theorem okU_nat {a : Int} (h : okG a) : okU a.natAbs := by unfold okG at h; unfold okU; omega
theorem okU_mod {d m : Nat} (h0 : m ≠ 0) (h : okU m) : okU (d % m) := by
 have := Nat.mod_lt d (y := m) (by omega)
 unfold okU at *
 omega
theorem okU_gcdTo {L : List Int} (h : ∀ k, okG (nth L k)) (k : Nat) : okU (gcdTo L k) := gcdTo_le (fun j => okU_nat (h j)) k
theorem u64_neg {a : Int} (h : okG a) (hn : a < 0) : IntKind.u64.wrap (-IntKind.u64.wrap a) = (a.natAbs : Int) := by
 unfold okG at h
 simp only [IntKind.wrap, IntKind.signed, IntKind.bits]
 simp
 omega
theorem u64_pos {a : Int} (h : okG a) (hn : 0 ≤ a) : IntKind.u64.wrap a = (a.natAbs : Int) := by
 unfold okG at h
 simp only [IntKind.wrap, IntKind.signed, IntKind.bits]
 simp
 omega
theorem u64_to_i64 {n : Nat} (h : okU n) : IntKind.i64.wrap (n : Int) = (n : Int) := by
 unfold okU at h
 exact IntWalk.i64_in _ (by omega)
theorem tmod_lt {a b : Int} (hb : b ≠ 0) : (Int.tmod a b).natAbs < b.natAbs := by
 rw [natAbs_tmod]
 exact Nat.mod_lt _ (by omega)
def thrB (H V M D : Int) : Bool := inB D 1 1000000 && (inB H 0 1000000000000 && (inB V (-10000000000000) 10000000000000 && (inB M (-10000000000000) 10000000000000 && decide (gcd4 H V M D = 1))))
theorem thrB_1 (H V M : Int) {D : Int} (h : inB D 1 1000000 = false) : thrB H V M D = false := by simp [thrB, h]
theorem thrB_2 {H : Int} (V M D : Int) (h : inB H 0 1000000000000 = false) : thrB H V M D = false := by simp [thrB, h]
theorem thrB_3 (H : Int) {V : Int} (M D : Int) (h : inB V (-10000000000000) 10000000000000 = false) : thrB H V M D = false := by simp [thrB, h]
theorem thrB_4 (H V : Int) {M : Int} (D : Int) (h : inB M (-10000000000000) 10000000000000 = false) : thrB H V M D = false := by simp [thrB, h]
theorem thrB_t {H V M D : Int} (h1 : inB D 1 1000000 = true) (h2 : inB H 0 1000000000000 = true) (h3 : inB V (-10000000000000) 10000000000000 = true) (h4 : inB M (-10000000000000) 10000000000000 = true) : thrB H V M D = decide (gcd4 H V M D = 1) := by
 simp [thrB, h1, h2, h3, h4]
theorem thrB_out {H V M D : Int} (h : thrB H V M D = true) : (1 ≤ D ∧ D ≤ 1000000) ∧ (0 ≤ H ∧ H ≤ 1000000000000) ∧ (-10000000000000 ≤ V ∧ V ≤ 10000000000000) ∧ (-10000000000000 ≤ M ∧ M ≤ 10000000000000) ∧ gcd4 H V M D = 1 := by
 simp only [thrB, Bool.and_eq_true, inB_iff, decide_eq_true_eq] at h
 exact ⟨h.1, h.2.1, h.2.2.1, h.2.2.2.1, h.2.2.2.2⟩
end
section
open Go.RowKit
section
variable {zs : List Int} {W M W' M' : Nat → Int}
end
def rowB (a b c d : Int) : Bool := inB a (-100) 100 && (inB b (-100) 100 && (inB c (-1) 1 && inB d (-1000000000) 1000000000))
theorem rowB_1 {a : Int} (b c d : Int) (h : inB a (-100) 100 = false) : rowB a b c d = false := by simp [rowB, h]
theorem rowB_2 (a : Int) {b : Int} (c d : Int) (h : inB b (-100) 100 = false) : rowB a b c d = false := by simp [rowB, h]
theorem rowB_3 (a b : Int) {c : Int} (d : Int) (h : inB c (-1) 1 = false) : rowB a b c d = false := by simp [rowB, h]
theorem rowB_t {a b c : Int} (d : Int) (h1 : inB a (-100) 100 = true) (h2 : inB b (-100) 100 = true) (h3 : inB c (-1) 1 = true) : rowB a b c d = inB d (-1000000000) 1000000000 := by simp [rowB, h1, h2, h3]
theorem rowB_iff {a b c d : Int} : rowB a b c d = true ↔ (-100 ≤ a ∧ a ≤ 100) ∧ (-100 ≤ b ∧ b ≤ 100) ∧ (-1 ≤ c ∧ c ≤ 1) ∧ (-1000000000 ≤ d ∧ d ≤ 1000000000) := by simp [rowB, inB_iff]
def rowAt (rs : List Int) (i : Nat) : Bool := rowB (nth rs (i * 4)) (nth rs (i * 4 + 1)) (nth rs (i * 4 + 2)) (nth rs (i * 4 + 3))
end
section
open Go.RowKit
theorem IntsAt.after {w w1 : World} {A : Option Addr} {n : Nat} {zs : List Int} (h : IntsAt w w.heap.size A n zs) (hb : Below w.heap.size w w1) : IntsAt w1 w1.heap.size A n zs := (h.below hb).mono hb.size
end
section
open Go.RowKit
section
variable {w w1 w2 : World}
theorem below_then (h : Below w.heap.size w w1) (h' : Below w1.heap.size w1 w2) : Below w.heap.size w w2 := h.trans (h'.mono h.size)
def Box (w : World) (b : Nat) (v : Value) : Prop := w.cell? ⟨b, 0, none⟩ = some v ∧ b < w.heap.size
theorem Box.after {b : Nat} {v : Value} (h : Box w b v) (hb : Below w.heap.size w w1) : Box w1 b v := ⟨(hb.cell (p := ⟨b, 0, none⟩) h.2).trans h.1, Nat.lt_of_lt_of_le h.2 hb.size⟩
theorem Box.alloc {b : Nat} {v : Value} (h : Box w b v) (o : Obj) : Box (w.alloc o) b v := h.after ((Below.refl _ _).alloc (Nat.le_refl _) _)
theorem Box.new (w : World) (v : Value) (t : TypeId) : Box (w.alloc (.cells #[v] t)) w.heap.size v := ⟨cell_new1 w v t, by simp⟩
theorem Box.drewN {b : Nat} {v : Value} (h : Box w b v) (k : Nat) : Box (w.drewN k) b v := h
def Box2 (w : World) (b : Nat) (u v : Value) : Prop := w.cell? ⟨b, 0, none⟩ = some u ∧ w.cell? ⟨b, 1, none⟩ = some v ∧ b < w.heap.size
theorem Box2.after {b : Nat} {u v : Value} (h : Box2 w b u v) (hb : Below w.heap.size w w1) : Box2 w1 b u v := ⟨(hb.cell (p := ⟨b, 0, none⟩) h.2.2).trans h.1, (hb.cell (p := ⟨b, 1, none⟩) h.2.2).trans h.2.1, Nat.lt_of_lt_of_le h.2.2 hb.size⟩
theorem Box2.new (w : World) (u v : Value) (t : TypeId) : Box2 (w.alloc (.cells #[u, v] t)) w.heap.size u v := by
 have hr : (w.alloc (.cells #[u, v] t)).rowIs w.heap.size t 2 (fun i => if i = 0 then u else v) := World.rowIs_alloc w #[u, v] t _ (fun i hi => by simp at hi; match i, hi with | 0, _ => rfl | 1, _ => rfl)
 exact ⟨hr.cell (by omega), hr.cell (by omega), by simp⟩
end
end
end Go.Proofs.YtbpnbhemdbgmjaaGreat
