/-
  Texts that the law stands on, part 5.
-/
import Derived.Test.YtjcgklifabcfkaaGreatV1
import Derived.Test.YtjcgklifabcfkaaGreatV4
import Derived.Conc.CrowdStepC2
import Derived.Conc.Beside
set_option maxRecDepth 100000
set_option linter.unusedVariables false
set_option linter.unusedSimpArgs false
namespace Go.Proofs.YtjcgklifabcfkaaGreat
namespace Rn
open Go.Conc
theorem Rdy.tp {c:CommCase} {sh:CommShape} {x:Value} {w1 w2:World} (h:Rdy c sh w1 x w2) (t:Tp) (d:Nat):Rdy c sh (w1.tp t d) x (w2.tp t d):=by
 cases h with
 | send h1 h2=>exact .send (w:=w1.tp t d) h1 h2
 | recv ok h1 h2=>exact .recv (w:=w1.tp t d) ok h1 h2
 | shut ok h1=>exact .shut (w:=w1.tp t d) ok h1
theorem Rdy.tape {c:CommCase} {sh:CommShape} {x:Value} {w1 w2:World} (h:Rdy c sh w1 x w2):w2.tape=w1.tape∧w2.drawn=w1.drawn:=by
 cases h <;> exact ⟨rfl,rfl⟩
section
variable {C : Ctx} {r : Ren} {w v : World}
theorem WR.setIn (hw:WR C r w v) {a b:Nat} (ab:r a b) (hr:¬ C.RO a) {ob ob':Obj} (h:OR C r (some ob) (some ob')) :
  Ext C r w v r { w with heap:=w.heap.setIfInBounds a ob } { v with heap:=v.heap.setIfInBounds b ob' }∧WR C r { w with heap:=w.heap.setIfInBounds a ob } { v with heap:=v.heap.setIfInBounds b ob' }:=by
 have hl:=hw.lt _ _ ab;have apart:∀ p q,r p q→a ≠ p→b ≠ q:=fun p q pq hp e=>by
  rcases hw.inj _ _ _ ab (by rw [e]; exact pq) with e' | ⟨e',_⟩
  ·exact hp e'
  ·exact hr e'
 refine ⟨⟨Sub.refl _,fun _ _ h => .inl h,fun i h=>absurd h (by simp),by simp; omega,by simp,⟨0,rfl,rfl⟩,fun q hq hno => ?_,fun p q pq hp => ?_,rfl,rfl,rfl,rfl,rfl,rfl⟩,
  ⟨fun p q pq=>by simpa using hw.lt p q pq,hw.fn,hw.inj,fun p q pq hpr => ?_,fun p q pq hpr => ?_,hw.winG,hw.glob,by simpa using hw.big,hw.shz,fun p hp=>by simpa using hw.roLt p hp,hw.noInfo⟩⟩
 ·simp only [Array.getElem?_setIfInBounds]
  rw [if_neg (fun e=>hno a (by rw [← e]; exact ab))]
 ·simp only [Array.getElem?_setIfInBounds]
  rw [if_neg (apart p q pq (fun e=>hr (by rw [e]; exact hp)))]
 ·simp only [Array.getElem?_setIfInBounds]
  by_cases hp:a=p
  ·subst hp
   have:b=q:=hw.fn _ _ _ ab pq;subst this;rw [if_pos rfl,if_pos rfl,if_pos hl.1,if_pos hl.2];exact h
  ·rw [if_neg hp,if_neg (apart p q pq hp)]
   exact hw.obj p q pq hpr
 ·have hp:a ≠ p:=fun e=>hr (by rw [e]; exact hpr)
  simp only [Array.getElem?_setIfInBounds];rw [if_neg hp,if_neg (apart p q pq hp)];exact hw.win p q pq hpr
theorem comm_lone {P:Program} {f:Frame} {L:List Frame} {w0:World} {es:Array Event} {c c':CommCase} {sh:CommShape} (hw:WR C r w v) (hC:CommR C r sh c c') (hs:stepG P true (G f L) w0 = .comm (G f L) #[c] true sh w es) :
  (∃ x w2,Rdy c sh w x w2) ∨ (∃ chain,step P (lone f L w0) = .next (lone (f.raise chain) L w)) ∨ (∃ o w',step P (lone f L w0) = .ended o w') ∨ (∃ g,g.status = .blocked∧step P (lone f L w0) = .next (solo g w)):=by
 have key:step P (lone f L w0)=(communicate P { timers := #[],alone:=none,slice:=none } #[{ (default:Goroutine) with status := .finished }] 0 (G f L) #[c] true sh w).1:=by
  rw [lone_eq_solo,step,stepT_solo rfl];simp [runT,solo,G,Array.swapAt!,Array.swapAt,hs] at hs ⊢
 obtain ⟨ch,snd,z⟩:=c;obtain ⟨ch',snd',z'⟩:=c';obtain ⟨hCh,h1,h2,h3,h4⟩:=hC;simp only at h1 h2 h3 h4;cases h1 with
 | @ch a b hab hnr =>
  have ho:=hw.obj _ _ hab hnr;revert ho
  generalize h5:w.heap[a]?=o1;generalize h6:v.heap[b]?=o2;intro ho;cases ho with
  | cells va=>exact .inr (.inr (.inl ⟨_,_,by rw [key]; simp [communicate,h5]; first | rfl | exact ⟨rfl,rfl⟩⟩))
  | map va=>exact .inr (.inr (.inl ⟨_,_,by rw [key]; simp [communicate,h5]; first | rfl | exact ⟨rfl,rfl⟩⟩))
  | number l va=>exact .inr (.inr (.inl ⟨_,_,by rw [key]; simp [communicate,h5]; first | rfl | exact ⟨rfl,rfl⟩⟩))
  | @chan buf buf' cap cl sn q tm hc va =>
   rcases h4 with ⟨rfl,hsnd⟩ | ⟨⟨ok,rfl⟩,rfl⟩
   ·obtain ⟨u,rfl⟩:=Option.isSome_iff_exists.1 hsnd
    have hp:=partners_alone (c:=a) false;cases cl with
    | true=>exact .inr (.inl ⟨_,by rw [key]; simp [communicate,ways,h5,choose,Sem.run,Question.forced,bind,Sem.bind,pure,runtimePanic,G,lone]; first | rfl | exact ⟨rfl,rfl⟩⟩)
    | false =>
     by_cases hr:buf.size<cap
     ·exact .inl ⟨_,_,.send (v:=u) (z:=z) h5 hr⟩
     ·exact .inr (.inr (.inr ⟨_,rfl,by rw [key]; simp [communicate,ways,h5,hp,hr,waitingAt,timerAhead,solo]; first | rfl | exact ⟨rfl,rfl⟩⟩))
   ·have hp:=partners_alone (c:=a) true
    by_cases hr:0<buf.size
    ·exact .inl ⟨_,_,.recv (z:=z) ok h5 hr⟩
    ·obtain rfl:buf = #[]:=by
      apply Array.eq_empty_of_size_eq_zero
      omega
     cases cl with
     | true=>exact .inl ⟨_,_,.shut (z:=z) ok h5⟩
     | false=>exact .inr (.inr (.inr ⟨_,rfl,by rw [key]; simp [communicate,ways,h5,hp,waitingAt,timerAhead,solo]; first | rfl | exact ⟨rfl,rfl⟩⟩))
 | ch0=>exact .inr (.inr (.inr ⟨_,rfl,by rw [key]; simp [communicate,ways,waitingAt,timerAhead,solo]; first | rfl | exact ⟨rfl,rfl⟩⟩))
 | _=>exact .inr (.inr (.inl ⟨_,_,by rw [key]; simp [communicate]; first | rfl | exact ⟨rfl,rfl⟩⟩))
theorem comm_real {c c':CommCase} {sh:CommShape} {x:Value} {w2:World} (hw:WR C r w v) (ht:TE w v) (hC:CommR C r sh c c') (h:Rdy c sh w x w2):∃ x' v2,Rdy c' sh v x' v2∧VR C r x x'∧Ext C r w v r w2 v2∧WR C r w2 v2∧TE w2 v2:=by
 obtain ⟨ch',snd',z'⟩:=c';obtain ⟨hCh,h1,h2,h3,h4⟩:=hC;simp only at h1 h2 h3 h4;cases h with
 | @send a cap s q u z _ buf tm h5 h6 =>
  cases h1 with
  | @ch _ b hab hnr =>
   have ho:=hw.obj _ _ hab hnr;rw [h5] at ho;generalize h7:v.heap[b]?=o2 at ho;cases ho with
   | @chan _ buf' _ _ _ _ _ hc va =>
    cases snd' with
    | none=>exact h2.elim
    | some u' =>
     have hu:VR C r u u':=h2;obtain ⟨e1,e2⟩:=hw.setIn hab hnr (OR.chan cap false (s+1) q tm hc (va.push hu));exact ⟨undef,_,.send (v:=u') (z:=z') h7 (by rw [← va.size]; exact h6),vr_undef,e1,e2,ht⟩
 | @recv a cap s q z _ buf tm cl ok h5 h6 =>
  cases h1 with
  | @ch _ b hab hnr =>
   have ho:=hw.obj _ _ hab hnr;rw [h5] at ho;generalize h7:v.heap[b]?=o2 at ho;cases ho with
   | @chan _ buf' _ _ _ _ _ hc va =>
    cases snd' with
    | some u'=>exact h2.elim
    | none =>
     have e3:buf.size=buf'.size:=va.size;obtain ⟨e1,e2⟩:=hw.setIn hab hnr (ob' := .chan cap (buf'.extract 1 buf'.size) cl s (q+1) tm) (by rw [← e3]; exact OR.chan cap cl s (q+1) tm hc (va.extract 1 buf.size));refine ⟨got ok (buf'.getD 0 undef) true,_,.recv (z:=z') ok h7 (by rw [← e3]; exact h6),?_,e1,e2,ht⟩
     ·have hv:=va.getD 0 (d:=undef) (d':=undef) vr_undef
      cases ok with
      | false=>exact hv
      | true=>exact VR.tupleA ((VAll.one hv).push (.bool true))
 | @shut a cap s q z _ tm ok h5 =>
  cases h1 with
  | @ch _ b hab hnr =>
   have ho:=hw.obj _ _ hab hnr;rw [h5] at ho;generalize h7:v.heap[b]?=o2 at ho;cases ho with
   | @chan _ buf' _ _ _ _ _ hc va =>
    cases snd' with
    | some u'=>exact h2.elim
    | none =>
     obtain rfl:buf' = #[]:=Array.eq_empty_of_size_eq_zero va.size.symm;refine ⟨got ok z' false,_,.shut (z:=z') ok h7,?_,Ext.refl C r w v,hw,ht⟩;cases ok with
     | false=>exact h3
     | true=>exact VR.tupleA ((VAll.one h3).push (.bool false))
end
structure CommOn (C:Ctx) (r:Ren) (f f':Frame) (w v:World) (x x':Value) (n:Nat) (w2 v1 v2:World) (r1:Ren) (c':CommCase) (sh:CommShape) (es':Array Event):Prop where
 ch:C.Ch
 tape:w2.tape=w.tape
 drawn:w2.drawn=w.drawn+n
 lone:∀ Y t' d',Agree n w.tape w.drawn t' d'→step C.Px (lone f Y (w.tp t' d')) = .next (lone (f.finish x) Y (w2.tp t' (d'+n)))
 real:∀ main Y,stepG C.P main (G f' Y) v = .comm (G f' Y) #[c'] true sh v1 es'
 rdy:Rdy c' sh v1 x' v2
 ext:Ext C r w v r1 w2 v2
 wr:WR C r1 w2 v2
 te:TE w2 v2
 ev:∀ e ∈ es',EvOk C r1 e
 val:VR C r1 x x'
theorem comm_on {C:Ctx} {r:Ren} {f f':Frame} {cs:List Frame} {w v:World} (hf:FrR C r f f') (hcs:∀ c ∈ cs,PlainF C.Px c) (h:CommStep C r f f' w v) {k:Nat} {fr:Frame} {w':World} (hm:fr.mode = .returning ∨ fr.mode = .run)
  (hK:runN C.Px (k+1) (lone f (cs ++ [Xb]) w) = .next (lone fr [Xb] w')):∃ x x' n w2 v1 v2 r1 c' sh es',CommOn C r f f' w v x x' n w2 v1 v2 r1 c' sh es':=by
 obtain ⟨c,c',sh,n,w1,v1,r1,es',hmode,t1,t2,hlone,hreal,hext,hw1,ht1,hev,hC⟩:=h;obtain ⟨es,hs⟩:=hlone (cs ++ [Xb]) w.tape w.drawn (fun _ _ _=>rfl);have ew:w.tp w.tape w.drawn=w:=rfl;have ew1:w1.tp w.tape (w.drawn+n)=w1:=by rw [← t1,← t2]; rfl
 rw [ew,ew1] at hs;rcases comm_lone hw1 hC hs with ⟨x,w2,hr⟩ | ⟨chain,h1⟩ | ⟨o,w3,h1⟩ | ⟨g,hg,h1⟩
 ·obtain ⟨x',v2,hr',hx,e2,hw2,ht2⟩:=comm_real hw1 ht1 hC hr
  obtain ⟨u1,u2⟩:=hr.tape;refine ⟨x,x',n,w2,v1,v2,r1,c',sh,es',hC.ch,u1.trans t1,u2.trans t2,fun Y t' d' ha => ?_,hreal,hr',hext.trans e2,hw2,ht2,hev,hx⟩;obtain ⟨es2,hs2⟩:=hlone Y t' d' ha;exact (hr.tp t' (d'+n)).lone hs2
 ·exfalso
  simp only [runN,h1] at hK;have hpf:f.defers = []∧∃ fn,C.Px.funcs[f.fn]?=some fn:=by
   cases hf with
   | mk m hF _ _ =>
    obtain ⟨fn,c,h1,_⟩:=hF.body;exact ⟨rfl,fn,h1⟩
  have er:f.raise chain = { f with mode := .panicking chain }:=by
   unfold Frame.raise;rw [hmode]
  exact pan_never (chain:=chain) (by rw [er]) (by rw [er]; exact hpf.1) (by rw [er]; exact hpf.2) hcs hm hK
 ·exfalso
  simp only [runN,h1] at hK;cases hK
 ·exfalso
  simp only [runN,h1] at hK;cases k with
  | zero =>
   simp only [runN] at hK;unfold lone solo at hK;simp at hK;obtain ⟨_,e⟩:=hK;rw [e] at hg;cases hg
  | succ k =>
   simp only [runN] at hK;cases hq:step C.Px (solo g w1) with
   | next m=>exact absurd hq (solo_blocked hg m)
   | ended o w2=>rw [hq] at hK; cases hK
end Rn
namespace Rn
open Go.Conc
section
variable {C : Ctx} {r r' : Ren}
theorem WR.tp {w v:World} (h:WR C r w v) (t:Tp) (d:Nat):WR C r (w.tp t d) v:=⟨h.lt,h.fn,h.inj,h.obj,h.win,h.winG,h.glob,h.big,h.shz,h.roLt,h.noInfo⟩
theorem LR.plain {X:List Frame} {bs:List Frame}:∀ {L L':List Frame},LR C r X bs L L'→∃ cs,L=cs ++ X∧∀ c ∈ cs,PlainF C.Px c
 | _,_,.nil=>⟨[],rfl,fun c h=>by simp at h⟩
 | _,_,.cons (f:=f) a b=>by
  obtain ⟨cs,e,h⟩:=LR.plain b;refine ⟨f :: cs,by rw [e]; rfl,fun c hc => ?_⟩
  rcases List.mem_cons.1 hc with rfl | hc
  ·cases a with
   | mk m hF _ _ =>
    obtain ⟨fn,c,h1,_⟩:=hF.body;exact ⟨rfl,⟨fn,h1⟩,by cases m <;> first | exact .inl rfl | exact .inr rfl⟩
  ·exact h c hc
theorem stepOn (ok : CtxOk C) {R : Bool → Value → World → Prop} {s0 : St} {n N : Nat} {f f' : Frame} {L L' : List Frame} {w v : World} {bs : List Frame} {main : Bool} (hR : Res C.Px R s0) (hp : Path C.Px s0 n N ⟨f, L, w⟩)
    (hf : FrR C r f f') (hl : LR C r [Xb] bs L L') (hw : WR C r w v) :
    ∃ t d, TE (w.tp t d) v ∧
      ((L = [Xb] ∧ ∃ b x, R b x (w.tp t d) ∧ Ends C.Px b f (w.tp t d) x) ∨
       (∃ f1 L1 w1 m, ¬ (f.mode = .returning ∧ L = [Xb]) ∧ ¬ StopF f ∧ Path C.Px s0 (n + m) (N + 1) ⟨f1, L1, w1⟩ ∧ Rel C.Px ⟨f1, L1, w1⟩ ⟨f, L, w⟩ ∧ Answers C r [Xb] bs main f' L' (w.tp t d) v (G f1 L1) w1) ∨
       (∃ x x' m w2 v1 v2 r1 c' sh es', ¬ (f.mode = .returning ∧ L = [Xb]) ∧ ¬ StopF f ∧ Path C.Px s0 (n + m) (N + 1) ⟨f.finish x, L, w2⟩ ∧ Rel C.Px ⟨f.finish x, L, w2⟩ ⟨f, L, w⟩ ∧ CommOn C r f f' (w.tp t d) v x x' m w2 v1 v2 r1 c' sh es')) := by
  obtain ⟨cs, rfl, hcs⟩ := hl.plain;obtain ⟨t, ha, K, b, x, w', fr, hK, hRx, hlv⟩ := hR.ahead hp (by simp) v.tape v.drawn;have hT : TE (w.tp t n) v := ha;have hwt := hw.tp t n;refine ⟨t, n, hT, ?_⟩;by_cases h0 : K = 0
  · subst h0
    simp only [runN, St.at] at hK;unfold lone at hK;simp at hK;obtain ⟨e1, e2, e3⟩ := hK;refine .inl ⟨by rw [e3]; rfl, b, x, ?_, ?_⟩
    · rw [e1]; exact hRx
    · rw [e1, e2]; exact hlv
  · obtain ⟨k, rfl⟩ : ∃ k, K = k + 1 := ⟨K - 1, by omega⟩
    have hfin : ¬ (f.mode = .returning ∧ cs ++ [Xb] = [Xb]) := by
      rintro ⟨hm, he⟩;have hcs0 : cs = [] := by simpa using he
      subst hcs0;have hstep : ∀ m, runN C.Px (k + 1) (lone f [Xb] (w.tp t n)) = .next m → (∃ fr w', m = lone fr [Xb] w') → False := by
        rintro m hr ⟨fr, w', rfl⟩;cases hf with
        | @mk fid ts ts' todo todo' m2 hF hv hk =>
          cases m2 with
          | false => cases hm
          | true =>
            obtain ⟨fn, bd, h1, h2⟩ := hF.body;cases hrun : (results fn ts).run C.Px (w.tp t n) with
            | halt h wh =>
              obtain ⟨o, w2, he⟩ := stepG_leaveF (P := C.Px) (todo := todo) (cs := [Xb]) h1 hrun;simp only [runN] at hr;rw [step_lone_ended he] at hr;cases hr
            | ok y w1 =>
              have hs : step C.Px (lone (fra fid ts todo true) [Xb] (w.tp t n)) = .next (lone Xb [] w1) := step_lone_go (by
                show (stepG C.Px true (G (fra fid ts todo true) [Xb]) (w.tp t n)).bare = _
                rw [stepG_leaveE (P := C.Px) h1 hrun]
                rfl)
              simp only [runN, hs] at hr;cases k with
              | zero => simp only [runN] at hr; unfold lone at hr; simp at hr
              | succ k =>
                simp only [runN] at hr;cases hq : step C.Px (lone Xb [] w1) with
                | next m1 => exact absurd hq (step_Xb _ _ m1)
                | ended o w2 => rw [hq] at hr; cases hr
      exact hstep _ hK ⟨fr, w', rfl⟩
    have hns : ¬ StopF f := fun hst => by
      simp only [runN, St.at] at hK;cases hs : step C.Px (lone f (cs ++ [Xb]) (w.tp t n)) with
      | next m1 => exact step_stop hst _ _ _ hs
      | ended o w1 => rw [hs] at hK; cases hK
    right;by_cases hnc : CommStep C r f f' (w.tp t n) v
    · right
      obtain ⟨x, x', m, w2, v1, v2, r1, c', sh, es', hcm⟩ := comm_on hf hcs hnc hlv.mode hK;have hpath : Path C.Px ⟨f, cs ++ [Xb], w⟩ m 1 ⟨f.finish x, cs ++ [Xb], w2⟩ := ⟨t, n, fun t' d' ha => by
        have := hcm.lone (cs ++ [Xb]) t' d' ha;show runN C.Px 1 (lone f (cs ++ [Xb]) (w.tp t' d')) = _
        simp only [runN];rw [show lone f (cs ++ [Xb]) (w.tp t' d') = lone f (cs ++ [Xb]) ((w.tp t n).tp t' d') from rfl, this]
        rfl⟩
      exact ⟨x, x', m, w2, v1, v2, r1, c', sh, es', hfin, hns, hp.trans hpath, ⟨m, 1, Nat.le_refl _, hpath⟩, hcm⟩
    left;rcases stepForm ok hf hl hwt hT hfin hnc with ⟨f1, L1, w1, es, hs, hn⟩ | ⟨f1, w1, es, chain, hs, hm, hd, hfn⟩ | ⟨o, w1, hs⟩
    · have hans := stepSim (main := main) ok hf hl hwt hT hs hn hfin
      have hloc := stepLoc ok hf hl hwt hT hs hn hfin;obtain ⟨m, hls, _, _⟩ := LStep.one hloc;have hpath : Path C.Px ⟨f, cs ++ [Xb], w⟩ m 1 ⟨f1, L1, w1⟩ := ⟨_, _, hls⟩;exact ⟨f1, L1, w1, m, hfin, hns, hp.trans hpath, ⟨m, 1, Nat.le_refl _, hpath⟩, hans⟩
    · exfalso
      have h1 : step C.Px (lone f (cs ++ [Xb]) (w.tp t n)) = .next (lone f1 (cs ++ [Xb]) w1) := step_lone_go (by
        show (stepG C.Px true (G f (cs ++ [Xb])) (w.tp t n)).bare = _
        rw [hs]; rfl)
      have hK' : runN C.Px (k + 1) (lone f (cs ++ [Xb]) (w.tp t n)) = .next (lone fr [Xb] w') := hK;simp only [runN, h1] at hK';have hpf : f.defers = [] ∧ ∃ fn, C.Px.funcs[f.fn]? = some fn := by
        cases hf with
        | mk m hF _ _ =>
          obtain ⟨fn, c, h1, _⟩ := hF.body;exact ⟨rfl, fn, h1⟩
      exact pan_never hm (hd.trans hpf.1) (by rw [hfn]; exact hpf.2) hcs hlv.mode hK'
    · exfalso
      have hK' : runN C.Px (k + 1) (lone f (cs ++ [Xb]) (w.tp t n)) = .next (lone fr [Xb] w') := hK;simp only [runN] at hK';rw [step_lone_ended hs] at hK';cases hK'
end
end Rn
namespace Rn
open Go.Conc
abbrev Bl:=Nat→Prop
structure Stays (keep:Bl) (w w1:World):Prop where
 tape:w1.tape=w.tape
 os:w1.os=w.os
 output:w1.output=w.output
 size:w.heap.size≤w1.heap.size
 block:∀ b,b<w.heap.size→keep b→w1.heap[b]?=w.heap[b]?
theorem Stays.refl (keep:Bl) (w:World):Stays keep w w:=⟨rfl,rfl,rfl,Nat.le_refl _,fun _ _ _=>rfl⟩
theorem Stays.trans {keep:Bl} {a b c:World} (h:Stays keep a b) (k:Stays keep b c):Stays keep a c :=
 ⟨k.tape.trans h.tape,k.os.trans h.os,k.output.trans h.output,Nat.le_trans h.size k.size,fun i hi hk=>(k.block i (Nat.lt_of_lt_of_le hi h.size) hk).trans (h.block i hi hk)⟩
theorem Stays.less {keep keep':Bl} {a b:World} (h:Stays keep a b) (hk:∀ i,keep' i→keep i):Stays keep' a b:=⟨h.tape,h.os,h.output,h.size,fun i hi h'=>h.block i hi (hk i h')⟩
def Made (w w':World):Bl:=fun b=>w.heap.size≤b∧b<w'.heap.size
def EvOwn (own ro:Bl) (e:Event):Prop :=
 (e.sync=false∧((∃ q,e.loc = .cell q∧(own q.block ∨ (ro q.block∧e.write=false))) ∨ (∃ b,e.loc = .obj b∧(own b ∨ (ro b∧e.write=false))))) ∨ e = ⟨.mark .noRoom,false,true⟩
structure Did (own ro:Bl) (w w':World) (es:Array Event):Prop where
 tape:w'.tape=w.tape
 os:w'.os=w.os
 output:w'.output=w.output
 size:w.heap.size≤w'.heap.size
 block:∀ b,b<w.heap.size→¬ own b→w'.heap[b]?=w.heap[b]?
 ev:∀ e ∈ es,EvOwn (fun b=>own b ∨ Made w w' b) ro e
inductive Way (P:Program) (main:Bool) (ro:Bl) (Stop:Bl→Goroutine→World→Prop):Bl→Goroutine→World→Prop
 | stop {own:Bl} {g:Goroutine} {w:World}:(∀ w1,Stays (fun b=>own b ∨ ro b) w w1→Stop own g w1)→Way P main ro Stop own g w
 | step {own:Bl} {g:Goroutine} {w:World} (ng:World→Goroutine) (nw:World→World) (ne:World→Array Event):g.status = .running →
   (∀ w1,Stays (fun b=>own b ∨ ro b) w w1→stepG P main g w1 = .go (ng w1) (nw w1) (ne w1)∧Did own ro w1 (nw w1) (ne w1)) →
   (∀ w1,Stays (fun b=>own b ∨ ro b) w w1→Way P main ro Stop (fun b=>own b ∨ Made w1 (nw w1) b) (ng w1) (nw w1))→Way P main ro Stop own g w
open Classical in
theorem Way.next {P:Program} {main:Bool} {ro:Bl} {Stop:Bl→Goroutine→World→Prop} {own:Bl} {g:Goroutine} {w:World} (hg:g.status = .running)
  (h:∀ w1,Stays (fun b=>own b ∨ ro b) w w1→∃ g' w' es,stepG P main g w1 = .go g' w' es∧Did own ro w1 w' es∧Way P main ro Stop (fun b=>own b ∨ Made w1 w' b) g' w'):Way P main ro Stop own g w:=by
 let ch:World→Goroutine × World × Array Event:=fun w1=>match stepG P main g w1 with
  | .go g' w' es=>(g',w',es)
  | _=>(g,w1,#[])
 refine .step (fun w1=>(ch w1).1) (fun w1=>(ch w1).2.1) (fun w1=>(ch w1).2.2) hg (fun w1 hs => ?_) (fun w1 hs => ?_)
 ·obtain ⟨g',w',es,h1,h2,_⟩:=h w1 hs
  have e:ch w1=(g',w',es):=by show (match stepG P main g w1 with | .go g' w' es=>(g',w',es) | _=>(g,w1,#[]))=_; rw [h1]
  rw [e]
  exact ⟨h1,h2⟩
 ·obtain ⟨g',w',es,h1,_,h3⟩:=h w1 hs
  have e:ch w1=(g',w',es):=by show (match stepG P main g w1 with | .go g' w' es=>(g',w',es) | _=>(g,w1,#[]))=_; rw [h1]
  rw [e]
  exact h3
section
variable {C : Ctx} {r r' : Ren}
def Within2 (C:Ctx) (r:Ren) (own ro:Bl):Prop:=∀ a b,r a b→(¬ C.RO a→own b)∧(C.RO a→ro b)
theorem WR.stays {w v v1:World} {own ro:Bl} (h:WR C r w v) (hi:Within2 C r own ro) (hs:Stays (fun b=>own b ∨ ro b) v v1):WR C r w v1:=by
 have keep:∀ a b,r a b→v1.heap[b]?=v.heap[b]?:=fun a b ab=>hs.block b (h.lt a b ab).2 (by
  by_cases hr:C.RO a
  ·exact .inr ((hi a b ab).2 hr)
  ·exact .inl ((hi a b ab).1 hr))
 exact ⟨fun a b ab=>⟨(h.lt a b ab).1,Nat.lt_of_lt_of_le (h.lt a b ab).2 hs.size⟩,h.fn,h.inj,fun a b ab hr=>by rw [keep a b ab]; exact h.obj a b ab hr,fun a b ab hr=>by rw [keep a b ab]; exact h.win a b ab hr,
  h.winG,h.glob,⟨h.big.1,Nat.le_trans h.big.2 hs.size⟩,h.shz,h.roLt,h.noInfo⟩
theorem Ext.within {w v w' v':World} {own ro:Bl} (h:Ext C r w v r' w' v') (hw:WR C r w v) (hw':WR C r' w' v') (hi:Within2 C r own ro):Within2 C r' (fun b=>own b ∨ Made v v' b) ro:=by
 intro a b ab;rcases h.new a b ab with h1 | ⟨i,rfl,rfl⟩
 ·exact ⟨fun hr => .inl ((hi a b h1).1 hr),(hi a b h1).2⟩
 ·exact ⟨fun _ => .inr ⟨Nat.le_add_right _ _,(hw'.lt _ _ ab).2⟩,fun hr=>absurd (hw.roLt _ hr) (by omega)⟩
theorem Ext.did (hch:¬ C.Ch) {w v w' v':World} {own ro:Bl} {es:Array Event} (h:Ext C r w v r' w' v') (hw:WR C r w v) (hw':WR C r' w' v') (hi:Within2 C r own ro) (he:∀ f ∈ es,EvOk C r' f):Did own ro v v' es:=by
 have hi':=h.within hw hw' hi;refine ⟨h.tape,h.os,h.output,by have:=h.size; have:=h.sizeL; omega,fun b hb hn => ?_,fun e hem => ?_⟩
 ·by_cases hx:∃ a,r a b
  ·obtain ⟨a,ab⟩:=hx
   by_cases hr:C.RO a
   ·exact h.keepRO a b ab hr
   ·exact absurd ((hi a b ab).1 hr) hn
  ·exact h.keep b hb fun a ab=>hx ⟨a,ab⟩
 ·have one:∀ a b,r' a b→(e.write=true→¬ C.RO a)→((own b ∨ Made v v' b) ∨ (ro b∧e.write=false)):=by
   intro a b ab hwr;by_cases hr:C.RO a
   ·refine .inr ⟨(hi' a b ab).2 hr,?_⟩
    cases hq:e.write with
    | false=>rfl
    | true=>exact absurd hr (hwr hq)
   ·exact .inl ((hi' a b ab).1 hr)
  rcases he e hem with ⟨hs,⟨q,hq,a,ab,hwr⟩ | ⟨b,hq,a,ab,hwr⟩⟩ | h1
  ·exact .inl ⟨hs,.inl ⟨q,hq,one a _ ab hwr⟩⟩
  ·exact .inl ⟨hs,.inr ⟨b,hq,one a _ ab hwr⟩⟩
  ·rcases h1 with h1 | h1
   ·exact .inr h1
   ·exact absurd h1.1 hch
def AtEnd (C:Ctx) (R:Bool→Value→World→Prop) (ro:Bl) (bs:List Frame) (own:Bl) (g:Goroutine) (v:World):Prop :=
 ∃ r w f f' b x,g=G f' bs∧FrR C r f f'∧WR C r w v∧TE w v∧Within2 C r own ro∧R b x w∧Ends C.Px b f w x
theorem way_of_res (ok:CtxOk C) (hch:¬ C.Ch) (hsp:∀ k f,C.D k (specAt f)=true) (hall:∀ f,C.F f=true→Fine C f) {R:Bool→Value→World→Prop} {s0:St} {bs:List Frame} {main:Bool} {ro:Bl} (hR:Res C.Px R s0) :
  ∀ (s:St),Acc (Rel C.Px) s→∀ {n N:Nat} {r:Ren} {f':Frame} {L':List Frame} {v:World} {own:Bl},Path C.Px s0 n N s→FrR C r s.f f'→LR C r [Xb] bs s.L L'→WR C r s.w v→Within2 C r own ro →
   Way C.P main ro (AtEnd C R ro bs) own (G f' L') v:=by
 intro s hacc;induction hacc with
 | intro s _ ih =>
  obtain ⟨f,L,w⟩:=s;intro n N r f' L' v own hp hf hl hw hi;by_cases hend:(f.mode = .returning ∨ StopF f)∧L = [Xb]
  ·obtain ⟨hm,rfl⟩:=hend
   refine .stop fun v1 hs => ?_
   have hw1:=hw.stays hi hs;obtain ⟨t,d,hT,⟨_,b,x,hRx,hlv⟩ | ⟨f1,L1,w1,m,hnf,hns,hp1,hrel,hans⟩ | ⟨_,_,_,_,_,_,_,_,_,_,_,_,_,_,hcm⟩⟩:=stepOn (main:=main) ok hR hp hf hl hw1
   ·cases hl with
    | nil=>exact ⟨r,w.tp t d,f,f',b,x,rfl,hf,hw1.tp t d,hT,hi,hRx,hlv⟩
    | cons a b=>cases b
   ·rcases hm with hm | hm
    ·exact absurd ⟨hm,rfl⟩ hnf
    ·exact absurd hm hns
   ·exact absurd hcm.ch hch
  ·refine .next rfl fun v1 hs => ?_
   have hw1:=hw.stays hi hs;obtain ⟨t,d,hT,⟨hL,b,x,hRx,hlv⟩ | ⟨f1,L1,w1,m,hnf,hns,hp1,hrel,h',v',es,r',hstep,hx,hw',hT',hev,hout⟩ | ⟨_,_,_,_,_,_,_,_,_,_,_,_,_,_,hcm⟩⟩:=stepOn (main:=main) ok hR hp hf hl hw1
   ·exact absurd ⟨hlv.fin,hL⟩ hend
   ·refine ⟨h',v',es,hstep,hx.did hch (hw1.tp t d) hw' hi hev,?_⟩
    cases hout with
    | go a b=>exact ih ⟨f1,L1,w1⟩ hrel hp1 a b hw' (hx.within (hw1.tp t d) hw' hi)
    | call hF hnf _ _ _=>exact absurd (hall _ (hF.resolve_right fun ⟨⟨k,h⟩,_⟩=>by rw [hsp] at h; cases h)) hnf
   ·exact absurd hcm.ch hch
end
end Rn
namespace Rn
open Go.Conc
inductive Tree
 | leaf
 | node (f:World→Tree)
inductive TLt:Tree→Tree→Prop
 | mk (f:World→Tree) (w:World):TLt (f w) (.node f)
theorem TLt.wf:WellFounded TLt:=⟨fun t=>by
 induction t with
 | leaf=>exact ⟨_,fun y h=>by cases h⟩
 | node f ih=>exact ⟨_,fun y h=>by cases h with | mk f w=>exact ih w⟩⟩
def natT:Nat→Tree
 | 0 => .leaf
 | n+1 => .node fun _=>natT n
theorem natT_lt (w:World) (n:Nat):TLt (natT n) (natT (n+1)) := .mk (fun _=>natT n) w
def FL:Nat→(Nat→Tree)→(Nat→Tree)→Prop
 | 0,_,_=>False
 | n+1,a,b=>TLt (a n) (b n) ∨ (a n=b n∧FL n a b)
theorem FL.wf:∀ n,WellFounded (FL n)
 | 0=>⟨fun a=>⟨_,fun y h=>h.elim⟩⟩
 | n+1=>by
  have h:=(Prod.lex ⟨TLt,TLt.wf⟩ ⟨FL n,FL.wf n⟩).wf;refine Subrelation.wf (r:=InvImage (Prod.Lex TLt (FL n)) fun a=>(a n,a)) ?_ (InvImage.wf _ h);intro a b hab;rcases hab with hab | ⟨e,hab⟩
  ·exact Prod.Lex.left _ _ hab
  ·show Prod.Lex _ _ (a n,a) (b n,b)
   rw [e];exact Prod.Lex.right _ hab
theorem FL.at {n k:Nat} (hk:k<n) {a b:Nat→Tree} (h:TLt (a k) (b k)) (he:∀ m,k<m→m<n→a m=b m):FL n a b:=by
 induction n with
 | zero=>omega
 | succ n ih =>
  by_cases e:k=n
  ·subst e; exact .inl h
  ·exact .inr ⟨he n (by omega) (by omega),ih (by omega) fun m h1 h2=>he m h1 (by omega)⟩
def Plus (own:Bl) (w w':World):Bl:=fun b=>own b ∨ Made w w' b
theorem Plus.same {own:Bl} {w w':World} (h:w'.heap.size=w.heap.size):Plus own w w'=own:=by
 funext b
 refine propext ⟨fun x=>x.elim id fun ⟨a,c⟩=>absurd c (by omega),.inl⟩
section
variable {P : Program} {main : Bool} {R R' : Bl → World → World → Prop} {D D' : Bl → World → World → Array Event → Prop} {Stop Stop' : Bl → Goroutine → World → Prop}
inductive WayG (P:Program) (main:Bool) (R:Bl→World→World→Prop) (D:Bl→World→World→Array Event→Prop) (Stop:Bl→Goroutine→World→Prop):Bl→Goroutine→World→Prop
 | stop {own:Bl} {g:Goroutine} {w:World}:(∀ w1,R own w w1→Stop own g w1)→WayG P main R D Stop own g w
 | step {own:Bl} {g:Goroutine} {w:World} (ng:World→Goroutine) (nw:World→World) (ne:World→Array Event):g.status = .running →
   (∀ w1,R own w w1→stepG P main g w1 = .go (ng w1) (nw w1) (ne w1)∧D own w1 (nw w1) (ne w1)) →
   (∀ w1,R own w w1→WayG P main R D Stop (Plus own w1 (nw w1)) (ng w1) (nw w1))→WayG P main R D Stop own g w
open Classical in
theorem WayG.next {own:Bl} {g:Goroutine} {w:World} (hg:g.status = .running)
  (h:∀ w1,R own w w1→∃ g' w' es,stepG P main g w1 = .go g' w' es∧D own w1 w' es∧WayG P main R D Stop (Plus own w1 w') g' w'):WayG P main R D Stop own g w:=by
 let ch:World→Goroutine × World × Array Event:=fun w1=>match stepG P main g w1 with
  | .go g' w' es=>(g',w',es)
  | _=>(g,w1,#[])
 have key:∀ w1,R own w w1→∃ g' w' es,ch w1=(g',w',es)∧stepG P main g w1 = .go g' w' es∧D own w1 w' es∧WayG P main R D Stop (Plus own w1 w') g' w':=fun w1 hs=>by
  obtain ⟨g',w',es,h1,h2,h3⟩:=h w1 hs
  refine ⟨g',w',es,?_,h1,h2,h3⟩
  show (match stepG P main g w1 with | .go g' w' es=>(g',w',es) | _=>(g,w1,#[]))=_
  rw [h1]
 refine .step (fun w1=>(ch w1).1) (fun w1=>(ch w1).2.1) (fun w1=>(ch w1).2.2) hg (fun w1 hs => ?_) (fun w1 hs => ?_)
 ·obtain ⟨g',w',es,e,h1,h2,_⟩:=key w1 hs
  rw [e]
  exact ⟨h1,h2⟩
 ·obtain ⟨g',w',es,e,_,_,h3⟩:=key w1 hs
  rw [e]
  exact h3
theorem WayG.bind (refl:∀ own w,R own w w) (hR:∀ own w w1,R' own w w1→R own w w1) (hD:∀ own w w' es,D own w w' es→D' own w w' es)
  (k:∀ own g w,Stop own g w→WayG P main R' D' Stop' own g w) {own:Bl} {g:Goroutine} {w:World} (h:WayG P main R D Stop own g w):WayG P main R' D' Stop' own g w:=by
 induction h with
 | @stop own g w h=>exact k _ _ _ (h w (refl own w))
 | step ng nw ne hg h1 _ ih=>exact .step ng nw ne hg (fun w1 hr=>⟨(h1 w1 (hR _ _ _ hr)).1,hD _ _ _ _ (h1 w1 (hR _ _ _ hr)).2⟩) fun w1 hr=>ih w1 (hR _ _ _ hr)
theorem WayG.of_goes {R0:World→World→Prop} {D0:World→World→Array Event→Prop} {St:Goroutine→World→Prop} {own:Bl} (hR:∀ w w1,R own w w1→R0 w w1)
  (hD:∀ w w' es,D0 w w' es→D own w w' es∧w'.heap.size=w.heap.size):∀ {n:Nat} {g:Goroutine} {w:World},Goes P main R0 D0 St n g w→WayG P main R D (fun o g w=>o=own∧St g w) own g w:=by
 intro n;induction n with
 | zero=>exact fun h => .stop fun w1 hr=>⟨rfl,h w1 (hR _ _ hr)⟩
 | succ n ih =>
  intro g w h;rcases h with h | ⟨hg,h⟩
  ·exact .stop fun w1 hr=>⟨rfl,h w1 (hR _ _ hr)⟩
  ·refine .next hg fun w1 hr => ?_
   obtain ⟨g',w',es,e,d,k⟩:=goes_elim (h w1 (hR _ _ hr));obtain ⟨d1,d2⟩:=hD _ _ _ d;exact ⟨g',w',es,e,d1,by rw [Plus.same d2]; exact ih k⟩
theorem Way.toG {ro:Bl} {own:Bl} {g:Goroutine} {w:World} (h:Way P main ro Stop own g w):WayG P main (fun own=>Stays (fun b=>own b ∨ ro b)) (fun own=>Did own ro) Stop own g w:=by
 induction h with
 | stop h=>exact .stop h
 | step ng nw ne hg h1 _ ih=>exact .step ng nw ne hg h1 ih
inductive WayT (P:Program) (main:Bool) (R:Bl→World→World→Prop) (D:Bl→World→World→Array Event→Prop) (Stop:Bl→Goroutine→World→Prop):Tree→Bl→Goroutine→World→Prop
 | stop {T:Tree} {own:Bl} {g:Goroutine} {w:World}:(∀ w1,R own w w1→Stop own g w1)→WayT P main R D Stop T own g w
 | step {f:World→Tree} {own:Bl} {g:Goroutine} {w:World} (ng:World→Goroutine) (nw:World→World) (ne:World→Array Event):g.status = .running →
   (∀ w1,R own w w1→stepG P main g w1 = .go (ng w1) (nw w1) (ne w1)∧D own w1 (nw w1) (ne w1)) →
   (∀ w1,R own w w1→WayT P main R D Stop (f w1) (Plus own w1 (nw w1)) (ng w1) (nw w1))→WayT P main R D Stop (.node f) own g w
open Classical in
theorem WayG.tree {own:Bl} {g:Goroutine} {w:World} (h:WayG P main R D Stop own g w):∃ T,WayT P main R D Stop T own g w:=by
 induction h with
 | stop h=>exact ⟨.leaf,.stop h⟩
 | @step own g w ng nw ne hg h1 _ ih =>
  let f:World→Tree:=fun w1=>if h:R own w w1 then Classical.choose (ih w1 h) else .leaf
  refine ⟨.node f,.step ng nw ne hg h1 fun w1 hr => ?_⟩
  have e:f w1=Classical.choose (ih w1 hr):=dif_pos hr
  rw [e]
  exact Classical.choose_spec (ih w1 hr)
theorem WayT.way {T:Tree} {own:Bl} {g:Goroutine} {w:World} (h:WayT P main R D Stop T own g w):WayG P main R D Stop own g w:=by
 induction h with
 | stop h=>exact .stop h
 | step ng nw ne hg h1 _ ih=>exact .step ng nw ne hg h1 ih
theorem WayT.rely (trans:∀ own a b c,R own a b→R own b c→R own a c) {T:Tree} {own:Bl} {g:Goroutine} {w w1:World} (h:WayT P main R D Stop T own g w) (hr:R own w w1):WayT P main R D Stop T own g w1:=by
 cases h with
 | stop h=>exact .stop fun w2 h2=>h w2 (trans _ _ _ _ hr h2)
 | step ng nw ne hg h1 h2=>exact .step ng nw ne hg (fun w2 h3=>h1 w2 (trans _ _ _ _ hr h3)) fun w2 h3=>h2 w2 (trans _ _ _ _ hr h3)
theorem WayT.inv (refl:∀ own w,R own w w) {T:Tree} {own:Bl} {g:Goroutine} {w:World} (h:WayT P main R D Stop T own g w) :
  (∀ w1,R own w w1→Stop own g w1) ∨ (g.status = .running∧∃ T' g' w' es,TLt T' T∧stepG P main g w = .go g' w' es∧D own w w' es∧WayT P main R D Stop T' (Plus own w w') g' w'):=by
 cases h with
 | stop h=>exact .inl h
 | @step f _ _ _ ng nw ne hg h1 h2=>exact .inr ⟨hg,f w,ng w,nw w,ne w,.mk f w,(h1 w (refl _ _)).1,(h1 w (refl _ _)).2,h2 w (refl _ _)⟩
theorem WayT.running (refl:∀ own w,R own w w) (hs:∀ own g w,Stop own g w→g.status = .running) {T:Tree} {own:Bl} {g:Goroutine} {w:World} (h:WayT P main R D Stop T own g w):g.status = .running:=by
 rcases h.inv refl with h | ⟨h,_⟩
 ·exact hs _ _ _ (h w (refl _ _))
 ·exact h
end
end Rn
namespace Rn
open Go.Conc
open Go.ConcN (ShN PermW RelBy)
structure Ph where
 P:Program
 ty:TypeId
 Wg:Nat
 C:Nat
 n:Nat
 s:Nat
 B0:Nat
 N0:Nat
 SB:Bl
 fin:Nat→Bl→Value→World→Prop
structure Geo (H:Ph):Prop where
 s1:1≤H.s
 wg:H.Wg<H.B0
 c:H.C<H.B0
 ne:H.C ≠ H.Wg
 sWg:¬ H.SB H.Wg
 sC:¬ H.SB H.C
 sB:∀ b,H.SB b→b<H.B0
def lb:Go.Loc→Option Nat
 | .cell a=>some a.block
 | .obj b=>some b
 | _=>none
def DeadL (SB:Bl) (l:Go.Loc):Prop:=∃ b,lb l=some b∧SB b
def OwnL (H:Ph) (ow:Nat→Nat) (i:Nat) (l:Go.Loc):Prop:=(∃ b,lb l=some b∧H.B0≤b∧ow b=H.s+i) ∨ l = .cell ⟨H.C,i,none⟩
def RdL (H:Ph) (X:Nat→Nat) (i:Nat) (l:Go.Loc):Prop:=∃ b,lb l=some b∧((b<H.B0∧b ≠ H.Wg∧b ≠ H.C∧¬ H.SB b) ∨ b=X i)
structure XOk (H:Ph) (ow X:Nat→Nat) (j:Nat):Prop where
 ge:∀ i,i<j→H.B0≤X i
 own0:∀ i,i<j→ow (X i)=0
theorem lb_sh {Wg:Nat} {l:Go.Loc} (h:ShN Wg l):lb l=some Wg:=by
 obtain ⟨a,rfl,rfl⟩:=h;rfl
section
variable {H : Ph} {ow X : Nat → Nat} {j : Nat}
theorem OwnL.uniq (G:Geo H) {i i':Nat} {l:Go.Loc} (h:OwnL H ow i l) (k:OwnL H ow i' l):i=i':=by
 rcases h with ⟨b,e,hb,ho⟩ | rfl <;> rcases k with ⟨b',e',hb',ho'⟩ | e2
 ·rw [e] at e'; cases e'; omega
 ·subst e2; simp only [lb,Option.some.injEq] at e; have:=G.c; omega
 ·simp only [lb,Option.some.injEq] at e'; have:=G.c; omega
 ·cases e2; rfl
theorem OwnL.notRd (G:Geo H) (x:XOk H ow X j) {i i':Nat} (hi:i'<j) {l:Go.Loc} (h:OwnL H ow i l):¬ RdL H X i' l:=by
 rintro ⟨b,e,k⟩;rcases h with ⟨b',e',hb,ho⟩ | rfl
 ·rw [e] at e'; cases e'
  rcases k with ⟨h1,_⟩ | rfl
  ·omega
  ·have:=x.own0 i' hi; have:=G.s1; omega
 ·simp only [lb,Option.some.injEq] at e
  subst e;rcases k with ⟨_,_,h3,_⟩ | h1
  ·exact h3 rfl
  ·have:=x.ge i' hi; have:=G.c; omega
theorem OwnL.notSh (G:Geo H) {i:Nat} {l:Go.Loc} (h:OwnL H ow i l):¬ ShN H.Wg l:=by
 intro k;have e:=lb_sh k;rcases h with ⟨b',e',hb,ho⟩ | rfl
 ·rw [e] at e'; cases e'; have:=G.wg; omega
 ·simp only [lb,Option.some.injEq] at e; exact G.ne e
theorem RdL.notSh (G:Geo H) (x:XOk H ow X j) {i:Nat} (hi:i<j) {l:Go.Loc} (h:RdL H X i l):¬ ShN H.Wg l:=by
 intro k;obtain ⟨b,e',h⟩:=h;rw [lb_sh k] at e'; cases e';rcases h with ⟨_,h2,_⟩ | h1
 ·exact h2 rfl
 ·have:=x.ge i hi; have:=G.wg; omega
theorem OwnL.notDead (G:Geo H) {i:Nat} {l:Go.Loc} (h:OwnL H ow i l):¬ DeadL H.SB l:=by
 rintro ⟨b,e,k⟩;rcases h with ⟨b',e',hb,ho⟩ | rfl
 ·rw [e] at e'; cases e'; have:=G.sB _ k; omega
 ·simp only [lb,Option.some.injEq] at e; subst e; exact G.sC k
theorem RdL.notDead (G:Geo H) (x:XOk H ow X j) {i:Nat} (hi:i<j) {l:Go.Loc} (h:RdL H X i l):¬ DeadL H.SB l:=by
 rintro ⟨b,e,k⟩;obtain ⟨b',e',h⟩:=h;rw [e] at e'; cases e';rcases h with ⟨_,_,_,h4⟩ | h1
 ·exact h4 k
 ·have:=x.ge i hi; have:=G.sB _ k; omega
theorem OwnL.mem {i:Nat} {l:Go.Loc} (h:OwnL H ow i l):l.isMemory=true:=by
 rcases h with ⟨b',e',hb,ho⟩ | rfl
 ·cases l <;> first | rfl | cases e'
 ·rfl
theorem RdL.mem {i:Nat} {l:Go.Loc} (h:RdL H X i l):l.isMemory=true:=by
 obtain ⟨b,e',h⟩:=h;cases l <;> first | rfl | cases e'
end
structure TI (H:Ph) (ow X:Nat→Nat) (j:Nat) (t:Trace):Prop where
 quiet:∀ i op a,t[i]?=some op→op.act.touch?=some a→ShN H.Wg a.loc→(a.kind ≠ .plain∧(a.kind = .said→op.g=0)) ∨ (Knows t 0 i∧∀ k,k<j→Knows t (H.s+k) i)
 own:∀ k,k<j→∀ l,OwnL H ow k l→Perm t (H.s+k) l
 rd:∀ k,k<j→∀ l,RdL H X k l→PermW t (H.s+k) l
 free:∀ l,l.isMemory=true→¬ ShN H.Wg l→¬ DeadL H.SB l→(∀ k,k<j→¬ OwnL H ow k l∧¬ RdL H X k l)→Perm t 0 l
 mine:∀ l,l.isMemory=true→¬ ShN H.Wg l→¬ DeadL H.SB l→(∀ k,k<j→¬ OwnL H ow k l)→PermW t 0 l
 nr:∀ said,¬ Race said t
 long:H.N0≤t.size
 old:∀ i op a,t[i]?=some op→i<H.N0→op.act.touch?=some a→a.loc.isMemory=true→Knows t 0 i ∨ (DeadL H.SB a.loc∧a.kind = .atomic)
 over:∀ i g,i<H.N0→t.g? i=some g→g ≠ 0→t.counts i→∃ k,t.g? k=some 0∧HappensBefore t i k
 late:∀ (i:Nat) op,t[i]?=some op→H.N0≤i→op.g<H.s+j
 mute:∀ (i:Nat) op,t[i]?=some op→H.N0≤i→op.g ≠ 0→op.g<H.s→op.act.touch?=none
 atom:∀ (i:Nat) op a,t[i]?=some op→H.N0≤i→op.g ≠ 0→op.act.touch?=some a→a.kind = .atomic→ShN H.Wg a.loc
section
variable {H : Ph} {ow ow' X : Nat → Nat} {j : Nat} {t u : Trace}
def Ok0 (H:Ph) (ow X:Nat→Nat) (j:Nat) (op:MemOp):Prop :=
 op.g=0∧∀ x,op.act.touch?=some x→x.loc.isMemory=true→(ShN H.Wg x.loc∧x.kind ≠ .plain) ∨ (¬ ShN H.Wg x.loc∧¬ DeadL H.SB x.loc∧(∀ k,k<j→¬ OwnL H ow k x.loc)∧(x.write=true→∀ k,k<j→¬ RdL H X k x.loc))
def OkW (H:Ph) (ow X:Nat→Nat) (i:Nat) (op:MemOp):Prop :=
 op.g=H.s+i∧∀ x,op.act.touch?=some x→(ShN H.Wg x.loc∧x.kind ≠ .plain∧x.kind ≠ .said) ∨ ((OwnL H ow i x.loc ∨ (RdL H X i x.loc∧x.write=false))∧x.kind = .plain)
theorem TI.grow' (h : TI H ow X j t) {N : Nat} (hl : ∀ op ∈ t, ∀ a, op.act.touch? = some a → ∀ b, lb a.loc = some b → b < N) (he : ∀ b, b < N → ow' b = ow b) : TI H ow' X j t := by
  have low : ∀ {i : Nat} {a : Touch} {b : Nat}, touchAt t i = some a → lb a.loc = some b → b < N := by
    intro i a b ha hb;obtain ⟨op, hop, hoa⟩ := touch_of ha;exact hl op (Array.mem_of_getElem? hop) a hoa b hb
  have back : ∀ {i k : Nat} {a : Touch}, touchAt t i = some a → (OwnL H ow' k a.loc ↔ OwnL H ow k a.loc) := by
    intro i k a ha;constructor <;> rintro (⟨b, e, h1, h2⟩ | e)
    · exact .inl ⟨b, e, h1, by rw [← he b (low ha e)]; exact h2⟩
    · exact .inr e
    · exact .inl ⟨b, e, h1, by rw [he b (low ha e)]; exact h2⟩
    · exact .inr e
  exact { h with
    own := fun k hk l hl i a ha e => h.own k hk l (by rw [← e] at hl ⊢; exact (back ha).1 hl) i a ha e
    free := fun l hm hs hd hl i a ha e => h.free l hm hs hd (fun k hk => ⟨fun x => (hl k hk).1 (by rw [← e] at x ⊢; exact (back ha).2 x), (hl k hk).2⟩) i a ha e
    mine := fun l hm hs hd hl i a ha e hw => h.mine l hm hs hd (fun k hk => fun x => hl k hk (by rw [← e] at x ⊢; exact (back ha).2 x)) i a ha e hw }
theorem TI.quietKnown (h:TI H ow X j t) {g:Nat} (hg:g=0 ∨ ∃ k,k<j∧g=H.s+k) {said:Bool} {b:Touch} (hb:ShN H.Wg b.loc) (hk:b.kind ≠ .plain) (hs:b.kind = .said→g=0) :
  ∀ i a,touchAt t i=some a→a.conflicts said b→Knows t g i:=by
 intro i a ha hc;obtain ⟨x,hx,hxa⟩:=touch_of ha;obtain ⟨hloc,_,_,hkind⟩:=hc;rcases h.quiet i x a hx hxa (by rw [hloc]; exact hb) with ⟨h1,h2⟩ | ⟨k0,kw⟩
 ·rcases hkind with e | e | ⟨_,e1,e2⟩
  ·exact absurd e h1
  ·exact absurd e hk
  ·have:=knows_own hx
   rwa [h2 e1,← hs e2] at this
 ·rcases hg with rfl | ⟨k,hk,rfl⟩
  ·exact k0
  ·exact kw k hk
theorem TI.app0 (G:Geo H) (x:XOk H ow X j) (h:TI H ow X j t) (hu:∀ op ∈ u,Ok0 H ow X j op):TI H ow X j (t ++ u) where
 quiet i op a hi ha hs:=by
  rcases getElem?_append_cases hi with ⟨_,hi'⟩ | ⟨_,hiu⟩
  ·exact (h.quiet i op a hi' ha hs).imp id fun ⟨k0,kw⟩=>⟨k0.app u,fun k hk=>(kw k hk).app u⟩
  ·rcases (hu op hiu).2 a ha (by obtain ⟨b,e,_⟩:=hs; rw [e]; rfl) with ⟨_,hk⟩ | ⟨hn,_⟩
   ·exact .inl ⟨hk,fun _=>(hu op hiu).1⟩
   ·exact absurd hs hn
 own k hk l hl:=(h.own k hk l hl).app fun op hop b hb e=>by
  rcases (hu op hop).2 b hb (by rw [e]; exact hl.mem) with ⟨hs,_⟩ | ⟨_,_,hn,_⟩
  ·exact absurd (e ▸ hs) (hl.notSh G)
  ·exact absurd (e ▸ hl) (hn k hk)
 rd k hk l hl:=(h.rd k hk l hl).app fun op hop b hb e hw=>by
  rcases (hu op hop).2 b hb (by rw [e]; exact hl.mem) with ⟨hs,_⟩ | ⟨_,_,_,hn⟩
  ·exact absurd (e ▸ hs) (hl.notSh G x hk)
  ·exact absurd (e ▸ hl) (hn hw k hk)
 free l hm hs hd hl:=(h.free l hm hs hd hl).app fun op hop _ _ _=>(hu op hop).1
 mine l hm hs hd hl:=(h.mine l hm hs hd hl).app fun op hop _ _ _ _=>(hu op hop).1
 nr said:=by
  refine noRace_append (h.nr said) (fun op hop=>(hu op hop).1) (fun i a ha op hop b hb hc => ?_);have hbm:b.loc.isMemory=true:=by rw [← hc.1]; exact hc.2.1
  rcases (hu op hop).2 b hb hbm with ⟨hs,hk⟩ | ⟨hs,hd,hno,hnr⟩
  ·exact h.quietKnown (.inl rfl) hs hk (fun _=>rfl) i a ha hc
  ·cases hbw:b.write with
   | true=>exact h.free b.loc hbm hs hd (fun k hk=>⟨hno k hk,hnr hbw k hk⟩) i a ha hc.1
   | false=>exact h.mine b.loc hbm hs hd hno i a ha hc.1 (hc.2.2.1.resolve_right (by simp [hbw]))
 long:=by have:=h.long; simp; omega
 old i op a hi hn ha hm:=by
  have hlt:=h.long;rw [getElem?_append_old (by omega)] at hi;exact (h.old i op a hi hn ha hm).imp (·.app u) id
 over i g hi hg hne hc:=by
  have hlt:=h.long;obtain ⟨k,hk,hb⟩:=h.over i g hi (by rw [← g?_old (u:=u) (by omega)]; exact hg) hne ((counts_old (by omega)).1 hc);have hkl:k<t.size:=by
   unfold Trace.g? at hk;obtain ⟨z,hz,_⟩:=Option.map_eq_some_iff.1 hk;exact lt_size_of_getElem? hz
  exact ⟨k,by rw [g?_old hkl]; exact hk,hb_app u hb⟩
 late i op hi hn:=by
  rcases getElem?_append_cases hi with ⟨_,hi'⟩ | ⟨_,hiu⟩
  ·exact h.late i op hi' hn
  ·rw [(hu op hiu).1]; have:=G.s1; omega
 mute i op hi hn hne hlt:=by
  rcases getElem?_append_cases hi with ⟨_,hi'⟩ | ⟨_,hiu⟩
  ·exact h.mute i op hi' hn hne hlt
  ·exact absurd (hu op hiu).1 hne
 atom i op a hi hn hne ha hk:=by
  rcases getElem?_append_cases hi with ⟨_,hi'⟩ | ⟨_,hiu⟩
  ·exact h.atom i op a hi' hn hne ha hk
  ·exact absurd (hu op hiu).1 hne
theorem TI.appW (G:Geo H) (x:XOk H ow X j) (h:TI H ow X j t) {i:Nat} (hi:i<j) (hu:∀ op ∈ u,OkW H ow X i op):TI H ow X j (t ++ u) where
 quiet i' op a hi' ha hs:=by
  rcases getElem?_append_cases hi' with ⟨_,hi'⟩ | ⟨_,hiu⟩
  ·exact (h.quiet i' op a hi' ha hs).imp id fun ⟨k0,kw⟩=>⟨k0.app u,fun k hk=>(kw k hk).app u⟩
  ·rcases (hu op hiu).2 a ha with ⟨_,hk,hn⟩ | ⟨ho | ⟨hr,_⟩,_⟩
   ·exact .inl ⟨hk,fun e=>absurd e hn⟩
   ·exact absurd hs (ho.notSh G)
   ·exact absurd hs (hr.notSh G x hi)
 own k hk l hl:=(h.own k hk l hl).app fun op hop b hb e=>by
  rcases (hu op hop).2 b hb with ⟨hs,_⟩ | ⟨ho | ⟨hr,_⟩,_⟩
  ·exact absurd (e ▸ hs) (hl.notSh G)
  ·have ek:i=k:=OwnL.uniq G (by rw [← e]; exact ho) hl
   rw [(hu op hop).1,ek]
  ·exact absurd (e ▸ hr) (hl.notRd G x hi)
 rd k hk l hl:=(h.rd k hk l hl).app fun op hop b hb e hw=>by
  rcases (hu op hop).2 b hb with ⟨hs,_⟩ | ⟨ho | ⟨_,hr⟩,_⟩
  ·exact absurd (e ▸ hs) (hl.notSh G x hk)
  ·exact absurd hl (OwnL.notRd G x hk (e ▸ ho))
  ·rw [hr] at hw; cases hw
 free l hm hs hd hl:=(h.free l hm hs hd hl).app fun op hop b hb e=>by
  rcases (hu op hop).2 b hb with ⟨hs',_⟩ | ⟨ho | ⟨hr,_⟩,_⟩
  ·exact absurd (e ▸ hs') hs
  ·exact absurd (e ▸ ho) (hl i hi).1
  ·exact absurd (e ▸ hr) (hl i hi).2
 mine l hm hs hd hl:=(h.mine l hm hs hd hl).app fun op hop b hb e hw=>by
  rcases (hu op hop).2 b hb with ⟨hs',_⟩ | ⟨ho | ⟨_,hr⟩,_⟩
  ·exact absurd (e ▸ hs') hs
  ·exact absurd (e ▸ ho) (hl i hi)
  ·rw [hr] at hw; cases hw
 nr said:=by
  refine noRace_append (h.nr said) (fun op hop=>(hu op hop).1) (fun i' a ha op hop b hb hc => ?_);rcases (hu op hop).2 b hb with ⟨hs,hk,hn⟩ | ⟨ho | ⟨hr,hbw⟩,_⟩
  ·exact h.quietKnown (.inr ⟨i,hi,rfl⟩) hs hk (fun e=>absurd e hn) i' a ha hc
  ·exact h.own i hi b.loc ho i' a ha hc.1
  ·exact h.rd i hi b.loc hr i' a ha hc.1 (hc.2.2.1.resolve_right (by simp [hbw]))
 long:=by have:=h.long; simp; omega
 old i' op a hi' hn ha hm:=by
  have hlt:=h.long;rw [getElem?_append_old (by omega)] at hi';exact (h.old i' op a hi' hn ha hm).imp (·.app u) id
 over i' g hi' hg hne hc:=by
  have hlt:=h.long;obtain ⟨k,hk,hb⟩:=h.over i' g hi' (by rw [← g?_old (u:=u) (by omega)]; exact hg) hne ((counts_old (by omega)).1 hc);have hkl:k<t.size:=by
   unfold Trace.g? at hk;obtain ⟨z,hz,_⟩:=Option.map_eq_some_iff.1 hk;exact lt_size_of_getElem? hz
  exact ⟨k,by rw [g?_old hkl]; exact hk,hb_app u hb⟩
 late i' op hi' hn:=by
  rcases getElem?_append_cases hi' with ⟨_,hi'⟩ | ⟨_,hiu⟩
  ·exact h.late i' op hi' hn
  ·rw [(hu op hiu).1]; omega
 mute i' op hi' hn hne hlt:=by
  rcases getElem?_append_cases hi' with ⟨_,hi'⟩ | ⟨_,hiu⟩
  ·exact h.mute i' op hi' hn hne hlt
  ·have:=(hu op hiu).1; omega
 atom i' op a hi' hn hne ha hk:=by
  rcases getElem?_append_cases hi' with ⟨_,hi'⟩ | ⟨_,hiu⟩
  ·exact h.atom i' op a hi' hn hne ha hk
  ·rcases (hu op hiu).2 a ha with ⟨hs,_⟩ | ⟨_,hp⟩
   ·exact hs
   ·rw [hk] at hp; cases hp
theorem TI.appMute (h:TI H ow X j t) (hn:∀ op ∈ u,op.act.touch?=none) (hl:∀ op ∈ u,op.g<H.s+j) (hnr:∀ said,¬ Race said (t ++ u)):TI H ow X j (t ++ u) where
 quiet i op a hi ha hs:=by
  rcases getElem?_append_cases hi with ⟨_,hi'⟩ | ⟨_,hiu⟩
  ·exact (h.quiet i op a hi' ha hs).imp id fun ⟨k0,kw⟩=>⟨k0.app u,fun k hk=>(kw k hk).app u⟩
  ·rw [hn op hiu] at ha; cases ha
 own k hk l hl:=(h.own k hk l hl).app fun op hop b hb e=>by rw [hn op hop] at hb; cases hb
 rd k hk l hl:=(h.rd k hk l hl).app fun op hop b hb e hw=>by rw [hn op hop] at hb; cases hb
 free l hm hs hd hl:=(h.free l hm hs hd hl).app fun op hop b hb e=>by rw [hn op hop] at hb; cases hb
 mine l hm hs hd hl:=(h.mine l hm hs hd hl).app fun op hop b hb e hw=>by rw [hn op hop] at hb; cases hb
 nr:=hnr
 long:=by have:=h.long; simp; omega
 old i op a hi hn ha hm:=by
  have hlt:=h.long;rw [getElem?_append_old (by omega)] at hi;exact (h.old i op a hi hn ha hm).imp (·.app u) id
 over i g hi hg hne hc:=by
  have hlt:=h.long;obtain ⟨k,hk,hb⟩:=h.over i g hi (by rw [← g?_old (u:=u) (by omega)]; exact hg) hne ((counts_old (by omega)).1 hc);have hkl:k<t.size:=by
   unfold Trace.g? at hk;obtain ⟨z,hz,_⟩:=Option.map_eq_some_iff.1 hk;exact lt_size_of_getElem? hz
  exact ⟨k,by rw [g?_old hkl]; exact hk,hb_app u hb⟩
 late i op hi hn:=by
  rcases getElem?_append_cases hi with ⟨_,hi'⟩ | ⟨_,hiu⟩
  ·exact h.late i op hi' hn
  ·exact hl op hiu
 mute i op hi hn' hne hlt:=by
  rcases getElem?_append_cases hi with ⟨_,hi'⟩ | ⟨_,hiu⟩
  ·exact h.mute i op hi' hn' hne hlt
  ·exact hn op hiu
 atom i op a hi hn' hne ha hk:=by
  rcases getElem?_append_cases hi with ⟨_,hi'⟩ | ⟨_,hiu⟩
  ·exact h.atom i op a hi' hn' hne ha hk
  ·rw [hn op hiu] at ha; cases ha
theorem TI.leaver (h:TI H ow X j t) {g:Nat} (hg:∀ op ∈ u,op.g=g) (hlt:g<H.s+j) (hn:∀ op ∈ u,op.act.touch?=none):TI H ow X j (t ++ u) :=
 h.appMute hn (fun op hop=>by rw [hg op hop]; exact hlt) fun said=>noRace_append (h.nr said) hg fun i a ha op hop b hb=>by rw [hn op hop] at hb; cases hb
theorem TI.fork (G:Geo H) (x:XOk H ow X (j+1)) (h:TI H ow X j t) {y z:MemOp} (hy:y.g=0∧y.act = .go (H.s+j)) (hz:z.g=H.s+j∧z.act = .start) (h0:Deaf t 0=0) (hk0:Deaf t (H.s+j)=0):TI H ow X (j+1) (t ++ #[y,z]):=by
 have xj:XOk H ow X j:=⟨fun i hi=>x.ge i (by omega),fun i hi=>x.own0 i (by omega)⟩;have hnt:∀ op ∈ #[y,z],op.act.touch?=none:=by
  intro op hop;simp only [List.mem_toArray,List.mem_cons,List.not_mem_nil,or_false] at hop;rcases hop with rfl | rfl
  ·rw [hy.2]; rfl
  ·rw [hz.2]; rfl
 have old:∀ {i:Nat} {a:Touch},touchAt (t ++ #[y,z]) i=some a→touchAt t i=some a:=by
  intro i a ha;obtain ⟨w,hw,hwa⟩:=touch_of ha;rcases getElem?_append_cases hw with ⟨_,hw'⟩ | ⟨_,hwu⟩
  ·rw [touchAt_of hw']; exact hwa
  ·rw [hnt w hwu] at hwa; cases hwa
 have fk:∀ {i:Nat},Knows t 0 i→Knows (t ++ #[y,z]) (H.s+j) i:=fun hk=>Go.ConcN.fork_knows hy hz h0 hk0 hk
 have nr:∀ said,¬ Race said (t ++ #[y,z]):=fun said=>by
  have e:t ++ #[y,z]=(t ++ #[y]) ++ #[z]:=by apply Array.ext'; simp
  rw [e];refine noRace_append (g:=H.s+j) (noRace_append (g:=0) (h.nr said) (fun op hop=>by simp at hop; rw [hop]; exact hy.1) (fun i a _ op hop b hb _ => ?_)) (fun op hop=>by simp at hop; rw [hop]; exact hz.1) (fun i a _ op hop b hb _ => ?_)
  ·rw [hnt op (by simp at hop ⊢; exact .inl hop)] at hb; cases hb
  ·rw [hnt op (by simp at hop ⊢; exact .inr hop)] at hb; cases hb
 have hgl:∀ op ∈ #[y,z],op.g<H.s+(j+1):=by
  intro op hop;simp only [List.mem_toArray,List.mem_cons,List.not_mem_nil,or_false] at hop;rcases hop with rfl | rfl
  ·rw [hy.1]; omega
  ·rw [hz.1]; omega
 refine ⟨fun i op a hi ha hs => ?_,fun k hk l hl => ?_,fun k hk l hl => ?_,fun l hm hs hd hl => ?_,fun l hm hs hd hl => ?_,nr,by have:=h.long; simp; omega,fun i op a hi hn ha hm => ?_,fun i g hi hg hne hc => ?_,fun i op hi hn => ?_,fun i op hi hn hne hlt => ?_,fun i op a hi hn hne ha hk => ?_⟩
 ·rcases getElem?_append_cases hi with ⟨_,hi'⟩ | ⟨_,hiu⟩
  ·refine (h.quiet i op a hi' ha hs).imp id fun ⟨k0,kw⟩=>⟨k0.app _,fun k hk => ?_⟩
   by_cases e:k=j
   ·subst e; exact fk k0
   ·exact (kw k (by omega)).app _
  ·rw [hnt op hiu] at ha; cases ha
 ·by_cases e:k=j
  ·subst e
   exact fun i a ha e=>fk (h.free l hl.mem (hl.notSh G) (hl.notDead G) (fun k' hk'=>⟨fun ho=>by have:=OwnL.uniq G ho hl; omega,hl.notRd G xj hk'⟩) i a (old ha) e)
  ·exact (h.own k (by omega) l hl).app fun op hop b hb _=>by rw [hnt op hop] at hb; cases hb
 ·by_cases e:k=j
  ·subst e
   exact fun i a ha e hw=>fk (h.mine l hl.mem (hl.notSh G x (by omega)) (hl.notDead G x (by omega)) (fun k' hk' ho=>OwnL.notRd G x (by omega) ho hl) i a (old ha) e hw)
  ·exact (h.rd k (by omega) l hl).app fun op hop b hb _ _=>by rw [hnt op hop] at hb; cases hb
 ·exact (h.free l hm hs hd fun k hk=>hl k (by omega)).app fun op hop b hb _=>by rw [hnt op hop] at hb; cases hb
 ·exact (h.mine l hm hs hd fun k hk=>hl k (by omega)).app fun op hop b hb _ _=>by rw [hnt op hop] at hb; cases hb
 ·have hlt:=h.long
  rw [getElem?_append_old (by omega)] at hi;exact (h.old i op a hi hn ha hm).imp (·.app _) id
 ·have hlt:=h.long
  obtain ⟨k,hk,hb⟩:=h.over i g hi (by rw [← g?_old (u := #[y,z]) (by omega)]; exact hg) hne ((counts_old (by omega)).1 hc);have hkl:k<t.size:=by
   unfold Trace.g? at hk;obtain ⟨z,hz,_⟩:=Option.map_eq_some_iff.1 hk;exact lt_size_of_getElem? hz
  exact ⟨k,by rw [g?_old hkl]; exact hk,hb_app _ hb⟩
 ·rcases getElem?_append_cases hi with ⟨_,hi'⟩ | ⟨_,hiu⟩
  ·have:=h.late i op hi' hn; omega
  ·exact hgl op hiu
 ·rcases getElem?_append_cases hi with ⟨_,hi'⟩ | ⟨_,hiu⟩
  ·exact h.mute i op hi' hn hne hlt
  ·exact hnt op hiu
 ·rcases getElem?_append_cases hi with ⟨_,hi'⟩ | ⟨_,hiu⟩
  ·exact h.atom i op a hi' hn hne ha hk
  ·rw [hnt op hiu] at ha; cases ha
structure PastO (SB:Bl) (t:Trace):Prop where
 clean:∀ said,¬ Race said t
 known:∀ i a,touchAt t i=some a→a.loc.isMemory=true→Knows t 0 i ∨ (DeadL SB a.loc∧a.kind = .atomic)
 over:t.HandedOver
 hears:Deaf t 0=0
theorem TI.start (G:Geo H) (hp:PastO H.SB t) (hN:H.N0=t.size):TI H ow X 0 t where
 quiet i op a hi ha hs:=by
  have hm:a.loc.isMemory=true:=by obtain ⟨b,e,_⟩:=hs; rw [e]; rfl
  rcases hp.known i a (by rw [touchAt_of hi]; exact ha) hm with hk | ⟨⟨b,e,hb⟩,_⟩
  ·exact .inr ⟨hk,fun k hk=>absurd hk (by omega)⟩
  ·rw [lb_sh hs] at e; cases e; exact absurd hb G.sWg
 own k hk:=absurd hk (by omega)
 rd k hk:=absurd hk (by omega)
 free l hm hs hd hl i a ha e:=(hp.known i a ha (by rw [e]; exact hm)).resolve_right fun x=>hd (e ▸ x.1)
 mine l hm hs hd hl i a ha e hw:=(hp.known i a ha (by rw [e]; exact hm)).resolve_right fun x=>hd (e ▸ x.1)
 nr:=hp.clean
 long:=by omega
 old i op a hi hn ha hm:=hp.known i a (by rw [touchAt_of hi]; exact ha) hm;over i g hi hg hne hc:=hp.over i g hg hne hc
 late i op hi hn:=absurd (lt_size_of_getElem? hi) (by omega)
 mute i op hi hn:=absurd (lt_size_of_getElem? hi) (by omega)
 atom i op a hi hn:=absurd (lt_size_of_getElem? hi) (by omega)
theorem TI.finish (G:Geo H) (h:TI H ow X j t) (h0:Deaf t 0=0) {A:Addr} (hn:NoRelease A t) {q:Nat} (hq:t.act? q=some (.mark (.acquire A))) (hg:t.g? q=some 0) (hh:t.heard q)
  (all:∀ k,k<j→∃ r,RelBy A t (H.s+k) r∧r<q):PastO (fun b=>H.SB b ∨ b=H.Wg) t:=by
 have edge:∀ k r,RelBy A t (H.s+k) r→r<q→HappensBefore t r q:=fun k r hr hrq => .single (.inr ⟨.marked hrq (.inr hr.act) hq (fun k _ _=>hn k),hr.heard,hh⟩)
 have wk:∀ (i:Nat) op,t[i]?=some op→H.N0≤i→op.g ≠ 0→(∃ a,op.act.touch?=some a)→∃ k,k<j∧op.g=H.s+k:=by
  intro i op hi hn hne ⟨a,ha⟩;rcases Nat.lt_or_ge op.g H.s with hlt | hge
  ·rw [h.mute i op hi hn hne hlt] at ha; cases ha
  ·exact ⟨op.g - H.s,by have:=h.late i op hi hn; omega,by omega⟩
 refine ⟨h.nr,fun i a ha hm => ?_,fun i g hgi hne hc => ?_,h0⟩
 ·obtain ⟨op,hop,hoa⟩:=touch_of ha
  by_cases hi:i<H.N0
  ·refine (h.old i op a hop hi hoa hm).imp id fun ⟨⟨b,e,hb⟩,hk⟩=>⟨⟨b,e,.inl hb⟩,hk⟩
  ·by_cases hz:op.g=0
   ·have:=knows_own hop
    rw [hz] at this;exact .inl this
   ·obtain ⟨k,hk,e⟩:=wk i op hop (by omega) hz ⟨a,hoa⟩
    obtain ⟨r,hr,hrq⟩:=all k hk;have hgi:t.g? i=some (H.s+k):=by simp [Trace.g?,hop,e]
    rcases Nat.lt_or_ge r i with hlt | hge
    ·have hnc:=hr.after i hlt hgi
     have hka:a.kind = .atomic:=Classical.byContradiction fun hka=>hnc ⟨a,ha,hm,.inl hka⟩
     have hsh:=h.atom i op a hop (by omega) hz hoa hka;exact .inr ⟨⟨H.Wg,lb_sh hsh,.inr rfl⟩,hka⟩
    ·obtain ⟨zq,hzq,hzg⟩:=Option.map_eq_some_iff.1 hg
     refine .inl ⟨q,zq,hzq,hzg,.inr ?_⟩;rcases Nat.lt_or_ge i r with hlt | hge'
     ·exact .trans (.single (.inl ⟨hlt,_,hgi,hr.g⟩)) (edge k r hr hrq)
     ·obtain rfl:i=r:=by omega
      exact edge k i hr hrq
 ·by_cases hi:i<H.N0
  ·exact h.over i g hi hgi hne hc
  ·obtain ⟨op,hop,hog⟩:=Option.map_eq_some_iff.1 hgi
   obtain ⟨x,hx,_⟩:=id hc;have hoa:op.act.touch?=some x:=by
    have:touchAt t i=some x:=hx;rwa [touchAt_of hop] at this
   obtain ⟨k,hk,e⟩:=wk i op hop (by omega) (by rw [hog]; exact hne) ⟨x,hoa⟩;obtain ⟨r,hr,hrq⟩:=all k hk;have hgi':t.g? i=some (H.s+k):=by rw [hgi,← hog,e]
   have hle:i≤r:=Nat.le_of_not_lt fun hlt=>hr.after i hlt hgi' hc
   rcases Nat.lt_or_ge i r with hlt | hge
   ·exact ⟨q,hg,.trans (.single (.inl ⟨hlt,_,hgi',hr.g⟩)) (edge k r hr hrq)⟩
   ·obtain rfl:i=r:=by omega
    exact ⟨q,hg,edge k i hr hrq⟩
end
end Rn
end Go.Proofs.YtjcgklifabcfkaaGreat
