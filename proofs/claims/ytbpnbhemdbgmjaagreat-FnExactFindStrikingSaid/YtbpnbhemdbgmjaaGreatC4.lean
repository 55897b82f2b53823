/-
  Texts that the law stands on, part 4.
-/
import Derived.Test.YtbpnbhemdbgmjaaGreatC1
import Derived.Test.YtbpnbhemdbgmjaaGreatC3
import Derived.Conc.Own5
import Derived.Conc.Listed
import Derived.Conc.CompanyDraw
set_option linter.unusedVariables false
set_option linter.unusedSimpArgs false
namespace Go.Proofs.YtbpnbhemdbgmjaaGreat
namespace Rn
section
variable {C : Ctx} {r r' : Ren}
def ELs (C : Ctx) (r : Ren) : List MapEntry → List MapEntry → Prop
 | [], [] => True
 | a :: xs, b :: ys => ER C r a b ∧ ELs C r xs ys
 | _, _ => False
theorem ELs.of_get : ∀ {xs ys : List MapEntry}, xs.length = ys.length → (∀ (i : Nat) x y, xs[i]? = some x → ys[i]? = some y → ER C r x y) → ELs C r xs ys
 | [], [], _, _ => trivial
 | [], _ :: _, h, _ => by simp at h
 | _ :: _, [], h, _ => by simp at h
 | x :: xs, y :: ys, h, k => ⟨k 0 x y rfl rfl, ELs.of_get (by simpa using h) fun i a b ha hb => k (i + 1) a b (by simpa using ha) (by simpa using hb)⟩
theorem ELs.mono (h : Sub r r') : ∀ {xs ys : List MapEntry}, ELs C r xs ys → ELs C r' xs ys
 | [], [], _ => trivial
 | a :: xs, b :: ys, k => ⟨ER.mono h k.1, ELs.mono h k.2⟩
 | [], _ :: _, k => k.elim
 | _ :: _, [], k => k.elim
theorem EAll.toList {es es' : Array MapEntry} (h : EAll C r es es') : ELs C r es.toList es'.toList := ELs.of_get (by simpa using h.size) fun i x y hx hy => h.get i x y (by simpa using hx) (by simpa using hy)
theorem EAll.get? {xs ys : Array MapEntry} (h : EAll C r xs ys) {i : Nat} {x : MapEntry} (hx : xs[i]? = some x) : ∃ y, ys[i]? = some y ∧ ER C r x y := by
 have hi := (Array.getElem?_eq_some_iff.1 hx).1
 have hj : i < ys.size := h.size ▸ hi
 exact ⟨ys[i], Array.getElem?_eq_getElem hj, h.get i _ _ hx (Array.getElem?_eq_getElem hj)⟩
theorem EAll.push {xs ys : Array MapEntry} (h : EAll C r xs ys) {v w : MapEntry} (hv : ER C r v w) : EAll C r (xs.push v) (ys.push w) := by
 refine ⟨by simp [h.size], fun i x y hx hy => ?_⟩
 rw [Array.getElem?_push] at hx hy
 rw [h.size] at hx
 split at hx
 ·simp_all
 ·rename_i hne
  rw [if_neg hne] at hy
  exact h.get i x y hx hy
theorem EAll.modify {xs ys : Array MapEntry} (h : EAll C r xs ys) (i : Nat) {f g : MapEntry → MapEntry} (hv : ∀ x y, ER C r x y → ER C r (f x) (g y)) : EAll C r (xs.modify i f) (ys.modify i g) := by
 refine ⟨by simp [h.size], fun j x y hx hy => ?_⟩
 rw [Array.getElem?_modify] at hx hy
 split at hx
 ·rename_i e
  rw [if_pos e] at hy
  cases h1 : xs[j]? with
  | none => rw [h1] at hx; cases hx
  | some u =>
   obtain ⟨z, hz, huz⟩ := h.get? h1
   rw [h1] at hx; rw [hz] at hy
   cases hx; cases hy
   exact hv _ _ huz
 ·rename_i e
  rw [if_neg e] at hy
  exact h.get j x y hx hy
theorem EAll.erase {xs ys : Array MapEntry} (h : EAll C r xs ys) (i : Nat) : EAll C r (xs.eraseIdxIfInBounds i) (ys.eraseIdxIfInBounds i) := by
 unfold Array.eraseIdxIfInBounds
 by_cases hi : i < xs.size
 ·have hj : i < ys.size := h.size ▸ hi
  rw [dif_pos hi, dif_pos hj]
  refine ⟨by simp [h.size], fun j x y hx hy => ?_⟩
  rw [Array.getElem?_eraseIdx] at hx hy
  split at hx
  ·rename_i hj; rw [if_pos hj] at hy; exact h.get j x y hx hy
  ·rename_i hj; rw [if_neg hj] at hy; exact h.get _ x y hx hy
 ·have hj : ¬ i < ys.size := fun hj => hi (h.size ▸ hj)
  rw [dif_neg hi, dif_neg hj]
  exact h
def keyInt (tb : Tables) (t : TypeId) : Bool := match (⟨tb, #[]⟩ : Program).underlying t with
 | some (.map k e) => ((match (⟨tb, #[]⟩ : Program).underlying k with | some (.int _) => true | _ => false) && eqOk tb 1 k) && zeroOk tb e
 | _ => false
theorem keyInt_out {t k e : TypeId} (h : keyInt C.tb t = true) (hd : C.P.underlying t = some (.map k e)) : (∃ ik, C.P.underlying k = some (.int ik)) ∧ zeroOk C.tb e = true ∧ eqOk C.tb 1 k = true := by
 have hd' : (⟨C.tb, #[]⟩ : Program).underlying t = some (.map k e) := hd
 simp only [keyInt, hd', Bool.and_eq_true] at h
 obtain ⟨⟨h1, h3⟩, h2⟩ := h
 have : ∃ ik, (⟨C.tb, #[]⟩ : Program).underlying k = some (.int ik) := by
  revert h1
  cases (⟨C.tb, #[]⟩ : Program).underlying k with
  | none => intro h; cases h
  | some d => cases d <;> intro h <;> first | exact ⟨_, rfl⟩ | cases h
 obtain ⟨ik, hk⟩ := this
 exact ⟨⟨ik, hk⟩, h2, h3⟩
def KF (C : Ctx) (x y : Value) : Prop := ∀ a b, x = .pointer (some a) → y = .pointer (some b) → ¬ (C.RO a.block ∧ C.RO b.block)
theorem Sim.equalKey {kt : TypeId} {ik : IntKind} (hk : C.P.underlying kt = some (.int ik)) (ok : eqOk C.tb 1 kt = true) {x x' y y' : Value} (h : VR C r x x') (k : VR C r y y') :
  Sim C r (fun _ a b => a = b ∧ (a = true → KF C x y ∧ ∀ c, y ≠ .agg c)) (Op.equal kt x y) (Op.equal kt x' y') := by
 by_cases hp : ∃ a b, x = .pointer (some a) ∧ y = .pointer (some b)
 ·obtain ⟨a, b, rfl, rfl⟩ := hp
  cases h with
  | @ptr _ a' ab =>
   cases k with
   | @ptr _ b' cd =>
    have okc : ∀ i, (⟨C.tb, #[]⟩ : Program).info? kt = some i → isCC i.desc = false := by
     intro i hi
     have hk' : (⟨C.tb, #[]⟩ : Program).underlying kt = some (.int ik) := hk
     simpa only [eqOk, hk', hi, Bool.not_eq_true'] using ok
    show Sim C r _ (Op.equalIn (9999 + 1) kt _ _) (Op.equalIn (9999 + 1) kt _ _)
    unfold Op.equalIn
    refine Sim.bind (Sim.under kt) ?_
    rintro r1 d _ h1 ⟨rfl, hd⟩
    rw [hk] at hd
    cases hd
    refine (Sim.intPtr okc (ab.mono h1) (cd.mono h1)).mono fun r' u v _ h => ⟨h.1, fun _ => ⟨fun a b ea eb => ?_, fun c e => by cases e⟩⟩
    cases ea; cases eb
    exact h.2
 ·by_cases hy : ∃ c, y = .agg c
  ·obtain ⟨c, rfl⟩ := hy
   cases k with
   | agg e1 g1 =>
    show Sim C r _ (Op.equalIn (9999 + 1) kt _ _) (Op.equalIn (9999 + 1) kt _ _)
    unfold Op.equalIn
    refine Sim.bind (Sim.under kt) ?_
    rintro r1 d _ h1 ⟨rfl, hd⟩
    rw [hk] at hd
    cases hd
    cases h <;> exact Sim.halt
  ·exact (Sim.equal ok h k).mono fun r' u v _ e => ⟨e, fun _ => ⟨fun a b ea eb => absurd ⟨a, b, ea, eb⟩ hp, fun c e => hy ⟨c, e⟩⟩⟩
theorem Sim.checkKey (b b' : Bool) (n : Nat) {k : TypeId} {ik : IntKind} (hk : C.P.underlying k = some (.int ik)) {x y : Value} (h : VR C r x y) : Sim C r (fun _ _ _ => True) (Instr.checkKey b (n + 1) k x) (Instr.checkKey b' (n + 1) k y) := by
 unfold Instr.checkKey
 refine Sim.bind (Sim.under k) ?_
 rintro r1 d _ h1 ⟨rfl, hd⟩
 rw [hk] at hd
 cases hd
 cases h <;> exact Sim.pure trivial
def FR (C : Ctx) (k : Value) (es : List MapEntry) (r : Ren) : Option (Nat × Value) → Option (Nat × Value) → Prop
 | none, none => True
 | some (i, x), some (j, y) => i = j ∧ VR C r x y ∧ ∃ e, es[i]? = some e ∧ KF C k e.key ∧ ∀ c, e.key ≠ .agg c
 | _, _ => False
theorem sameNow_rel {x x' y y' : Value} (d : TypeDesc) (h : VR C r x x') (k : VR C r y y') : Instr.sameNow d x y = Instr.sameNow d x' y' := by
 cases d <;> cases h <;> cases k <;> rfl
theorem sameNow_kf {d : TypeDesc} {x y : Value} {b : Bool} (h : Instr.sameNow d x y = some b) : KF C x y ∧ ∀ c, y ≠ .agg c := by
 refine ⟨fun a b ea eb => ?_, fun c e => ?_⟩
 ·subst ea
  cases d <;> simp [Instr.sameNow] at h
 ·subst e
  cases d <;> cases x <;> simp [Instr.sameNow] at h
theorem findNow_rel (d : TypeDesc) {k k' : Value} (hk : VR C r k k') (all : List MapEntry) : ∀ {es es' : List MapEntry} (i : Nat), (∀ j, es[j]? = all[i + j]?) → ELs C r es es' →
  (∃ a b, Instr.findNow d k es i = some a ∧ Instr.findNow d k' es' i = some b ∧ FR C k all r a b) ∨ (Instr.findNow d k es i = none ∧ Instr.findNow d k' es' i = none)
 | [], [], i, _, _ => .inl ⟨none, none, rfl, rfl, trivial⟩
 | e :: es, e' :: es', i, ha, ⟨h1, h2⟩ => by
  have e0 : all[i]? = some e := by have := ha 0; simpa using this.symm
  have hs := sameNow_rel d hk h1.key
  unfold Instr.findNow
  rw [← hs]
  cases hb : Instr.sameNow d k e.key with
  | none => exact .inr ⟨rfl, rfl⟩
  | some b => cases b with
   | true => exact .inl ⟨_, _, rfl, rfl, rfl, h1.val, e, e0, (sameNow_kf (C := C) hb).1, (sameNow_kf (C := C) hb).2⟩
   | false => exact findNow_rel d hk all (i + 1) (fun j => by have := ha (j + 1); simp only [List.getElem?_cons_succ] at this; rw [this]; congr 1; omega) h2
 | [], _ :: _, i, _, h => h.elim
 | _ :: _, [], i, _, h => h.elim
theorem Sim.findAsking {kt : TypeId} {ik : IntKind} (hik : C.P.underlying kt = some (.int ik)) (ok : eqOk C.tb 1 kt = true) (all : List MapEntry) : ∀ {es es' : List MapEntry} {r : Ren} {k k' : Value} (i : Nat), (∀ j, es[j]? = all[i + j]?) → VR C r k k' → ELs C r es es' → Sim C r (FR C k all) (Instr.findAsking kt k es i) (Instr.findAsking kt k' es' i)
 | [], [], r, k, k', i, _, hk, _ => Sim.pure trivial
 | e :: es, e' :: es', r, k, k', i, ha, hk, ⟨h1, h2⟩ => by
  have e0 : all[i]? = some e := by have := ha 0; simpa using this.symm
  unfold Instr.findAsking
  refine Sim.bind (Sim.equalKey hik ok hk h1.key) ?_
  rintro r1 b _ hr ⟨rfl, hkf⟩
  cases b with
  | true => exact Sim.pure ⟨rfl, h1.val.mono hr, e, e0, (hkf rfl).1, (hkf rfl).2⟩
  | false => exact Sim.findAsking hik ok all (i + 1) (fun j => by have := ha (j + 1); simp only [List.getElem?_cons_succ] at this; rw [this]; congr 1; omega) (hk.mono hr) (ELs.mono hr h2)
 | [], _ :: _, r, k, k', i, _, hk, h => h.elim
 | _ :: _, [], r, k, k', i, _, hk, h => h.elim
theorem Sim.findKey {kt : TypeId} {ik : IntKind} (hik : C.P.underlying kt = some (.int ik)) (ok : eqOk C.tb 1 kt = true) {es es' : List MapEntry} {k k' : Value} (hk : VR C r k k') (he : ∀ r', Sub r r' → ELs C r' es es') : Sim C r (FR C k es) (Instr.findKey kt k es) (Instr.findKey kt k' es') := by
 unfold Instr.findKey
 refine Sim.bind (Sim.under kt) ?_
 rintro r1 d _ hr ⟨rfl, _⟩
 rcases findNow_rel d (hk.mono hr) es 0 (fun j => by simp) (he r1 hr) with ⟨a, b, e1, e2, h⟩ | ⟨e1, e2⟩
 ·rw [e1, e2]; exact Sim.pure h
 ·rw [e1, e2]; exact Sim.findAsking hik ok es 0 (fun j => by simp) (hk.mono hr) (he r1 hr)
theorem Sim.getMap {a b : Nat} (ab : r a b) {α β : Type} {Q : Ren → α → β → Prop} {s : Sem α} {s' : Sem β} {k : Array MapEntry → Nat → Sem α} {l : Array MapEntry → Nat → Sem β}
  (hs : Never C.Px s) (hk : ∀ r' es es' c, Sub r r' → EAll C r' es es' → Sim C r' Q (k es c) (l es' c)) :
  Sim C r Q (Go.getObj a >>= fun o => match o with | .map es c => k es c | _ => s) (Go.getObj b >>= fun o => match o with | .map es c => l es c | _ => s') := by
 refine Sim.bind (Sim.getObj ab) ?_
 rintro r1 o o' h1 ⟨ho, _⟩
 cases ho with
 | map m => exact hk r1 _ _ _ h1 m
 | _ => exact Sim.never hs
theorem Sim.lookup {t : TypeId} (ok : keyInt C.tb t = true) {x x' y y' : Value} (h : VR C r x x') (k : VR C r y y') (b : Bool) : Sim C r (VR C) (Instr.lookup t x y b) (Instr.lookup t x' y' b) := by
 unfold Instr.lookup
 refine Sim.bind (Sim.under t) ?_
 rintro r1 d _ h1 ⟨rfl, hd⟩
 cases d with
 | map kt et =>
  obtain ⟨⟨ik, hik⟩, hz, heq⟩ := keyInt_out ok hd
  replace h := h.mono h1
  replace k := k.mono h1
  have rest : ∀ (r2 : Ren) (es es' : Array MapEntry), Sub r1 r2 → EAll C r2 es es' → Sim C r2 (VR C)
    (Instr.checkKey es.isEmpty 10000 kt y >>= fun _ => Instr.findKey kt y es.toList >>= fun f => match f with
     | some (_, v) => Pure.pure (if b then .tuple #[v, .bool true] else v)
     | none => zeroValue et >>= fun z => Pure.pure (if b then .tuple #[z, .bool false] else z))
    (Instr.checkKey es'.isEmpty 10000 kt y' >>= fun _ => Instr.findKey kt y' es'.toList >>= fun f => match f with
     | some (_, v) => Pure.pure (if b then .tuple #[v, .bool true] else v)
     | none => zeroValue et >>= fun z => Pure.pure (if b then .tuple #[z, .bool false] else z)) := by
   intro r2 es es' h2 he
   have ret : ∀ (r : Ren) (u v : Value) (c : Bool), VR C r u v → VR C r (if b then .tuple #[u, .bool c] else u) (if b then .tuple #[v, .bool c] else v) := by
    intro r u v c huv
    split
    ·have := ((VAll.nil (C := C) (r := r)).push huv).push (VR.bool c)
     exact VR.tupleA (by simpa using this)
    ·exact huv
   refine Sim.bind (Sim.checkKey _ _ 9999 hik (k.mono h2)) ?_
   intro r3 _ _ h3 _
   refine Sim.bind (Sim.findKey hik heq ((k.mono h2).mono h3) fun r' hr => ((he.mono h3).mono hr).toList) ?_
   intro r4 f g h4 hfg
   match f, g, hfg with
   | none, none, _ =>
    refine Sim.bind (Sim.zero hz) ?_
    rintro r5 z _ h5 ⟨rfl, hf⟩
    exact Sim.pure (ret _ _ _ _ (vr_flat hf))
   | some (i, u), some (j, v), ⟨_, huv, _⟩ => exact Sim.pure (ret _ _ _ _ huv)
  cases h with
  | map0 => exact rest r1 #[] #[] (Sub.refl _) ⟨rfl, fun i e e' he => by simp at he⟩
  | map ab => exact Sim.getMap (k := fun es _ => _) (l := fun es _ => _) ab (Never.bind_left Never.halt) fun r2 es es' c h2 he => rest r2 es es' h2 he
  | _ => exact Sim.never (Never.bind_left Never.halt)
 | _ => exact Sim.halt
theorem sameBits_rel (hw : ∃ w v, WR C r w v) (n : Nat) {x x' y y' : Value} (h : VR C r x x') (k : VR C r y y') (hkf : KF C y x) (hf : ∀ c, x ≠ .agg c) : Instr.sameBits n x y = Instr.sameBits n x' y' := by
 cases h with
 | @ptr a a' ab =>
  cases k with
  | @ptr b b' cd =>
   have := addr_iff hw ab cd (fun h => hkf b a rfl rfl ⟨h.2, h.1⟩)
   cases n <;> simp only [Instr.sameBits] <;> (rw [Bool.eq_iff_iff] at this ⊢; simp only [beq_iff_eq, Option.some.injEq] at this ⊢; exact this.symm)
  | ptr0 => cases n <;> simp [Instr.sameBits]
  | _ => cases n <;> rfl
 | ptr0 =>
  cases k with
  | ptr cd => cases n <;> simp [Instr.sameBits]
  | _ => cases n <;> rfl
 | agg e1 g1 => exact absurd rfl (hf _)
 | _ => cases k <;> cases n <;> rfl
theorem Sim.keyStays {kt : TypeId} {x x' y y' : Value} (h : VR C r x x') (k : VR C r y y') (e : Instr.sameBits 10000 x y = Instr.sameBits 10000 x' y') : Sim C r (VR C) (Instr.keyThatStays x y) (Instr.keyThatStays x' y') := by
 unfold Instr.keyThatStays
 rw [e]
 split
 ·exact Sim.pure k
 ·refine Sim.bind (Sim.choose _) ?_
  rintro r1 c _ h1 rfl
  split
  ·exact Sim.pure (k.mono h1)
  ·exact Sim.pure (h.mono h1)
theorem Sim.mapUpdate {t : TypeId} (ok : keyInt C.tb t = true) {m m' x x' y y' : Value} (hm : VR C r m m') (h : VR C r x x') (k : VR C r y y') : Sim C r (fun _ _ _ => True) (Instr.mapUpdate t m x y) (Instr.mapUpdate t m' x' y') := by
 unfold Instr.mapUpdate
 refine Sim.bind (Sim.under t) ?_
 rintro r1 d _ h1 ⟨rfl, hd⟩
 cases d with
 | map kt et =>
  obtain ⟨⟨ik, hik⟩, hz, heq⟩ := keyInt_out ok hd
  replace hm := hm.mono h1
  replace h := h.mono h1
  replace k := k.mono h1
  cases hm with
  | map0 => exact Sim.never (never_rtp _ _)
  | @map a b ab =>
   refine Sim.getMap ab Never.halt fun r2 es es' c h2 he => ?_
   refine Sim.bind (Sim.checkKey _ _ 9999 hik (h.mono h2)) ?_
   intro r3 _ _ h3 _
   refine Sim.bind (Sim.findKey hik heq ((h.mono h2).mono h3) fun r' hr => ((he.mono h3).mono hr).toList) ?_
   intro r4 f g h4 hfg
   have he4 := (he.mono h3).mono h4
   have hx4 := ((h.mono h2).mono h3).mono h4
   have hy4 := ((k.mono h2).mono h3).mono h4
   have ab4 := h4 _ _ (h3 _ _ (h2 _ _ ab))
   match f, g, hfg with
   | none, none, _ => exact Sim.setMap ab4 _ (he4.push ⟨hx4, hy4, rfl⟩)
   | some (i, u), some (j, v), ⟨e, huv, hkf⟩ =>
    subst e
    obtain ⟨z, hz, hkf, hag⟩ := hkf
    have hz1 : es[i]? = some z := by simpa using hz
    obtain ⟨z', hz', hzz⟩ := he4.get? hz1
    have hold : VR C r4 (((es[i]?).map (·.key)).getD x) (((es'[i]?).map (·.key)).getD x') := by rw [hz1, hz']; exact hzz.key
    have eo : ((es[i]?).map (·.key)).getD x = z.key := by rw [hz1]; rfl
    refine Sim.given fun hw => ?_
    refine Sim.bind (Sim.keyStays (kt := kt) hold hx4 (sameBits_rel hw _ hold hx4 (by rw [eo]; exact hkf) (by rw [eo]; exact hag))) ?_
    intro r5 p q h5 hpq
    exact Sim.setMap (h5 _ _ ab4) _ ((he4.mono h5).modify _ fun a b hab => ⟨hpq, hy4.mono h5, hab.born⟩)
  | _ => exact Sim.halt
 | _ => exact Sim.halt
theorem Sim.delete {ts : Array TypeId} (ok : (match ts[0]? with | some t => keyInt C.tb t | none => false) = true) (t : TypeId) {xs ys : Array Value} (h : VAll C r xs ys) : Sim C r (VR C) (Builtin.delete_ ts t xs) (Builtin.delete_ ts t ys) := by
 unfold Builtin.delete_
 cases h0 : ts[0]? with
 | none => rw [h0] at ok; cases ok
 | some t0 =>
  rw [h0] at ok
  cases hx : xs[0]? with
  | none => exact Sim.halt
  | some m =>
   obtain ⟨m', hy, hm⟩ := h.get? hx
   cases hx1 : xs[1]? with
   | none => exact Sim.halt
   | some x =>
    obtain ⟨x', hy1, hxx⟩ := h.get? hx1
    simp only [hy, hy1]
    refine Sim.bind (Sim.under t0) ?_
    rintro r1 d _ h1 ⟨rfl, hd⟩
    replace hm := hm.mono h1
    replace hxx := hxx.mono h1
    cases d with
    | map kt et =>
     obtain ⟨⟨ik, hik⟩, hz, heq⟩ := keyInt_out ok hd
     cases hm with
     | map0 =>
      refine Sim.bind (Sim.checkKey _ _ 9999 hik hxx) ?_
      intro r2 _ _ h2 _
      exact Sim.pure (VR.tupleA VAll.nil)
     | @map a b ab =>
      refine Sim.getMap ab (Never.bind_left Never.halt) fun r2 es es' c h2 he => ?_
      refine Sim.bind (Sim.checkKey _ _ 9999 hik (hxx.mono h2)) ?_
      intro r3 _ _ h3 _
      refine Sim.bind (Sim.findKey hik heq ((hxx.mono h2).mono h3) fun r' hr => ((he.mono h3).mono hr).toList) ?_
      intro r4 f g h4 hfg
      have he4 := (he.mono h3).mono h4
      have ab4 := h4 _ _ (h3 _ _ (h2 _ _ ab))
      match f, g, hfg with
      | none, none, _ =>
       refine Sim.bind (Sim.setMap ab4 _ he4) ?_
       intro r5 _ _ h5 _
       exact Sim.pure (VR.tupleA VAll.nil)
      | some (i, u), some (j, v), ⟨e, huv, hkf⟩ =>
       subst e
       refine Sim.bind (Sim.setMap ab4 _ (he4.erase i)) ?_
       intro r5 _ _ h5 _
       exact Sim.pure (VR.tupleA VAll.nil)
     | _ => exact Sim.never (Never.bind_left Never.halt)
    | _ => exact Sim.halt
theorem Sim.clear {ts : Array TypeId} (ok : (match ts[0]? with | some t => sliceOk C.tb t | none => false) = true) (t : TypeId) {xs ys : Array Value} (h : VAll C r xs ys) : Sim C r (VR C) (Builtin.clear_ ts t xs) (Builtin.clear_ ts t ys) := by
 unfold Builtin.clear_
 cases h0 : ts[0]? with
 | none => rw [h0] at ok; cases ok
 | some t0 =>
  rw [h0] at ok
  cases hx : xs[0]? with
  | none => exact Sim.halt
  | some m =>
   obtain ⟨m', hy, hm⟩ := h.get? hx
   simp only [hy]
   refine Sim.bind (Sim.under t0) ?_
   rintro r1 d _ h1 ⟨rfl, hd⟩
   replace hm := hm.mono h1
   have ret : Sim C r1 (VR C) (Pure.pure (.tuple #[])) (Pure.pure (.tuple #[])) := Sim.pure (VR.tupleA VAll.nil)
   cases hm with
   | map0 => cases d <;> exact ret
   | @map a b ab =>
    cases d
    all_goals
     refine Sim.getMap ab (Never.bind_left Never.halt) fun r2 es es' c h2 he => ?_
     refine Sim.bind (Sim.setMap (h2 _ _ ab) _ ⟨rfl, fun i e e' he => by simp at he⟩) ?_
     intro r3 _ _ h3 _
     exact Sim.pure (VR.tupleA VAll.nil)
   | sl0 n c => cases d <;> exact ret
   | @sl a b n c ab =>
    cases n with
    | zero => cases d <;> exact ret
    | succ n =>
     cases d with
     | slice elem =>
      have hz : zeroOk C.tb elem = true := by
       have hd' : (⟨C.tb, #[]⟩ : Program).underlying t0 = some (.slice elem) := hd
       simpa [sliceOk, hd'] using ok
      refine Sim.bind (Sim.zero hz) ?_
      rintro r2 z _ h2 ⟨rfl, hf⟩
      have hzc : VAll C r2 z.cells z.cells := VAll.flat (flat_cells hf)
      refine Sim.bind (Sim.storeCells 0 (ab.mono h2) (zeroCells_rel hzc _).toList) ?_
      intro r3 _ _ h3 _
      exact Sim.pure (VR.tupleA VAll.nil)
     | _ => exact Sim.never (Never.bind_left Never.halt)
   | _ => cases d <;> exact Sim.never (Never.bind_left Never.halt)
end
end Rn
namespace Rn
def okX (F D : Nat → Bool) : Operand → Bool
 | .tmp t => D t
 | .const v => flatV v
 | .global _ => false
 | .func f => F f
def specAt (f : Nat) : Nat := 1000000000 + f
def okCallee (F D : Nat → Bool) (n : Nat) : Operand → Bool
 | .func f => F f || (!D (specAt f) && n == 1)
 | x => okX F D x
def okOp (tb : Tables) (F D : Nat → Bool) (o : Oper) : Bool :=
 match o.op with
 | .move x | .assign x | .box _ x | .load _ x | .nilCheck x | .unOp _ _ x | .extract x _ => okX F D x
 | .fieldAddr s x f => okX F D x && fieldOk tb s f
 | .store _ a b | .indexAddr _ a b => okX F D a && okX F D b
 | .pick a b c => okX F D a && okX F D b && okX F D c
 | .slice _ x l h m => okX F D x && l.all (okX F D) && h.all (okX F D) && m.all (okX F D)
 | .alloc t => zeroOk tb t
 | .build t ps => zeroOk tb t && ps.toList.all fun p => okX F D p.2
 | .buildSlice t _ ps => sliceOk tb t && ps.toList.all fun p => okX F D p.2
 | .binOp op t a b _ => okX F D a && okX F D b && (!isEq op || (eqOk tb 5 t && guardOk tb t))
 | .convert s t x => okX F D x && toIntOk tb s && toIntOk tb t
 | .makeSlice t a b => sliceOk tb t && okX F D a && okX F D b
 | .makeFunc (.func f) a b => F f && a.toList.all (okX F D) && b.toList.all (okX F D)
 | .makeMap _ none => true
 | .mapUpdate t a b c => keyInt tb t && okX F D a && okX F D b && okX F D c
 | .lookup t a b _ => keyInt tb t && okX F D a && okX F D b
 | .call c => c.args.toList.all (okX F D) && match c.callee with
  | .value f => okCallee F D c.args.size f
  | .builtin .append => appendOk tb c.argTypes
  | .builtin .len | .builtin .max => true
  | .builtin .delete => (match c.argTypes[0]? with | some t => keyInt tb t | none => false)
  | .builtin .clear => (match c.argTypes[0]? with | some t => sliceOk tb t | none => false)
  | _ => false
 | _ => false
def resD (fn : Func) (D : Nat → Bool) : Bool := fn.results.toList.all fun x => match x with
 | .tmp t => D t
 | .cell a _ => D a
theorem resD_all (fn : Func) : resD fn (fun _ => true) = true := by
 unfold resD
 rw [List.all_eq_true]
 intro x _
 cases x <;> rfl
structure CtxOk (C : Ctx) : Prop where
 lone : ∀ f, C.F f = true → ∃ fn, C.fx[f]? = some fn ∧ (fn.name == "runtime.NumGoroutine") = false ∧ fn.body.isNone = false
 real : ∀ f, C.F f = true → ∃ fn, C.fs[f]? = some fn ∧ (fn.name == "runtime.NumGoroutine") = false ∧ fn.body.isNone = false
 res : ∀ f fn, C.fx[f]? = some fn → resD fn (C.D f) = true
 lone1 : ∀ k f, C.D k (specAt f) = false → ∃ fn, C.fx[f]? = some fn ∧ (fn.name == "runtime.NumGoroutine") = false ∧ fn.body.isNone = false
 real1 : ∀ k f, C.D k (specAt f) = false → ∃ fn, C.fs[f]? = some fn ∧ (fn.name == "runtime.NumGoroutine") = false ∧ fn.body.isNone = false
def Entered (C : Ctx) (f n : Nat) : Prop := C.F f = true ∨ ((∃ k, C.D k (specAt f) = false) ∧ n = 1)
def NextR (C : Ctx) (r : Ren) : Next → Next → Prop
 | .value v, .value w => VR C r v w
 | .skip, .skip => True
 | .enter f xs, .enter g ys => f = g ∧ Entered C f xs.size ∧ VAll C r xs ys
 | _, _ => False
section
variable {C : Ctx} {r r' : Ren}
theorem Sim.toV {x y : Sem Value} (h : Sim C r (VR C) x y) : Sim C r (NextR C) (x >>= fun v => Pure.pure (.value v)) (y >>= fun v => Pure.pure (.value v)) := by
 refine Sim.bind h ?_
 intro r1 v w h1 hv
 exact Sim.pure hv
theorem Sim.toU {x y : Sem Unit} (h : Sim C r (fun _ _ _ => True) x y) : Sim C r (NextR C) (x >>= fun _ => Pure.pure .skip) (y >>= fun _ => Pure.pure .skip) := by
 refine Sim.bind h ?_
 intro r1 v w h1 hv
 exact Sim.pure trivial
theorem CtxOk.both (ok : CtxOk C) {f n : Nat} (h : Entered C f n) : (∃ fn, C.fx[f]? = some fn ∧ (fn.name == "runtime.NumGoroutine") = false ∧ fn.body.isNone = false) ∧ ∃ fn, C.fs[f]? = some fn ∧ (fn.name == "runtime.NumGoroutine") = false ∧ fn.body.isNone = false := by
 rcases h with h | ⟨⟨k, h⟩, _⟩
 ·exact ⟨ok.lone f h, ok.real f h⟩
 ·exact ⟨ok.lone1 k f h, ok.real1 k f h⟩
theorem Sim.callFunc (ok : CtxOk C) {f : Nat} {xs ys : Array Value} (hf : Entered C f xs.size) (h : VAll C r xs ys) : Sim C r (NextR C) (Go.callFunc f xs) (Go.callFunc f ys) := by
 obtain ⟨⟨fn, h1, h2, h3⟩, ⟨gn, k1, k2, k3⟩⟩ := ok.both hf
 unfold Go.callFunc
 refine Sim.bind Sim.program ?_
 rintro r1 p q hr ⟨rfl, rfl⟩
 have e1 : C.Px.funcs[f]? = some fn := h1
 have e2 : C.P.funcs[f]? = some gn := k1
 rw [e1, e2]
 simp only [h2, h3, k2, k3, Bool.false_eq_true, if_false]
 exact Sim.pure ⟨rfl, hf, h.mono hr⟩
theorem VAll.mapX {F D : Nat → Bool} {e e' : Operand → Value} (he : ∀ x, okX F D x = true → VR C r (e x) (e' x)) {xs : Array Operand} (h : xs.toList.all (okX F D) = true) : VAll C r (xs.map e) (xs.map e') :=
 VAll.ofFn _ _ _ fun i x hx => he x (List.all_eq_true.1 h x (by
  have := (Array.getElem?_eq_some_iff.1 hx)
  obtain ⟨hl, rfl⟩ := this
  simp))
theorem VO.mapX {F D : Nat → Bool} {e e' : Operand → Value} (he : ∀ x, okX F D x = true → VR C r (e x) (e' x)) {x : Option Operand} (h : x.all (okX F D) = true) : VO C r (x.map e) (x.map e') := by
 cases x with
 | none => trivial
 | some x => exact he x (by simpa using h)
theorem PL.mapX {F D : Nat → Bool} {e e' : Operand → Value} (he : ∀ x, okX F D x = true → VR C r (e x) (e' x)) : ∀ {ps : List (Nat × Operand)}, (ps.all fun p => okX F D p.2) = true → PL C r (ps.map fun p => (p.1, e p.2)) (ps.map fun p => (p.1, e' p.2))
 | [], _ => .nil
 | (i, x) :: ps, h => by
  simp only [List.all_cons, Bool.and_eq_true] at h
  exact .cons (he x h.1) (PL.mapX he h.2)
theorem simOp (ok : CtxOk C) {D : Nat → Bool} (hD : ∀ f, D (specAt f) = false → ∃ k, C.D k (specAt f) = false) {o : Oper} (ho : okOp C.tb C.F D o = true) {e e' : Operand → Value} (he : ∀ x, okX C.F D x = true → VR C r (e x) (e' x)) (hf1 : ∀ f, e (.func f) = .func (.func f) #[] #[]) (hf2 : ∀ f, e' (.func f) = .func (.func f) #[] #[]) :
  Sim C r (NextR C) (execOp e o) (execOp e' o) := by
 obtain ⟨dst, op, ty, pos, after, guard⟩ := o
 unfold okOp at ho
 unfold execOp
 cases op with
 | move x => exact Sim.pure (he x ho)
 | assign x => exact Sim.pure (he x ho)
 | pick c a b =>
  simp only [Bool.and_eq_true] at ho
  refine Sim.bind (Sim.asBool (he c ho.1.1)) ?_
  rintro r1 t _ h1 rfl
  refine Sim.pure ?_
  show VR C r1 (if t = true then e a else e b) (if t = true then e' a else e' b)
  split
  ·exact (he a ho.1.2).mono h1
  ·exact (he b ho.2).mono h1
 | alloc t => exact Sim.toV (Sim.alloc ho)
 | box t x => exact Sim.toV (Sim.box t (he x ho))
 | build t ps =>
  simp only [Bool.and_eq_true] at ho
  exact Sim.toV (Sim.build ho.1 (by simpa using PL.mapX he ho.2))
 | buildSlice t n ps =>
  simp only [Bool.and_eq_true] at ho
  exact Sim.toV (Sim.buildSlice ho.1 n (by simpa using PL.mapX he ho.2))
 | load t a => exact Sim.toV (Sim.loadAt t (he a ho))
 | store t a x =>
  simp only [Bool.and_eq_true] at ho
  exact Sim.toU (Sim.storeAt t (he a ho.1) (he x ho.2))
 | nilCheck x =>
  dsimp only
  have h := he x ho
  revert h
  generalize e x = u
  generalize e' x = v
  intro h
  cases h <;> first | exact Sim.never (never_rtp _ _) | (refine Sim.pure (Q := NextR C) (a := Next.value _) (b := Next.value _) ?_; show VR C r _ _; constructor <;> assumption)
 | binOp op t a b u =>
  simp only [Bool.and_eq_true, Bool.or_eq_true, Bool.not_eq_true'] at ho
  obtain ⟨⟨ha, hb⟩, hq⟩ := ho
  refine Sim.toV ?_
  refine Sim.bind (Q := fun _ _ _ => True) ?_ ?_
  ·rcases hq with hq | hq
   ·exact Sim.eqGuard' op ⟨fun e => (by subst e; cases hq), fun e => (by subst e; cases hq)⟩ a b
   ·exact Sim.eqGuard hq.2 op a b (he a ha) (he b hb)
  ·intro r1 _ _ h1 _
   refine Sim.binOp (n := 5) op (fun hi => ?_) ((he a ha).mono h1) ((he b hb).mono h1)
   rcases hq with hq | hq
   ·rw [hi] at hq; cases hq
   ·exact hq.1
 | unOp op t x => exact Sim.toV (Sim.unary op (he x ho))
 | convert s t x =>
  simp only [Bool.and_eq_true] at ho
  exact Sim.toV (Sim.convert ho.1.2 ho.2 (he x ho.1.1))
 | makeFunc f a b =>
  cases f with
  | func f =>
   simp only [Bool.and_eq_true] at ho
   have h1 := VAll.mapX he ho.1.2
   have h2 := VAll.mapX he ho.2
   exact Sim.toV (Sim.pure (.func ho.1.1 h1.size h1.get h2.size h2.get))
  | _ => cases ho
 | makeMap t m =>
  cases m with
  | none =>
   refine Sim.toV ?_
   show Sim C r (VR C) (newObj (.map #[] 0) >>= fun b => Pure.pure (.map (some b))) (newObj (.map #[] 0) >>= fun b => Pure.pure (.map (some b)))
   refine Sim.bind (Sim.new fun a b => .map ⟨rfl, fun i e e' he => by simp at he⟩) ?_
   rintro r1 a b h1 ⟨ab, _⟩
   exact Sim.pure (.map ab)
  | some x => cases ho
 | makeSlice t a b =>
  simp only [Bool.and_eq_true] at ho
  exact Sim.toV (Sim.makeSlice ho.1.1 (he a ho.1.2) (he b ho.2))
 | slice t x l h m =>
  simp only [Bool.and_eq_true] at ho
  exact Sim.toV (Sim.sliceAt t (he x ho.1.1.1) (VO.mapX he ho.1.1.2) (VO.mapX he ho.1.2) (VO.mapX he ho.2))
 | fieldAddr t x f =>
  simp only [Bool.and_eq_true] at ho
  exact Sim.toV (Sim.fieldAt ho.2 (he x ho.1))
 | indexAddr t a b =>
  simp only [Bool.and_eq_true] at ho
  exact Sim.toV (Sim.indexAt t (he a ho.1) (he b ho.2))
 | extract x i => exact Sim.toV (Sim.extract (he x ho) i)
 | mapUpdate t a b c =>
  simp only [Bool.and_eq_true] at ho
  exact Sim.toU (Sim.mapUpdate ho.1.1.1 (he a ho.1.1.2) (he b ho.1.2) (he c ho.2))
 | lookup t a b k =>
  simp only [Bool.and_eq_true] at ho
  exact Sim.toV (Sim.lookup ho.1.1 (he a ho.1.2) (he b ho.2) k)
 | call c =>
  obtain ⟨callee, args, ats⟩ := c
  simp only [Bool.and_eq_true] at ho
  have hv := VAll.mapX he ho.1
  have ho2 := ho.2
  cases callee with
  | value f =>
   by_cases hsp : okX C.F D f = true
   rotate_left
   ·cases f with
    | func g =>
     simp only [okX] at hsp
     simp only [okCallee, hsp, Bool.false_or, Bool.and_eq_true, Bool.not_eq_true', beq_iff_eq] at ho2
     show Sim C r (NextR C) (Deferred.ofValue (e (.func g)) (args.map e) >>= fun d => invoke d.target d.args) (Deferred.ofValue (e' (.func g)) (args.map e') >>= fun d => invoke d.target d.args)
     rw [hf1, hf2]
     have hv2 := ((VAll.nil (C := C) (r := r)).append hv).append (VAll.nil (C := C) (r := r))
     exact Sim.callFunc ok (.inr ⟨hD g ho2.1, by simpa using ho2.2⟩) hv2
    | _ => exact absurd ho2 hsp
   have h := he f hsp
   revert h
   show VR C r (e f) (e' f) → Sim C r (NextR C) (Deferred.ofValue (e f) (args.map e) >>= fun d => invoke d.target d.args) (Deferred.ofValue (e' f) (args.map e') >>= fun d => invoke d.target d.args)
   generalize e f = u
   generalize e' f = v
   intro h
   cases h with
   | func hf s1 g1 s2 g2 =>
    exact Sim.callFunc ok (.inl hf) (((VAll.mk s1 g1 : VAll C r _ _).append hv).append (VAll.mk s2 g2))
   | nilFunc => exact Sim.never (show Never C.Px (runtimePanic .nilDeref : Sem Next) from never_rtp _ _)
   | _ => exact Sim.halt
  | builtin b =>
   cases b with
   | append => exact Sim.toV (Sim.append ho2 ty hv)
   | len => exact Sim.toV (Sim.len ats ty hv)
   | max => exact Sim.toV (Sim.max ats ty hv)
   | delete => exact Sim.toV (Sim.delete ho2 ty hv)
   | clear => exact Sim.toV (Sim.clear ho2 ty hv)
   | _ => cases ho2
  | invoke x m => cases ho2
 | _ => cases ho
end
end Rn
namespace Rn
open Go.Conc
def dstD (D : Nat → Bool) (ops : Array Oper) : Bool := ops.toList.all fun o => o.dst.all D
def okC (tb : Tables) (F D : Nat → Bool) : Code → Bool
 | .skip | .exit _ | .ret => true
 | .region _ ops _ => ops.toList.all (okOp tb F D) && dstD D ops
 | .seq a b => okC tb F D a && okC tb F D b
 | .cond c a b => okX F D c && okC tb F D a && okC tb F D b
 | .block _ b | .loop b => okC tb F D b
 | _ => false
def okI (tb : Tables) (F D : Nat → Bool) : Item → Bool
 | .code c | .inLoop c => okC tb F D c
 | .inBlock _ => true
 | .inRegion ops _ => ops.toList.all (okOp tb F D) && dstD D ops
 | _ => false
structure Fine (C : Ctx) (f : FuncId) : Prop where
 same : C.fs[f]? = C.fx[f]?
 body : ∃ fn c, C.fx[f]? = some fn ∧ fn.body = some c ∧ okC C.tb C.F (C.D f) c = true
structure SameF (C : Ctx) (f : FuncId) : Prop where
 same : C.fs[f]? = C.fx[f]?
 body : ∃ fn c, C.fx[f]? = some fn ∧ fn.body = some c
theorem Fine.sameF {C : Ctx} {f : FuncId} (h : Fine C f) : SameF C f := ⟨h.same, let ⟨fn, c, h1, h2, _⟩ := h.body; ⟨fn, c, h1, h2⟩⟩
def fra (f : FuncId) (ts : Array Value) (todo : List Item) (m : Bool) : Frame := { (base f).at ⟨ts, []⟩ todo with mode := if m then .returning else .run }
theorem fra_run (f : FuncId) (ts : Array Value) (todo : List Item) : fra f ts todo false = (base f).at ⟨ts, []⟩ todo := rfl
inductive IL (C : Ctx) (D : Nat → Bool) : List Item → List Item → Prop
 | nil : IL C D [] []
 | cons {x k k'} : okI C.tb C.F D x = true → IL C D k k' → IL C D (x :: k) (x :: k')
 | stop {c k k0} : C.suf c k → (∀ id, exitTo id k0 = none) → IL C D (.code (.refuse "") :: k0) (.code c :: k)
 | part {a d b e k k'} : IL C D (.code a :: .code d :: k) (.code b :: .code e :: k') → IL C D (.code (.seq a d) :: k) (.code (.seq b e) :: k')
theorem IL.same {C : Ctx} {D : Nat → Bool} : ∀ {k : List Item}, k.all (okI C.tb C.F D) = true → IL C D k k
 | [], _ => .nil
 | x :: k, h => by
  simp only [List.all_cons, Bool.and_eq_true] at h
  exact .cons h.1 (IL.same h.2)
structure VOn (C : Ctx) (r : Ren) (D : Nat → Bool) (xs ys : Array Value) : Prop where
 size : xs.size = ys.size
 get : ∀ (i : Nat) x y, D i = true → xs[i]? = some x → ys[i]? = some y → VR C r x y
section
variable {C : Ctx} {r s : Ren} {D : Nat → Bool} {xs ys : Array Value}
theorem VAll.on (h : VAll C r xs ys) : VOn C r D xs ys := ⟨h.size, fun i x y _ => h.get i x y⟩
theorem VOn.all (h : VOn C r (fun _ => true) xs ys) : VAll C r xs ys := ⟨h.size, fun i x y => h.get i x y rfl⟩
theorem VOn.mono (h : Sub r s) (x : VOn C r D xs ys) : VOn C s D xs ys := ⟨x.size, fun i a b hi ha hb => (x.get i a b hi ha hb).mono h⟩
theorem VOn.getD (h : VOn C r D xs ys) {i : Nat} (hi : D i = true) {d d' : Value} (hd : VR C r d d') : VR C r (xs.getD i d) (ys.getD i d') := by
 rcases Nat.lt_or_ge i xs.size with hl | hl
 ·have hj : i < ys.size := h.size ▸ hl
  simp only [Array.getD, hl, hj, dif_pos]
  exact h.get i _ _ hi (Array.getElem?_eq_getElem hl) (Array.getElem?_eq_getElem hj)
 ·have hj : ¬ i < ys.size := by rw [← h.size]; omega
  simp only [Array.getD, Nat.not_lt.2 hl, hj, dif_neg, not_false_eq_true]
  exact hd
theorem VOn.get? (h : VOn C r D xs ys) {i : Nat} (hi : D i = true) {x : Value} (hx : xs[i]? = some x) : ∃ y, ys[i]? = some y ∧ VR C r x y := by
 have hl := (Array.getElem?_eq_some_iff.1 hx).1
 have hj : i < ys.size := h.size ▸ hl
 exact ⟨ys[i], Array.getElem?_eq_getElem hj, h.get i _ _ hi hx (Array.getElem?_eq_getElem hj)⟩
theorem VOn.get?_none (h : VOn C r D xs ys) {i : Nat} (hx : xs[i]? = none) : ys[i]? = none := by
 rw [Array.getElem?_eq_none_iff] at hx ⊢
 rw [← h.size]; exact hx
theorem VOn.set (h : VOn C r D xs ys) (i : Nat) {v w : Value} (hv : VR C r v w) : VOn C r D (xs.setIfInBounds i v) (ys.setIfInBounds i w) := by
 refine ⟨by simp [h.size], fun j x y hj hx hy => ?_⟩
 rw [Array.getElem?_setIfInBounds] at hx hy
 rw [h.size] at hx
 split at hx
 ·rename_i e
  rw [if_pos e] at hy
  split at hx
  ·rename_i hl
   rw [if_pos hl] at hy
   cases hx; cases hy; exact hv
  ·cases hx
 ·rename_i e
  rw [if_neg e] at hy
  exact h.get j x y hj hx hy
end
inductive FrR (C : Ctx) (r : Ren) : Frame → Frame → Prop
 | mk {f ts ts' todo todo'} (m : Bool) : SameF C f → VOn C r (C.D f) ts ts' → IL C (C.D f) todo todo' → FrR C r (fra f ts todo m) (fra f ts' todo' m)
inductive LR (C : Ctx) (r : Ren) (X : List Frame) (bs : List Frame) : List Frame → List Frame → Prop
 | nil : LR C r X bs X bs
 | cons {f f' L L'} : FrR C r f f' → LR C r X bs L L' → LR C r X bs (f :: L) (f' :: L')
section
variable {C : Ctx} {r r' : Ren}
theorem FrR.mono (h : Sub r r') {f f' : Frame} (k : FrR C r f f') : FrR C r' f f' := by
 cases k with
 | mk m a b c => exact .mk m a (b.mono h) c
theorem LR.mono (h : Sub r r') {X : List Frame} {bs L L' : List Frame} (k : LR C r X bs L L') : LR C r' X bs L L' := by
 induction k with
 | nil => exact .nil
 | cons a _ ih => exact .cons (a.mono h) ih
theorem finish_reg (f : FuncId) (ts : Array Value) (ops : Array Oper) (i : Nat) (rest : List Nat) (k : List Item) (m : Bool) (v : Value) : (fra f ts (.inRegion ops (i :: rest) :: k) m).finish v = fra f (match (ops[i]?).bind (·.dst) with | some d => ts.setIfInBounds d v | none => ts) (.inRegion ops rest :: k) m := by
 unfold Frame.finish fra
 cases m <;> simp only [Frame.at] <;> cases (ops[i]?).bind (·.dst) <;> rfl
theorem FrR.finish {f f' : Frame} (k : FrR C r f f') {v v' : Value} (hv : VR C r v v') : FrR C r (f.finish v) (f'.finish v') := by
 cases k with
 | @mk f ts ts' todo todo' m a b c =>
  cases c with
  | nil => exact .mk m a b .nil
  | stop h h0 => exact .mk m a b (.stop h h0)
  | part h => exact .mk m a b (.part h)
  | @cons x k k' h0 hk =>
   cases x with
   | inRegion ops is =>
    cases is with
    | nil => exact .mk m a b (.cons h0 hk)
    | cons i rest =>
     rw [finish_reg, finish_reg]
     refine .mk m a ?_ (.cons h0 hk)
     cases (ops[i]?).bind (·.dst) with
     | none => exact b
     | some d => exact b.set d hv
   | code c' => exact .mk m a b (.cons h0 hk)
   | inBlock id => exact .mk m a b (.cons h0 hk)
   | inLoop c' => exact .mk m a b (.cons h0 hk)
   | _ => cases h0
theorem vr_undef : VR C r undef undef := VR.tupleA VAll.nil
theorem Sim.mapMA {α : Type} {f g : α → Sem Value} {l : List α} {r : Ren} (h : ∀ r' a, a ∈ l → Sub r r' → Sim C r' (VR C) (f a) (g a)) : Sim C r (VL C) (l.mapM f) (l.mapM g) := by
 induction l generalizing r with
 | nil => exact Sim.pure .nil
 | cons a l ih =>
  rw [List.mapM_cons, List.mapM_cons]
  refine Sim.bind (h r a (by simp) (Sub.refl _)) ?_
  intro r1 x y h1 xy
  refine Sim.bind (ih fun r' a ha hs => h r' a (by simp [ha]) (h1.trans hs)) ?_
  intro r2 xs ys h2 hs
  exact Sim.pure (.cons (xy.mono h2) hs)
theorem Sim.results (fn : Func) {D : Nat → Bool} {ts ts' : Array Value} (hD : resD fn D = true) (h : VOn C r D ts ts') : Sim C r (VR C) (Go.results fn ts) (Go.results fn ts') := by
 unfold Go.results
 rw [Array.mapM_eq_mapM_toList, Array.mapM_eq_mapM_toList, bind_map_left, bind_map_left]
 refine Sim.bind (Sim.mapMA fun r' x hx hs => ?_) ?_
 ·have hx := List.all_eq_true.1 hD x hx
  cases x with
  | tmp t => exact Sim.pure ((h.mono hs).getD hx vr_undef)
  | cell a t =>
   have ha := (h.mono hs).getD hx vr_undef
   have e : Sim C r' (AR C) (asAddr (ts.getD a undef)) (asAddr (ts'.getD a undef)) := by
    revert ha
    generalize ts.getD a undef = u
    generalize ts'.getD a undef = v
    intro ha
    cases ha <;> first | exact Sim.pure ‹_› | exact Sim.never (never_rtp _ _) | exact Sim.halt
   refine Sim.bind e ?_
   intro r1 a b h1 ab
   exact Sim.loadVar ab t
 ·intro r1 xs ys h1 hs
  refine Sim.pure ?_
  have hv := hs.toArray
  by_cases e : xs.toArray.size = 1
  ·have e' : ys.toArray.size = 1 := hv.size ▸ e
   rw [dif_pos e, dif_pos e']
   exact hv.get 0 _ _ (Array.getElem?_eq_getElem (by omega)) (Array.getElem?_eq_getElem (by omega))
  ·have e' : ¬ ys.toArray.size = 1 := fun h => e (hv.size.trans h)
   rw [dif_neg e, dif_neg e']
   exact VR.tupleA hv
def Nice (g : Goroutine) : Prop := g.status = .running ∧ (g.frame.mode = .run ∨ g.frame.mode = .returning)
theorem apply_halt {P : Program} {fr : Frame} {cs : List Frame} {s : Sem Next} {w wh : World} {h : Halt} {g' : Goroutine} {w' : World} {es : Array Event} (hm : fr.mode = .run)
  (hr : s.run P w = .halt h wh) (hi : ∀ x, h ≠ .unsupported (.initOrder x)) (hf : ∀ m, h ≠ .fatal m) (ht : ∀ m, h ≠ .throw m) (hs : stepG.apply P true fr cs none s w = .go g' w' es) (hn : Nice g') : False := by
 obtain ⟨n1, n2⟩ := hn
 have hx : (s.runT P w #[]) = (.halt h wh, (s.runT P w #[]).2) := by rw [← hr, ← Sem.runT_fst P s w #[]]
 unfold stepG.apply at hs
 rw [hx] at hs
 cases h with
 | panic p =>
  simp only [if_true, GStep.after] at hs
  cases hs
  unfold Frame.raise at n2
  rw [hm] at n2
  rcases n2 with n2 | n2 <;> cases n2
 | goexit =>
  simp only [if_true, GStep.after] at hs
  cases hs
  unfold Frame.raise at n2
  rw [hm] at n2
  rcases n2 with n2 | n2 <;> cases n2
 | blocked => simp only [if_true, GStep.after] at hs; cases hs; cases n1
 | waiting => simp only [if_true, GStep.after] at hs; cases hs; cases n1
 | fatal m => exact hf m rfl
 | throw m => exact ht m rfl
 | exit c => simp only [if_true, GStep.after] at hs; cases hs
 | stuck c => simp only [if_true, GStep.after] at hs; cases hs
 | unsupported u =>
  have : ∀ g, u ≠ .initOrder g := fun g e => hi g (by rw [e])
  cases u <;> first | exact absurd rfl (this _) | (simp only [if_true, GStep.after] at hs; cases hs)
inductive Out (C : Ctx) (r : Ren) (X : List Frame) (bs : List Frame) : Goroutine → Goroutine → Prop
 | go {f f' L L'} : FrR C r f f' → LR C r X bs L L' → Out C r X bs (G f L) (G f' L')
 | call {fn args args' f f' L L'} : Entered C fn args.size → ¬ Fine C fn → VAll C r args args' → FrR C r f f' → LR C r X bs L L' →
   Out C r X bs (G (Frame.enter C.Px fn args .normal) (f :: L)) (G (Frame.enter C.P fn args' .normal) (f' :: L'))
def Answers (C : Ctx) (r : Ren) (X : List Frame) (bs : List Frame) (main : Bool) (f' : Frame) (L' : List Frame) (w v : World) (g' : Goroutine) (w' : World) : Prop :=
 ∃ h' v' fs' r', stepG C.P main (G f' L') v = .go h' v' fs' ∧ Ext C r w v r' w' v' ∧ WR C r' w' v' ∧ TE w' v' ∧ (∀ f ∈ fs', EvOk C r' f) ∧ Out C r' X bs g' h'
theorem Answers.still {X : List Frame} {bs : List Frame} {main : Bool} {f' f1 f1' : Frame} {L' L1 L1' : List Frame} {w v : World} (hw : WR C r w v) (ht : TE w v)
  (hs : stepG C.P main (G f' L') v = .go (G f1' L1') v) (hf : FrR C r f1 f1') (hl : LR C r X bs L1 L1') : Answers C r X bs main f' L' w v (G f1 L1) w :=
 ⟨_, v, #[], r, hs, Ext.refl C r w v, hw, ht, by simp, .go hf hl⟩
theorem NextR.out {n n' : Next} (h : NextR C r n n') : (∃ a b, n = .value a ∧ n' = .value b ∧ VR C r a b) ∨ (n = .skip ∧ n' = .skip) ∨ (∃ f xs ys, n = .enter f xs ∧ n' = .enter f ys ∧ Entered C f xs.size ∧ VAll C r xs ys) := by
 unfold NextR at h
 split at h
 ·exact .inl ⟨_, _, rfl, rfl, h⟩
 ·exact .inr (.inl ⟨rfl, rfl⟩)
 ·obtain ⟨rfl, h1, h2⟩ := h
  exact .inr (.inr ⟨_, _, _, rfl, rfl, h1, h2⟩)
 ·exact h.elim
theorem opSim (ok : CtxOk C) {X : List Frame} {bs : List Frame} {main : Bool} {f : FuncId} {ts ts' : Array Value} {ops : Array Oper} {i : Nat} {rest : List Nat} {k k' : List Item} {o : Oper} {L L' : List Frame} {w v : World}
  (hf : SameF C f) (hv : VOn C r (C.D f) ts ts') (hk0 : okI C.tb C.F (C.D f) (.inRegion ops (i :: rest)) = true) (hk1 : IL C (C.D f) k k') (hl : LR C r X bs L L') (hw : WR C r w v) (ht : TE w v)
  (ho : ops[i]? = some o) (hwl : Region.wanted o (yielded ops ts) = true) (hwr : Region.wanted o (yielded ops ts') = true)
  {g' : Goroutine} {w' : World} {es : Array Event} (hs : stepG C.Px true (G (fra f ts (.inRegion ops (i :: rest) :: k) false) L) w = .go g' w' es) (hn : Nice g') :
  Answers C r X bs main (fra f ts' (.inRegion ops (i :: rest) :: k') false) L' w v g' w' := by
 unfold Answers
 simp only [fra_run] at hs ⊢
 have hoo : okOp C.tb C.F (C.D f) o = true := by
  simp only [okI, Bool.and_eq_true] at hk0
  obtain ⟨hi, rfl⟩ := Array.getElem?_eq_some_iff.1 ho
  exact List.all_eq_true.1 hk0.1 _ (by simp)
 have he : ∀ x, okX C.F (C.D f) x = true → VR C r ((Act.mk ts []).eval x) ((Act.mk ts' []).eval x) := by
  intro x hx
  cases x with
  | tmp t => exact hv.getD hx vr_undef
  | const c => exact vr_flat hx
  | global g => cases hx
  | func g => exact .func hx rfl (fun i x y h => by simp at h) rfl (fun i x y h => by simp at h)
 have sim := simOp ok (fun g h => ⟨f, h⟩) hoo he (fun _ => rfl) (fun _ => rfl) w v #[] #[] hw ht (by simp)
 have hfr : FrR C r (fra f ts (.inRegion ops (i :: rest) :: k) false) (fra f ts' (.inRegion ops (i :: rest) :: k') false) := .mk false hf hv (.cons hk0 hk1)
 have hki : (base f).kind ≠ .early := by simp [base]
 have fin : ∀ (k : List Item) (ts : Array Value) (x : Value), (fra f ts (.inRegion ops (i :: rest) :: k) false).finish x = (base f).at ((Act.mk ts []).put o.dst x) (.inRegion ops rest :: k) := fun k ts x => by
  rw [fra_run, Frame.finish_at, ho]; rfl
 generalize hx : (execOp (Act.mk ts []).eval o).runT C.Px w #[] = rx at sim
 obtain ⟨R, es0⟩ := rx
 have hrun : (execOp (Act.mk ts []).eval o).run C.Px w = R := by rw [← Sem.runT_fst _ _ _ #[], hx]
 cases R with
 | halt h wh =>
  have hni := sim.2.1 _ _ _ rfl
  rw [stepG_oper ho hwl] at hs
  exact (apply_halt rfl hrun (fun x e => by subst e; simp [isInit] at hni) (fun m e => by subst e; simp [isInit] at hni) (fun m e => by subst e; simp [isInit] at hni) hs hn).elim
 | ok n w1 =>
  obtain ⟨n', v1, fs1, r1, e1, x1, hw1, ht1, hf1, q1⟩ := sim.1 _ _ _ rfl
  have hrun1 : (execOp (Act.mk ts' []).eval o).run C.P v = .ok n' v1 := by rw [← Sem.runT_fst _ _ _ #[], e1]
  have ev : ∀ f1 ∈ listed C.P (base f).fn (Act.mk ts' []) o v, EvOk C r1 f1 := fun f1 h => by
   refine hf1 f1 ?_
   have := mem_seen h
   rw [Sem.events, e1] at this
   exact this
  have hfr1 := hfr.mono x1.le
  rcases q1.out with ⟨a, b, rfl, rfl, hab⟩ | ⟨rfl, rfl⟩ | ⟨fn, xs, ys, rfl, rfl, hF, hxy⟩
  ·
   rw [stepG_value ho hwl hki hrun] at hs
   cases hs
   refine ⟨_, v1, _, r1, stepG_value ho hwr hki hrun1, x1, hw1, ht1, ev, ?_⟩
   rw [← fin, ← fin]
   exact .go (hfr1.finish hab) (hl.mono x1.le)
  ·
   rw [stepG_none ho hwl hki hrun] at hs
   cases hs
   refine ⟨_, v1, _, r1, stepG_none ho hwr hki hrun1, x1, hw1, ht1, ev, ?_⟩
   rw [← fin, ← fin]
   exact .go (hfr1.finish vr_undef) (hl.mono x1.le)
  ·
   rw [stepG_enter ho hwl hki hrun] at hs
   cases hs
   refine ⟨_, v1, _, r1, stepG_enter ho hwr hki hrun1, x1, hw1, ht1, ev, ?_⟩
   by_cases hfn : Fine C fn
   ·obtain ⟨fc, c, h1, h2, h3⟩ := hfn.body
    have h1' : C.P.funcs[fn]? = some fc := by rw [← h1]; exact hfn.same
    rw [enter_at (P := C.Px) xs h1 h2, enter_at (P := C.P) ys h1' h2]
    refine .go ?_ (.cons hfr1 (hl.mono x1.le))
    refine FrR.mk false hfn.sameF (VAll.on (hxy.append ?_)) (.cons (by simp only [okI]; exact h3) .nil)
    rw [hxy.size]
    exact VAll.replicate _ vr_undef
   ·exact .call hF hfn hxy hfr1 (hl.mono x1.le)
theorem yielded_rel {D : Nat → Bool} {ts ts' : Array Value} (h : VOn C r D ts ts') (ops : Array Oper) (hd : dstD D ops = true) : yielded ops ts = yielded ops ts' := by
 funext j
 unfold yielded
 cases hj : ((ops[j]?).bind (·.dst)) with
 | none => rfl
 | some d =>
  have hdd : D d = true := by
   obtain ⟨o, ho, hod⟩ := Option.bind_eq_some_iff.1 hj
   obtain ⟨hi, rfl⟩ := Array.getElem?_eq_some_iff.1 ho
   have := List.all_eq_true.1 hd ops[j] (by simp)
   rw [hod] at this
   simpa using this
  simp only [Option.bind_some]
  cases hx : ts[d]? with
  | none => rw [h.get?_none hx]
  | some x =>
   obtain ⟨y, hy, hr⟩ := h.get? hdd hx
   rw [hy]
   cases hr <;> rfl
theorem stepG_leaveE {P : Program} {main : Bool} {f : FuncId} {ts : Array Value} {todo : List Item} {c : Frame} {cs : List Frame} {w w1 : World} {fn : Func} {v : Value} (hf : P.funcs[f]? = some fn) (hr : (results fn ts).run P w = .ok v w1) :
  stepG P main (G (fra f ts todo true) (c :: cs)) w = .go (G (c.finish v) cs) w1 (seen P f ((results fn ts).events P w #[])) := by
 simp [G, fra, stepG, unwind, doReturn, Frame.at, base, hf, hr, GStep.after]
theorem stepG_leaveH {P : Program} {main : Bool} {f : FuncId} {ts : Array Value} {todo : List Item} {cs : List Frame} {w w1 : World} {fn : Func} {h : Halt} (hf : P.funcs[f]? = some fn) (hr : (results fn ts).run P w = .halt h w1) {g' : Goroutine} {w' : World} {es : Array Event} :
  stepG P main (G (fra f ts todo true) cs) w ≠ .go g' w' es := by
 intro e
 simp [G, fra, stepG, unwind, Frame.at, base, hf, hr, GStep.after] at e
 cases h <;> simp at e
theorem stepG_cond_bad {P : Program} {main : Bool} {f : FuncId} {ts : Array Value} {c : Operand} {x y : Code} {k : List Item} {cs : List Frame} {w : World} {g' : Goroutine} {w' : World} {es : Array Event}
  (hb : ∀ b, (Act.mk ts []).eval c ≠ .bool b) : stepG P main (G (fra f ts (.code (.cond c x y) :: k) false) cs) w ≠ .go g' w' es := by
 intro e
 have h' := Frame.eval_at (base f) ⟨ts, []⟩ (.code (.cond c x y) :: k) c
 simp only [Frame.at] at h'
 simp only [G, fra, stepG, stepG.exec, Frame.at, Bool.false_eq_true, if_false, h'] at e
 generalize (Act.mk ts []).eval c = u at e hb
 cases u <;> first | exact hb _ rfl | (simp at e)
theorem stepG_exit_bad {P : Program} {main : Bool} {f : FuncId} {ts : Array Value} {id : Nat} {k : List Item} {cs : List Frame} {w : World} {g' : Goroutine} {w' : World} {es : Array Event}
  (hb : exitTo id k = none) : stepG P main (G (fra f ts (.code (.exit id) :: k) false) cs) w ≠ .go g' w' es := by
 intro e
 simp [G, fra, stepG, stepG.exec, Frame.at, hb, base] at e
theorem stepG_noOp {P : Program} {main : Bool} {f : FuncId} {ts : Array Value} {ops : Array Oper} {i : Nat} {rest : List Nat} {k : List Item} {cs : List Frame} {w : World} (ho : ops[i]? = none) :
  stepG P main (G (fra f ts (.inRegion ops (i :: rest) :: k) false) cs) w = .go (G (fra f ts (.inRegion ops rest :: k) false) cs) w #[] := by
 simp [G, fra, stepG, stepG.exec, Frame.at, ho, Frame.finish]
theorem IL.exit {C : Ctx} {D : Nat → Bool} {id : Nat} {k k' : List Item} (h : IL C D k k') : ∀ {k2 : List Item}, exitTo id k = some k2 → ∃ k2', exitTo id k' = some k2' ∧ IL C D k2 k2' := by
 induction h with
 | nil => intro k2 e; simp [exitTo] at e
 | @stop c k k0 _ h0 =>
  intro k2 e
  have : exitTo id k0 = some k2 := by simpa [exitTo] using e
  rw [h0] at this; cases this
 | part _ ih =>
  intro k2 e
  obtain ⟨k2', h1, h2⟩ := ih (k2 := k2) (by simpa [exitTo] using e)
  exact ⟨k2', by simpa [exitTo] using h1, h2⟩
 | @cons x k k' h0 hk ih =>
  intro k2 e
  cases x with
  | inBlock id' =>
   simp only [exitTo] at e ⊢
   split at e
   ·cases e; rename_i hid; exact ⟨k', by rw [if_pos hid], hk⟩
   ·rename_i hid
    obtain ⟨k2', h1, h2⟩ := ih e
    exact ⟨k2', by rw [if_neg hid]; exact h1, h2⟩
  | _ => obtain ⟨k2', h1, h2⟩ := ih (by simpa [exitTo] using e); exact ⟨k2', by simpa [exitTo] using h1, h2⟩
theorem stepG_refuse {P : Program} {main : Bool} {f : FuncId} {ts : Array Value} {s : String} {k : List Item} {cs : List Frame} {w : World} {g' : Goroutine} {w' : World} {es : Array Event} :
  stepG P main (G (fra f ts (.code (.refuse s) :: k) false) cs) w ≠ .go g' w' es := by
 intro e
 simp [G, fra, stepG, stepG.exec, Frame.at, base] at e
theorem stepSim (ok : CtxOk C) {X : List Frame} {bs : List Frame} {main : Bool} {f f' : Frame} {L L' : List Frame} {w v : World} (hf : FrR C r f f') (hl : LR C r X bs L L') (hw : WR C r w v) (ht : TE w v)
  {g' : Goroutine} {w' : World} {es : Array Event} (hs : stepG C.Px true (G f L) w = .go g' w' es) (hn : Nice g') (hnf : ¬ (f.mode = .returning ∧ L = X)) :
  Answers C r X bs main f' L' w v g' w' := by
 cases hf with
 | @mk f ts ts' todo todo' m hF hv hk =>
  cases m with
  | true =>
   cases hl with
   | nil => exact absurd ⟨rfl, rfl⟩ hnf
   | @cons c c' L1 L1' hc hl' =>
    obtain ⟨fn, bd, h1, h2⟩ := hF.body
    have h1' : C.P.funcs[f]? = some fn := by rw [← h1]; exact hF.same
    have sim := Sim.results fn (ok.res _ _ h1) hv w v #[] #[] hw ht (by simp)
    generalize hx : (results fn ts).runT C.Px w #[] = rx at sim
    obtain ⟨R, es0⟩ := rx
    have hrun : (results fn ts).run C.Px w = R := by rw [← Sem.runT_fst _ _ _ #[], hx]
    cases R with
    | halt h wh => exact absurd hs (stepG_leaveH (P := C.Px) h1 hrun)
    | ok x w1 =>
     obtain ⟨y, v1, fs1, r1, e1, x1, hw1, ht1, hf1, q1⟩ := sim.1 _ _ _ rfl
     have hrun1 : (results fn ts').run C.P v = .ok y v1 := by rw [← Sem.runT_fst _ _ _ #[], e1]
     rw [stepG_leaveE (P := C.Px) h1 hrun] at hs
     cases hs
     refine ⟨_, v1, _, r1, stepG_leaveE h1' hrun1, x1, hw1, ht1, fun f1 hf1' => hf1 f1 ?_, .go ((hc.mono x1.le).finish q1) (hl'.mono x1.le)⟩
     have := mem_seen hf1'
     rw [Sem.events, e1] at this
     exact this
  | false =>
   cases hk with
   | nil =>
    rw [fra_run, stepG_end] at hs
    cases hs
    exact Answers.still hw ht (by rw [fra_run, stepG_end] <;> rfl) (.mk true hF hv .nil) hl
   | stop h h0 => exact absurd hs stepG_refuse
   | part hk =>
    rw [fra_run, stepG_seq] at hs; cases hs
    exact Answers.still hw ht (by rw [fra_run, stepG_seq] <;> rfl) (.mk false hF hv hk) hl
   | @cons x k k' hk0 hk1 =>
    have push : ∀ {y : Item}, okI C.tb C.F (C.D f) y = true → IL C (C.D f) (y :: k) (y :: k') := fun h => .cons h hk1
    cases x with
    | code c =>
     cases c with
     | skip =>
      rw [fra_run, stepG_skip] at hs; cases hs
      exact Answers.still hw ht (by rw [fra_run, stepG_skip] <;> rfl) (.mk false hF hv hk1) hl
     | ret =>
      rw [fra_run, stepG_ret'] at hs; cases hs
      exact Answers.still hw ht (by rw [fra_run, stepG_ret'] <;> rfl) (.mk true hF hv (push rfl)) hl
     | seq a b =>
      rw [fra_run, stepG_seq] at hs; cases hs
      simp only [okI, okC, Bool.and_eq_true] at hk0
      exact Answers.still hw ht (by rw [fra_run, stepG_seq] <;> rfl) (.mk false hF hv (.cons hk0.1 (.cons hk0.2 hk1))) hl
     | block id b =>
      rw [fra_run, stepG_block] at hs; cases hs
      exact Answers.still hw ht (by rw [fra_run, stepG_block] <;> rfl) (.mk false hF hv (.cons hk0 (.cons rfl hk1))) hl
     | loop b =>
      rw [fra_run, stepG_loop] at hs; cases hs
      exact Answers.still hw ht (by rw [fra_run, stepG_loop] <;> rfl) (.mk false hF hv (.cons hk0 (.cons hk0 hk1))) hl
     | exit id =>
      cases he : exitTo id k with
      | none => exact absurd hs (stepG_exit_bad he)
      | some k2 =>
       rw [fra_run, stepG_exit he] at hs; cases hs
       obtain ⟨k2', he', hk2⟩ := hk1.exit he
       exact Answers.still hw ht (by rw [fra_run, stepG_exit he'] <;> rfl) (.mk false hF hv hk2) hl
     | cond c a b =>
      simp only [okI, okC, Bool.and_eq_true] at hk0
      have hc : VR C r ((Act.mk ts []).eval c) ((Act.mk ts' []).eval c) := by
       cases c with
       | tmp t => exact hv.getD hk0.1.1 vr_undef
       | const u => exact vr_flat hk0.1.1
       | global g => cases hk0.1.1
       | func g => exact .func hk0.1.1 rfl (fun i x y h => by simp at h) rfl (fun i x y h => by simp at h)
      by_cases hb : ∃ t, (Act.mk ts []).eval c = .bool t
      ·obtain ⟨t, hb⟩ := hb
       rw [hb] at hc
       have hb' : (Act.mk ts' []).eval c = .bool t := by generalize (Act.mk ts' []).eval c = u at hc; cases hc; rfl
       rw [fra_run, stepG_cond hb] at hs; cases hs
       refine Answers.still hw ht (by rw [fra_run, stepG_cond hb'] <;> rfl) (.mk false hF hv (push ?_)) hl
       cases t
       ·exact hk0.2
       ·exact hk0.1.2
      ·exact absurd hs (stepG_cond_bad fun t e => hb ⟨t, e⟩)
     | region id ops draw =>
      cases draw with
      | false =>
       rw [fra_run, stepG_region] at hs; cases hs
       exact Answers.still hw ht (by rw [fra_run, stepG_region] <;> rfl) (.mk false hF hv (push hk0)) hl
      | true =>
       rw [fra_run, stepG_region_draw] at hs; cases hs
       have e0 := ht 0 (.order f id)
       simp only [Nat.add_zero] at e0
       have hst : stepG C.P main (G (fra f ts' (.code (.region id ops true) :: k') false) L') v = .go (G ((base f).at ⟨ts', []⟩ (.inRegion ops (Region.schedule (C.P.follows .mixedOrders) ops (v.tape v.drawn (.order f id))) :: k')) L') { v with drawn := v.drawn + 1 } #[] := by
        rw [fra_run, stepG_region_draw]; rfl
       refine ⟨G ((base f).at ⟨ts', []⟩ (.inRegion ops (Region.schedule (C.P.follows .mixedOrders) ops (v.tape v.drawn (.order f id))) :: k')) L', { v with drawn := v.drawn + 1 }, #[], r, hst, ⟨Sub.refl _, fun _ _ h => .inl h, fun i h => absurd h (by simp), Nat.add_comm _ _, Nat.le_refl _, ⟨1, rfl, rfl⟩, fun _ _ _ => rfl, fun _ _ _ _ => rfl, rfl, rfl, rfl, rfl, rfl, rfl⟩,
        ⟨hw.lt, hw.fn, hw.inj, hw.obj, hw.win, hw.winG, hw.glob, hw.big, hw.shz, hw.roLt, hw.noInfo⟩, ht.drew, by simp, ?_⟩
       have e1 : C.P.follows .mixedOrders = C.Px.follows .mixedOrders := rfl
       rw [show w.tape w.drawn (.order (base f).fn id) = v.tape v.drawn (.order f id) from e0, e1]
       exact .go (.mk false hF hv (push hk0)) hl
     | _ => cases hk0
    | inBlock id =>
     rw [fra_run, stepG_inBlock] at hs; cases hs
     exact Answers.still hw ht (by rw [fra_run, stepG_inBlock] <;> rfl) (.mk false hF hv hk1) hl
    | inLoop b =>
     rw [fra_run, stepG_inLoop] at hs; cases hs
     exact Answers.still hw ht (by rw [fra_run, stepG_inLoop] <;> rfl) (.mk false hF hv (.cons hk0 (.cons hk0 hk1))) hl
    | inRegion ops is =>
     cases is with
     | nil =>
      rw [fra_run, stepG_region_end] at hs; cases hs
      exact Answers.still hw ht (by rw [fra_run, stepG_region_end] <;> rfl) (.mk false hF hv hk1) hl
     | cons i rest =>
      cases ho : ops[i]? with
      | none =>
       rw [stepG_noOp ho] at hs; cases hs
       exact Answers.still hw ht (stepG_noOp ho) (.mk false hF hv (push hk0)) hl
      | some o =>
       have hy := yielded_rel hv ops (by simp only [okI, Bool.and_eq_true] at hk0; exact hk0.2)
       cases hwn : Region.wanted o (yielded ops ts) with
       | true => exact opSim ok hF hv hk0 hk1 hl hw ht ho hwn (by rw [← hy]; exact hwn) hs hn
       | false =>
        have hwn' : Region.wanted o (yielded ops ts') = false := by rw [← hy]; exact hwn
        have fin : ∀ (k : List Item) (ts : Array Value), (fra f ts (.inRegion ops (i :: rest) :: k) false).finish undef = (base f).at ((Act.mk ts []).put o.dst undef) (.inRegion ops rest :: k) := fun k ts => by
         rw [fra_run, Frame.finish_at, ho]; rfl
        rw [fra_run, stepG_unwanted ho hwn, ← fin] at hs; cases hs
        refine Answers.still hw ht (f1' := (fra f ts' (.inRegion ops (i :: rest) :: k') false).finish undef) ?_ ((FrR.mk false hF hv (push hk0)).finish vr_undef) hl
        rw [fin, fra_run, stepG_unwanted ho hwn']
    | _ => cases hk0
end
end Rn
end Go.Proofs.YtbpnbhemdbgmjaaGreat
