/-
  Texts that the law stands on, part 4.
-/
import Derived.Test.YtbpnbhemdbgmjaaGreatM3
section
namespace Go.Proofs.YtbpnbhemdbgmjaaGreat.Rn
set_option linter.unusedVariables false
set_option linter.unusedSimpArgs false
section
variable {C : Ctx} {r r' : Ren}
def ELs (C : Ctx) (r : Ren) : List MapEntry → List MapEntry → Prop
  | [], [] => True
  | a :: xs, b :: ys => ER C r a b ∧ ELs C r xs ys
  | _, _ => False
theorem ELs.of_get : ∀ {xs ys : List MapEntry}, xs.length = ys.length → (∀ (i : Nat) x y, xs[i]? = some x → ys[i]? = some y → ER C r x y) → ELs C r xs ys
  | [], [], _, _ => trivial
  | [], _ :: _, h, _ => by simp at h
  | _ :: _, [], h, _ => by simp at h
  | x :: xs, y :: ys, h, k => ⟨k 0 x y rfl rfl, ELs.of_get (by simpa using h) fun i a b ha hb => k (i + 1) a b (by simpa using ha) (by simpa using hb)⟩
theorem ELs.mono (h : Sub r r') : ∀ {xs ys : List MapEntry}, ELs C r xs ys → ELs C r' xs ys
  | [], [], _ => trivial
  | a :: xs, b :: ys, k => ⟨ER.mono h k.1, ELs.mono h k.2⟩
  | [], _ :: _, k => k.elim
  | _ :: _, [], k => k.elim
theorem EAll.toList {es es' : Array MapEntry} (h : EAll C r es es') : ELs C r es.toList es'.toList := ELs.of_get (by simpa using h.size) fun i x y hx hy => h.get i x y (by simpa using hx) (by simpa using hy)
theorem EAll.get? {xs ys : Array MapEntry} (h : EAll C r xs ys) {i : Nat} {x : MapEntry} (hx : xs[i]? = some x) : ∃ y, ys[i]? = some y ∧ ER C r x y := by
  have hi := (Array.getElem?_eq_some_iff.1 hx).1
  have hj : i < ys.size := h.size ▸ hi
  exact ⟨ys[i], Array.getElem?_eq_getElem hj, h.get i _ _ hx (Array.getElem?_eq_getElem hj)⟩
theorem EAll.push {xs ys : Array MapEntry} (h : EAll C r xs ys) {v w : MapEntry} (hv : ER C r v w) : EAll C r (xs.push v) (ys.push w) := by
  refine ⟨by simp [h.size], fun i x y hx hy => ?_⟩
  rw [Array.getElem?_push] at hx hy
  rw [h.size] at hx
  split at hx
  · simp_all
  · rename_i hne
    rw [if_neg hne] at hy
    exact h.get i x y hx hy
theorem EAll.modify {xs ys : Array MapEntry} (h : EAll C r xs ys) (i : Nat) {f g : MapEntry → MapEntry} (hv : ∀ x y, ER C r x y → ER C r (f x) (g y)) : EAll C r (xs.modify i f) (ys.modify i g) := by
  refine ⟨by simp [h.size], fun j x y hx hy => ?_⟩
  rw [Array.getElem?_modify] at hx hy
  split at hx
  · rename_i e
    rw [if_pos e] at hy
    cases h1 : xs[j]? with
    | none => rw [h1] at hx; cases hx
    | some u =>
      obtain ⟨z, hz, huz⟩ := h.get? h1
      rw [h1] at hx; rw [hz] at hy
      cases hx; cases hy
      exact hv _ _ huz
  · rename_i e
    rw [if_neg e] at hy
    exact h.get j x y hx hy
theorem EAll.erase {xs ys : Array MapEntry} (h : EAll C r xs ys) (i : Nat) : EAll C r (xs.eraseIdxIfInBounds i) (ys.eraseIdxIfInBounds i) := by
  unfold Array.eraseIdxIfInBounds
  by_cases hi : i < xs.size
  · have hj : i < ys.size := h.size ▸ hi
    rw [dif_pos hi, dif_pos hj]
    refine ⟨by simp [h.size], fun j x y hx hy => ?_⟩
    rw [Array.getElem?_eraseIdx] at hx hy
    split at hx
    · rename_i hj; rw [if_pos hj] at hy; exact h.get j x y hx hy
    · rename_i hj; rw [if_neg hj] at hy; exact h.get _ x y hx hy
  · have hj : ¬ i < ys.size := fun hj => hi (h.size ▸ hj)
    rw [dif_neg hi, dif_neg hj]
    exact h
def keyInt (tb : Tables) (t : TypeId) : Bool := match (⟨tb, #[]⟩ : Program).underlying t with
  | some (.map k e) => ((match (⟨tb, #[]⟩ : Program).underlying k with | some (.int _) => true | _ => false) && eqOk tb 1 k) && zeroOk tb e
  | _ => false
theorem keyInt_out {t k e : TypeId} (h : keyInt C.tb t = true) (hd : C.P.underlying t = some (.map k e)) : (∃ ik, C.P.underlying k = some (.int ik)) ∧ zeroOk C.tb e = true ∧ eqOk C.tb 1 k = true := by
  have hd' : (⟨C.tb, #[]⟩ : Program).underlying t = some (.map k e) := hd
  simp only [keyInt, hd', Bool.and_eq_true] at h
  obtain ⟨⟨h1, h3⟩, h2⟩ := h
  have : ∃ ik, (⟨C.tb, #[]⟩ : Program).underlying k = some (.int ik) := by
    revert h1
    cases (⟨C.tb, #[]⟩ : Program).underlying k with
    | none => intro h; cases h
    | some d => cases d <;> intro h <;> first | exact ⟨_, rfl⟩ | cases h
  obtain ⟨ik, hk⟩ := this
  exact ⟨⟨ik, hk⟩, h2, h3⟩
def KF (C : Ctx) (x y : Value) : Prop := ∀ a b, x = .pointer (some a) → y = .pointer (some b) → ¬ (C.RO a.block ∧ C.RO b.block)
theorem Sim.equalKey {kt : TypeId} {ik : IntKind} (hk : C.P.underlying kt = some (.int ik)) (ok : eqOk C.tb 1 kt = true) {x x' y y' : Value} (h : VR C r x x') (k : VR C r y y') :
    Sim C r (fun _ a b => a = b ∧ (a = true → KF C x y ∧ ∀ c, y ≠ .agg c)) (Op.equal kt x y) (Op.equal kt x' y') := by
  by_cases hp : ∃ a b, x = .pointer (some a) ∧ y = .pointer (some b)
  · obtain ⟨a, b, rfl, rfl⟩ := hp
    cases h with
    | @ptr _ a' ab =>
      cases k with
      | @ptr _ b' cd =>
        have okc : ∀ i, (⟨C.tb, #[]⟩ : Program).info? kt = some i → isCC i.desc = false := by
          intro i hi
          have hk' : (⟨C.tb, #[]⟩ : Program).underlying kt = some (.int ik) := hk
          simpa only [eqOk, hk', hi, Bool.not_eq_true'] using ok
        show Sim C r _ (Op.equalIn (9999 + 1) kt _ _) (Op.equalIn (9999 + 1) kt _ _)
        unfold Op.equalIn
        refine Sim.bind (Sim.under kt) ?_
        rintro r1 d _ h1 ⟨rfl, hd⟩
        rw [hk] at hd
        cases hd
        refine (Sim.intPtr okc (ab.mono h1) (cd.mono h1)).mono fun r' u v _ h => ⟨h.1, fun _ => ⟨fun a b ea eb => ?_, fun c e => by cases e⟩⟩
        cases ea; cases eb
        exact h.2
  · by_cases hy : ∃ c, y = .agg c
    · obtain ⟨c, rfl⟩ := hy
      cases k with
      | agg e1 g1 =>
        show Sim C r _ (Op.equalIn (9999 + 1) kt _ _) (Op.equalIn (9999 + 1) kt _ _)
        unfold Op.equalIn
        refine Sim.bind (Sim.under kt) ?_
        rintro r1 d _ h1 ⟨rfl, hd⟩
        rw [hk] at hd
        cases hd
        cases h <;> exact Sim.halt
    · exact (Sim.equal ok h k).mono fun r' u v _ e => ⟨e, fun _ => ⟨fun a b ea eb => absurd ⟨a, b, ea, eb⟩ hp, fun c e => hy ⟨c, e⟩⟩⟩
theorem Sim.checkKey (b b' : Bool) (n : Nat) {k : TypeId} {ik : IntKind} (hk : C.P.underlying k = some (.int ik)) {x y : Value} (h : VR C r x y) : Sim C r (fun _ _ _ => True) (Instr.checkKey b (n + 1) k x) (Instr.checkKey b' (n + 1) k y) := by
  unfold Instr.checkKey
  refine Sim.bind (Sim.under k) ?_
  rintro r1 d _ h1 ⟨rfl, hd⟩
  rw [hk] at hd
  cases hd
  cases h <;> exact Sim.pure trivial
def FR (C : Ctx) (k : Value) (es : List MapEntry) (r : Ren) : Option (Nat × Value) → Option (Nat × Value) → Prop
  | none, none => True
  | some (i, x), some (j, y) => i = j ∧ VR C r x y ∧ ∃ e, es[i]? = some e ∧ KF C k e.key ∧ ∀ c, e.key ≠ .agg c
  | _, _ => False
theorem sameNow_rel {x x' y y' : Value} (d : TypeDesc) (h : VR C r x x') (k : VR C r y y') : Instr.sameNow d x y = Instr.sameNow d x' y' := by
  cases d <;> cases h <;> cases k <;> rfl
theorem sameNow_kf {d : TypeDesc} {x y : Value} {b : Bool} (h : Instr.sameNow d x y = some b) : KF C x y ∧ ∀ c, y ≠ .agg c := by
  refine ⟨fun a b ea eb => ?_, fun c e => ?_⟩
  · subst ea
    cases d <;> simp [Instr.sameNow] at h
  · subst e
    cases d <;> cases x <;> simp [Instr.sameNow] at h
theorem findNow_rel (d : TypeDesc) {k k' : Value} (hk : VR C r k k') (all : List MapEntry) : ∀ {es es' : List MapEntry} (i : Nat), (∀ j, es[j]? = all[i + j]?) → ELs C r es es' →
    (∃ a b, Instr.findNow d k es i = some a ∧ Instr.findNow d k' es' i = some b ∧ FR C k all r a b) ∨ (Instr.findNow d k es i = none ∧ Instr.findNow d k' es' i = none)
  | [], [], i, _, _ => .inl ⟨none, none, rfl, rfl, trivial⟩
  | e :: es, e' :: es', i, ha, ⟨h1, h2⟩ => by
    have e0 : all[i]? = some e := by have := ha 0; simpa using this.symm
    have hs := sameNow_rel d hk h1.key
    unfold Instr.findNow
    rw [← hs]
    cases hb : Instr.sameNow d k e.key with
    | none => exact .inr ⟨rfl, rfl⟩
    | some b => cases b with
      | true => exact .inl ⟨_, _, rfl, rfl, rfl, h1.val, e, e0, (sameNow_kf (C := C) hb).1, (sameNow_kf (C := C) hb).2⟩
      | false => exact findNow_rel d hk all (i + 1) (fun j => by have := ha (j + 1); simp only [List.getElem?_cons_succ] at this; rw [this]; congr 1; omega) h2
  | [], _ :: _, i, _, h => h.elim
  | _ :: _, [], i, _, h => h.elim
theorem Sim.findAsking {kt : TypeId} {ik : IntKind} (hik : C.P.underlying kt = some (.int ik)) (ok : eqOk C.tb 1 kt = true) (all : List MapEntry) : ∀ {es es' : List MapEntry} {r : Ren} {k k' : Value} (i : Nat), (∀ j, es[j]? = all[i + j]?) → VR C r k k' → ELs C r es es' → Sim C r (FR C k all) (Instr.findAsking kt k es i) (Instr.findAsking kt k' es' i)
  | [], [], r, k, k', i, _, hk, _ => Sim.pure trivial
  | e :: es, e' :: es', r, k, k', i, ha, hk, ⟨h1, h2⟩ => by
    have e0 : all[i]? = some e := by have := ha 0; simpa using this.symm
    unfold Instr.findAsking
    refine Sim.bind (Sim.equalKey hik ok hk h1.key) ?_
    rintro r1 b _ hr ⟨rfl, hkf⟩
    cases b with
    | true => exact Sim.pure ⟨rfl, h1.val.mono hr, e, e0, (hkf rfl).1, (hkf rfl).2⟩
    | false => exact Sim.findAsking hik ok all (i + 1) (fun j => by have := ha (j + 1); simp only [List.getElem?_cons_succ] at this; rw [this]; congr 1; omega) (hk.mono hr) (ELs.mono hr h2)
  | [], _ :: _, r, k, k', i, _, hk, h => h.elim
  | _ :: _, [], r, k, k', i, _, hk, h => h.elim
theorem Sim.findKey {kt : TypeId} {ik : IntKind} (hik : C.P.underlying kt = some (.int ik)) (ok : eqOk C.tb 1 kt = true) {es es' : List MapEntry} {k k' : Value} (hk : VR C r k k') (he : ∀ r', Sub r r' → ELs C r' es es') : Sim C r (FR C k es) (Instr.findKey kt k es) (Instr.findKey kt k' es') := by
  unfold Instr.findKey
  refine Sim.bind (Sim.under kt) ?_
  rintro r1 d _ hr ⟨rfl, _⟩
  rcases findNow_rel d (hk.mono hr) es 0 (fun j => by simp) (he r1 hr) with ⟨a, b, e1, e2, h⟩ | ⟨e1, e2⟩
  · rw [e1, e2]; exact Sim.pure h
  · rw [e1, e2]; exact Sim.findAsking hik ok es 0 (fun j => by simp) (hk.mono hr) (he r1 hr)
theorem Sim.getMap {a b : Nat} (ab : r a b) {α β : Type} {Q : Ren → α → β → Prop} {s : Sem α} {s' : Sem β} {k : Array MapEntry → Nat → Sem α} {l : Array MapEntry → Nat → Sem β}
    (hs : Never C.Px s) (hk : ∀ r' es es' c, Sub r r' → EAll C r' es es' → Sim C r' Q (k es c) (l es' c)) :
    Sim C r Q (Go.getObj a >>= fun o => match o with | .map es c => k es c | _ => s) (Go.getObj b >>= fun o => match o with | .map es c => l es c | _ => s') := by
  refine Sim.bind (Sim.getObj ab) ?_
  rintro r1 o o' h1 ⟨ho, _⟩
  cases ho with
  | map m => exact hk r1 _ _ _ h1 m
  | _ => exact Sim.never hs
theorem Sim.lookup {t : TypeId} (ok : keyInt C.tb t = true) {x x' y y' : Value} (h : VR C r x x') (k : VR C r y y') (b : Bool) : Sim C r (VR C) (Instr.lookup t x y b) (Instr.lookup t x' y' b) := by
  unfold Instr.lookup
  refine Sim.bind (Sim.under t) ?_
  rintro r1 d _ h1 ⟨rfl, hd⟩
  cases d with
  | map kt et =>
    obtain ⟨⟨ik, hik⟩, hz, heq⟩ := keyInt_out ok hd
    replace h := h.mono h1
    replace k := k.mono h1
    have rest : ∀ (r2 : Ren) (es es' : Array MapEntry), Sub r1 r2 → EAll C r2 es es' → Sim C r2 (VR C)
        (Instr.checkKey es.isEmpty 10000 kt y >>= fun _ => Instr.findKey kt y es.toList >>= fun f => match f with
          | some (_, v) => Pure.pure (if b then .tuple #[v, .bool true] else v)
          | none => zeroValue et >>= fun z => Pure.pure (if b then .tuple #[z, .bool false] else z))
        (Instr.checkKey es'.isEmpty 10000 kt y' >>= fun _ => Instr.findKey kt y' es'.toList >>= fun f => match f with
          | some (_, v) => Pure.pure (if b then .tuple #[v, .bool true] else v)
          | none => zeroValue et >>= fun z => Pure.pure (if b then .tuple #[z, .bool false] else z)) := by
      intro r2 es es' h2 he
      have ret : ∀ (r : Ren) (u v : Value) (c : Bool), VR C r u v → VR C r (if b then .tuple #[u, .bool c] else u) (if b then .tuple #[v, .bool c] else v) := by
        intro r u v c huv
        split
        · have := ((VAll.nil (C := C) (r := r)).push huv).push (VR.bool c)
          exact VR.tupleA (by simpa using this)
        · exact huv
      refine Sim.bind (Sim.checkKey _ _ 9999 hik (k.mono h2)) ?_
      intro r3 _ _ h3 _
      refine Sim.bind (Sim.findKey hik heq ((k.mono h2).mono h3) fun r' hr => ((he.mono h3).mono hr).toList) ?_
      intro r4 f g h4 hfg
      match f, g, hfg with
      | none, none, _ =>
        refine Sim.bind (Sim.zero hz) ?_
        rintro r5 z _ h5 ⟨rfl, hf⟩
        exact Sim.pure (ret _ _ _ _ (vr_flat hf))
      | some (i, u), some (j, v), ⟨_, huv, _⟩ => exact Sim.pure (ret _ _ _ _ huv)
    cases h with
    | map0 => exact rest r1 #[] #[] (Sub.refl _) ⟨rfl, fun i e e' he => by simp at he⟩
    | map ab => exact Sim.getMap (k := fun es _ => _) (l := fun es _ => _) ab (Never.bind_left Never.halt) fun r2 es es' c h2 he => rest r2 es es' h2 he
    | _ => exact Sim.never (Never.bind_left Never.halt)
  | _ => exact Sim.halt
theorem sameBits_rel (hw : ∃ w v, WR C r w v) (n : Nat) {x x' y y' : Value} (h : VR C r x x') (k : VR C r y y') (hkf : KF C y x) (hf : ∀ c, x ≠ .agg c) : Instr.sameBits n x y = Instr.sameBits n x' y' := by
  cases h with
  | @ptr a a' ab =>
    cases k with
    | @ptr b b' cd =>
      have := addr_iff hw ab cd (fun h => hkf b a rfl rfl ⟨h.2, h.1⟩)
      cases n <;> simp only [Instr.sameBits] <;> (rw [Bool.eq_iff_iff] at this ⊢; simp only [beq_iff_eq, Option.some.injEq] at this ⊢; exact this.symm)
    | ptr0 => cases n <;> simp [Instr.sameBits]
    | _ => cases n <;> rfl
  | ptr0 =>
    cases k with
    | ptr cd => cases n <;> simp [Instr.sameBits]
    | _ => cases n <;> rfl
  | agg e1 g1 => exact absurd rfl (hf _)
  | _ => cases k <;> cases n <;> rfl
theorem Sim.keyStays {kt : TypeId} {x x' y y' : Value} (h : VR C r x x') (k : VR C r y y') (e : Instr.sameBits 10000 x y = Instr.sameBits 10000 x' y') : Sim C r (VR C) (Instr.keyThatStays x y) (Instr.keyThatStays x' y') := by
  unfold Instr.keyThatStays
  rw [e]
  split
  · exact Sim.pure k
  · refine Sim.bind (Sim.choose _) ?_
    rintro r1 c _ h1 rfl
    split
    · exact Sim.pure (k.mono h1)
    · exact Sim.pure (h.mono h1)
theorem Sim.mapUpdate {t : TypeId} (ok : keyInt C.tb t = true) {m m' x x' y y' : Value} (hm : VR C r m m') (h : VR C r x x') (k : VR C r y y') : Sim C r (fun _ _ _ => True) (Instr.mapUpdate t m x y) (Instr.mapUpdate t m' x' y') := by
  unfold Instr.mapUpdate
  refine Sim.bind (Sim.under t) ?_
  rintro r1 d _ h1 ⟨rfl, hd⟩
  cases d with
  | map kt et =>
    obtain ⟨⟨ik, hik⟩, hz, heq⟩ := keyInt_out ok hd
    replace hm := hm.mono h1
    replace h := h.mono h1
    replace k := k.mono h1
    cases hm with
    | map0 => exact Sim.never (never_rtp _ _)
    | @map a b ab =>
      refine Sim.getMap ab Never.halt fun r2 es es' c h2 he => ?_
      refine Sim.bind (Sim.checkKey _ _ 9999 hik (h.mono h2)) ?_
      intro r3 _ _ h3 _
      refine Sim.bind (Sim.findKey hik heq ((h.mono h2).mono h3) fun r' hr => ((he.mono h3).mono hr).toList) ?_
      intro r4 f g h4 hfg
      have he4 := (he.mono h3).mono h4
      have hx4 := ((h.mono h2).mono h3).mono h4
      have hy4 := ((k.mono h2).mono h3).mono h4
      have ab4 := h4 _ _ (h3 _ _ (h2 _ _ ab))
      match f, g, hfg with
      | none, none, _ => exact Sim.setMap ab4 _ (he4.push ⟨hx4, hy4, rfl⟩)
      | some (i, u), some (j, v), ⟨e, huv, hkf⟩ =>
        subst e
        obtain ⟨z, hz, hkf, hag⟩ := hkf
        have hz1 : es[i]? = some z := by simpa using hz
        obtain ⟨z', hz', hzz⟩ := he4.get? hz1
        have hold : VR C r4 (((es[i]?).map (·.key)).getD x) (((es'[i]?).map (·.key)).getD x') := by rw [hz1, hz']; exact hzz.key
        have eo : ((es[i]?).map (·.key)).getD x = z.key := by rw [hz1]; rfl
        refine Sim.given fun hw => ?_
        refine Sim.bind (Sim.keyStays (kt := kt) hold hx4 (sameBits_rel hw _ hold hx4 (by rw [eo]; exact hkf) (by rw [eo]; exact hag))) ?_
        intro r5 p q h5 hpq
        exact Sim.setMap (h5 _ _ ab4) _ ((he4.mono h5).modify _ fun a b hab => ⟨hpq, hy4.mono h5, hab.born⟩)
    | _ => exact Sim.halt
  | _ => exact Sim.halt
theorem Sim.delete {ts : Array TypeId} (ok : (match ts[0]? with | some t => keyInt C.tb t | none => false) = true) (t : TypeId) {xs ys : Array Value} (h : VAll C r xs ys) : Sim C r (VR C) (Builtin.delete_ ts t xs) (Builtin.delete_ ts t ys) := by
  unfold Builtin.delete_
  cases h0 : ts[0]? with
  | none => rw [h0] at ok; cases ok
  | some t0 =>
    rw [h0] at ok
    cases hx : xs[0]? with
    | none => exact Sim.halt
    | some m =>
      obtain ⟨m', hy, hm⟩ := h.get? hx
      cases hx1 : xs[1]? with
      | none => exact Sim.halt
      | some x =>
        obtain ⟨x', hy1, hxx⟩ := h.get? hx1
        simp only [hy, hy1]
        refine Sim.bind (Sim.under t0) ?_
        rintro r1 d _ h1 ⟨rfl, hd⟩
        replace hm := hm.mono h1
        replace hxx := hxx.mono h1
        cases d with
        | map kt et =>
          obtain ⟨⟨ik, hik⟩, hz, heq⟩ := keyInt_out ok hd
          cases hm with
          | map0 =>
            refine Sim.bind (Sim.checkKey _ _ 9999 hik hxx) ?_
            intro r2 _ _ h2 _
            exact Sim.pure (VR.tupleA VAll.nil)
          | @map a b ab =>
            refine Sim.getMap ab (Never.bind_left Never.halt) fun r2 es es' c h2 he => ?_
            refine Sim.bind (Sim.checkKey _ _ 9999 hik (hxx.mono h2)) ?_
            intro r3 _ _ h3 _
            refine Sim.bind (Sim.findKey hik heq ((hxx.mono h2).mono h3) fun r' hr => ((he.mono h3).mono hr).toList) ?_
            intro r4 f g h4 hfg
            have he4 := (he.mono h3).mono h4
            have ab4 := h4 _ _ (h3 _ _ (h2 _ _ ab))
            match f, g, hfg with
            | none, none, _ =>
              refine Sim.bind (Sim.setMap ab4 _ he4) ?_
              intro r5 _ _ h5 _
              exact Sim.pure (VR.tupleA VAll.nil)
            | some (i, u), some (j, v), ⟨e, huv, hkf⟩ =>
              subst e
              refine Sim.bind (Sim.setMap ab4 _ (he4.erase i)) ?_
              intro r5 _ _ h5 _
              exact Sim.pure (VR.tupleA VAll.nil)
          | _ => exact Sim.never (Never.bind_left Never.halt)
        | _ => exact Sim.halt
theorem Sim.clear {ts : Array TypeId} (ok : (match ts[0]? with | some t => sliceOk C.tb t | none => false) = true) (t : TypeId) {xs ys : Array Value} (h : VAll C r xs ys) : Sim C r (VR C) (Builtin.clear_ ts t xs) (Builtin.clear_ ts t ys) := by
  unfold Builtin.clear_
  cases h0 : ts[0]? with
  | none => rw [h0] at ok; cases ok
  | some t0 =>
    rw [h0] at ok
    cases hx : xs[0]? with
    | none => exact Sim.halt
    | some m =>
      obtain ⟨m', hy, hm⟩ := h.get? hx
      simp only [hy]
      refine Sim.bind (Sim.under t0) ?_
      rintro r1 d _ h1 ⟨rfl, hd⟩
      replace hm := hm.mono h1
      have ret : Sim C r1 (VR C) (Pure.pure (.tuple #[])) (Pure.pure (.tuple #[])) := Sim.pure (VR.tupleA VAll.nil)
      cases hm with
      | map0 => cases d <;> exact ret
      | @map a b ab =>
        cases d
        all_goals
          refine Sim.getMap ab (Never.bind_left Never.halt) fun r2 es es' c h2 he => ?_
          refine Sim.bind (Sim.setMap (h2 _ _ ab) _ ⟨rfl, fun i e e' he => by simp at he⟩) ?_
          intro r3 _ _ h3 _
          exact Sim.pure (VR.tupleA VAll.nil)
      | sl0 n c => cases d <;> exact ret
      | @sl a b n c ab =>
        cases n with
        | zero => cases d <;> exact ret
        | succ n =>
          cases d with
          | slice elem =>
            have hz : zeroOk C.tb elem = true := by
              have hd' : (⟨C.tb, #[]⟩ : Program).underlying t0 = some (.slice elem) := hd
              simpa [sliceOk, hd'] using ok
            refine Sim.bind (Sim.zero hz) ?_
            rintro r2 z _ h2 ⟨rfl, hf⟩
            have hzc : VAll C r2 z.cells z.cells := VAll.flat (flat_cells hf)
            refine Sim.bind (Sim.storeCells 0 (ab.mono h2) (zeroCells_rel hzc _).toList) ?_
            intro r3 _ _ h3 _
            exact Sim.pure (VR.tupleA VAll.nil)
          | _ => exact Sim.never (Never.bind_left Never.halt)
      | _ => cases d <;> exact Sim.never (Never.bind_left Never.halt)
end
end Go.Proofs.YtbpnbhemdbgmjaaGreat.Rn
end
section
namespace Go.Proofs.YtbpnbhemdbgmjaaGreat.Rn
set_option linter.unusedVariables false
set_option linter.unusedSimpArgs false
def okX (F D : Nat → Bool) : Operand → Bool
  | .tmp t => D t
  | .const v => flatV v
  | .global _ => false
  | .func f => F f
def specAt (f : Nat) : Nat := 1000000000 + f
def okCallee (F D : Nat → Bool) (n : Nat) : Operand → Bool
  | .func f => F f || (!D (specAt f) && n == 1)
  | x => okX F D x
def okOp (tb : Tables) (F D : Nat → Bool) (o : Oper) : Bool :=
  match o.op with
  | .move x | .assign x | .box _ x | .load _ x | .nilCheck x | .unOp _ _ x | .extract x _ => okX F D x
  | .fieldAddr s x f => okX F D x && fieldOk tb s f
  | .store _ a b | .indexAddr _ a b => okX F D a && okX F D b
  | .pick a b c => okX F D a && okX F D b && okX F D c
  | .slice _ x l h m => okX F D x && l.all (okX F D) && h.all (okX F D) && m.all (okX F D)
  | .alloc t => zeroOk tb t
  | .build t ps => zeroOk tb t && ps.toList.all fun p => okX F D p.2
  | .buildSlice t _ ps => sliceOk tb t && ps.toList.all fun p => okX F D p.2
  | .binOp op t a b _ => okX F D a && okX F D b && (!isEq op || (eqOk tb 5 t && guardOk tb t))
  | .convert s t x => okX F D x && toIntOk tb s && toIntOk tb t
  | .makeSlice t a b => sliceOk tb t && okX F D a && okX F D b
  | .makeFunc (.func f) a b => F f && a.toList.all (okX F D) && b.toList.all (okX F D)
  | .makeMap _ none => true
  | .mapUpdate t a b c => keyInt tb t && okX F D a && okX F D b && okX F D c
  | .lookup t a b _ => keyInt tb t && okX F D a && okX F D b
  | .call c => c.args.toList.all (okX F D) && match c.callee with
    | .value f => okCallee F D c.args.size f
    | .builtin .append => appendOk tb c.argTypes
    | .builtin .len | .builtin .max => true
    | .builtin .delete => (match c.argTypes[0]? with | some t => keyInt tb t | none => false)
    | .builtin .clear => (match c.argTypes[0]? with | some t => sliceOk tb t | none => false)
    | _ => false
  | _ => false
def resD (fn : Func) (D : Nat → Bool) : Bool := fn.results.toList.all fun x => match x with
  | .tmp t => D t
  | .cell a _ => D a
theorem resD_all (fn : Func) : resD fn (fun _ => true) = true := by
  unfold resD
  rw [List.all_eq_true]
  intro x _
  cases x <;> rfl
structure CtxOk (C : Ctx) : Prop where
  lone : ∀ f, C.F f = true → ∃ fn, C.fx[f]? = some fn ∧ (fn.name == "runtime.NumGoroutine") = false ∧ fn.body.isNone = false
  real : ∀ f, C.F f = true → ∃ fn, C.fs[f]? = some fn ∧ (fn.name == "runtime.NumGoroutine") = false ∧ fn.body.isNone = false
  res : ∀ f fn, C.fx[f]? = some fn → resD fn (C.D f) = true
  lone1 : ∀ k f, C.D k (specAt f) = false → ∃ fn, C.fx[f]? = some fn ∧ (fn.name == "runtime.NumGoroutine") = false ∧ fn.body.isNone = false
  real1 : ∀ k f, C.D k (specAt f) = false → ∃ fn, C.fs[f]? = some fn ∧ (fn.name == "runtime.NumGoroutine") = false ∧ fn.body.isNone = false
def Entered (C : Ctx) (f n : Nat) : Prop := C.F f = true ∨ ((∃ k, C.D k (specAt f) = false) ∧ n = 1)
def NextR (C : Ctx) (r : Ren) : Next → Next → Prop
  | .value v, .value w => VR C r v w
  | .skip, .skip => True
  | .enter f xs, .enter g ys => f = g ∧ Entered C f xs.size ∧ VAll C r xs ys
  | _, _ => False
section
variable {C : Ctx} {r r' : Ren}
theorem Sim.toV {x y : Sem Value} (h : Sim C r (VR C) x y) : Sim C r (NextR C) (x >>= fun v => Pure.pure (.value v)) (y >>= fun v => Pure.pure (.value v)) := by
  refine Sim.bind h ?_
  intro r1 v w h1 hv
  exact Sim.pure hv
theorem Sim.toU {x y : Sem Unit} (h : Sim C r (fun _ _ _ => True) x y) : Sim C r (NextR C) (x >>= fun _ => Pure.pure .skip) (y >>= fun _ => Pure.pure .skip) := by
  refine Sim.bind h ?_
  intro r1 v w h1 hv
  exact Sim.pure trivial
theorem CtxOk.both (ok : CtxOk C) {f n : Nat} (h : Entered C f n) : (∃ fn, C.fx[f]? = some fn ∧ (fn.name == "runtime.NumGoroutine") = false ∧ fn.body.isNone = false) ∧ ∃ fn, C.fs[f]? = some fn ∧ (fn.name == "runtime.NumGoroutine") = false ∧ fn.body.isNone = false := by
  rcases h with h | ⟨⟨k, h⟩, _⟩
  · exact ⟨ok.lone f h, ok.real f h⟩
  · exact ⟨ok.lone1 k f h, ok.real1 k f h⟩
theorem Sim.callFunc (ok : CtxOk C) {f : Nat} {xs ys : Array Value} (hf : Entered C f xs.size) (h : VAll C r xs ys) : Sim C r (NextR C) (Go.callFunc f xs) (Go.callFunc f ys) := by
  obtain ⟨⟨fn, h1, h2, h3⟩, ⟨gn, k1, k2, k3⟩⟩ := ok.both hf
  unfold Go.callFunc
  refine Sim.bind Sim.program ?_
  rintro r1 p q hr ⟨rfl, rfl⟩
  have e1 : C.Px.funcs[f]? = some fn := h1
  have e2 : C.P.funcs[f]? = some gn := k1
  rw [e1, e2]
  simp only [h2, h3, k2, k3, Bool.false_eq_true, if_false]
  exact Sim.pure ⟨rfl, hf, h.mono hr⟩
theorem VAll.mapX {F D : Nat → Bool} {e e' : Operand → Value} (he : ∀ x, okX F D x = true → VR C r (e x) (e' x)) {xs : Array Operand} (h : xs.toList.all (okX F D) = true) : VAll C r (xs.map e) (xs.map e') :=
  VAll.ofFn _ _ _ fun i x hx => he x (List.all_eq_true.1 h x (by
    have := (Array.getElem?_eq_some_iff.1 hx)
    obtain ⟨hl, rfl⟩ := this
    simp))
theorem VO.mapX {F D : Nat → Bool} {e e' : Operand → Value} (he : ∀ x, okX F D x = true → VR C r (e x) (e' x)) {x : Option Operand} (h : x.all (okX F D) = true) : VO C r (x.map e) (x.map e') := by
  cases x with
  | none => trivial
  | some x => exact he x (by simpa using h)
theorem PL.mapX {F D : Nat → Bool} {e e' : Operand → Value} (he : ∀ x, okX F D x = true → VR C r (e x) (e' x)) : ∀ {ps : List (Nat × Operand)}, (ps.all fun p => okX F D p.2) = true → PL C r (ps.map fun p => (p.1, e p.2)) (ps.map fun p => (p.1, e' p.2))
  | [], _ => .nil
  | (i, x) :: ps, h => by
    simp only [List.all_cons, Bool.and_eq_true] at h
    exact .cons (he x h.1) (PL.mapX he h.2)
theorem simOp (ok : CtxOk C) {D : Nat → Bool} (hD : ∀ f, D (specAt f) = false → ∃ k, C.D k (specAt f) = false) {o : Oper} (ho : okOp C.tb C.F D o = true) {e e' : Operand → Value} (he : ∀ x, okX C.F D x = true → VR C r (e x) (e' x)) (hf1 : ∀ f, e (.func f) = .func (.func f) #[] #[]) (hf2 : ∀ f, e' (.func f) = .func (.func f) #[] #[]) :
    Sim C r (NextR C) (execOp e o) (execOp e' o) := by
  obtain ⟨dst, op, ty, pos, after, guard⟩ := o
  unfold okOp at ho
  unfold execOp
  cases op with
  | move x => exact Sim.pure (he x ho)
  | assign x => exact Sim.pure (he x ho)
  | pick c a b =>
    simp only [Bool.and_eq_true] at ho
    refine Sim.bind (Sim.asBool (he c ho.1.1)) ?_
    rintro r1 t _ h1 rfl
    refine Sim.pure ?_
    show VR C r1 (if t = true then e a else e b) (if t = true then e' a else e' b)
    split
    · exact (he a ho.1.2).mono h1
    · exact (he b ho.2).mono h1
  | alloc t => exact Sim.toV (Sim.alloc ho)
  | box t x => exact Sim.toV (Sim.box t (he x ho))
  | build t ps =>
    simp only [Bool.and_eq_true] at ho
    exact Sim.toV (Sim.build ho.1 (by simpa using PL.mapX he ho.2))
  | buildSlice t n ps =>
    simp only [Bool.and_eq_true] at ho
    exact Sim.toV (Sim.buildSlice ho.1 n (by simpa using PL.mapX he ho.2))
  | load t a => exact Sim.toV (Sim.loadAt t (he a ho))
  | store t a x =>
    simp only [Bool.and_eq_true] at ho
    exact Sim.toU (Sim.storeAt t (he a ho.1) (he x ho.2))
  | nilCheck x =>
    dsimp only
    have h := he x ho
    revert h
    generalize e x = u
    generalize e' x = v
    intro h
    cases h <;> first | exact Sim.never (never_rtp _ _) | (refine Sim.pure (Q := NextR C) (a := Next.value _) (b := Next.value _) ?_; show VR C r _ _; constructor <;> assumption)
  | binOp op t a b u =>
    simp only [Bool.and_eq_true, Bool.or_eq_true, Bool.not_eq_true'] at ho
    obtain ⟨⟨ha, hb⟩, hq⟩ := ho
    refine Sim.toV ?_
    refine Sim.bind (Q := fun _ _ _ => True) ?_ ?_
    · rcases hq with hq | hq
      · exact Sim.eqGuard' op ⟨fun e => (by subst e; cases hq), fun e => (by subst e; cases hq)⟩ a b
      · exact Sim.eqGuard hq.2 op a b (he a ha) (he b hb)
    · intro r1 _ _ h1 _
      refine Sim.binOp (n := 5) op (fun hi => ?_) ((he a ha).mono h1) ((he b hb).mono h1)
      rcases hq with hq | hq
      · rw [hi] at hq; cases hq
      · exact hq.1
  | unOp op t x => exact Sim.toV (Sim.unary op (he x ho))
  | convert s t x =>
    simp only [Bool.and_eq_true] at ho
    exact Sim.toV (Sim.convert ho.1.2 ho.2 (he x ho.1.1))
  | makeFunc f a b =>
    cases f with
    | func f =>
      simp only [Bool.and_eq_true] at ho
      have h1 := VAll.mapX he ho.1.2
      have h2 := VAll.mapX he ho.2
      exact Sim.toV (Sim.pure (.func ho.1.1 h1.size h1.get h2.size h2.get))
    | _ => cases ho
  | makeMap t m =>
    cases m with
    | none =>
      refine Sim.toV ?_
      show Sim C r (VR C) (newObj (.map #[] 0) >>= fun b => Pure.pure (.map (some b))) (newObj (.map #[] 0) >>= fun b => Pure.pure (.map (some b)))
      refine Sim.bind (Sim.new fun a b => .map ⟨rfl, fun i e e' he => by simp at he⟩) ?_
      rintro r1 a b h1 ⟨ab, _⟩
      exact Sim.pure (.map ab)
    | some x => cases ho
  | makeSlice t a b =>
    simp only [Bool.and_eq_true] at ho
    exact Sim.toV (Sim.makeSlice ho.1.1 (he a ho.1.2) (he b ho.2))
  | slice t x l h m =>
    simp only [Bool.and_eq_true] at ho
    exact Sim.toV (Sim.sliceAt t (he x ho.1.1.1) (VO.mapX he ho.1.1.2) (VO.mapX he ho.1.2) (VO.mapX he ho.2))
  | fieldAddr t x f =>
    simp only [Bool.and_eq_true] at ho
    exact Sim.toV (Sim.fieldAt ho.2 (he x ho.1))
  | indexAddr t a b =>
    simp only [Bool.and_eq_true] at ho
    exact Sim.toV (Sim.indexAt t (he a ho.1) (he b ho.2))
  | extract x i => exact Sim.toV (Sim.extract (he x ho) i)
  | mapUpdate t a b c =>
    simp only [Bool.and_eq_true] at ho
    exact Sim.toU (Sim.mapUpdate ho.1.1.1 (he a ho.1.1.2) (he b ho.1.2) (he c ho.2))
  | lookup t a b k =>
    simp only [Bool.and_eq_true] at ho
    exact Sim.toV (Sim.lookup ho.1.1 (he a ho.1.2) (he b ho.2) k)
  | call c =>
    obtain ⟨callee, args, ats⟩ := c
    simp only [Bool.and_eq_true] at ho
    have hv := VAll.mapX he ho.1
    have ho2 := ho.2
    cases callee with
    | value f =>
      by_cases hsp : okX C.F D f = true
      rotate_left
      · cases f with
        | func g =>
          simp only [okX] at hsp
          simp only [okCallee, hsp, Bool.false_or, Bool.and_eq_true, Bool.not_eq_true', beq_iff_eq] at ho2
          show Sim C r (NextR C) (Deferred.ofValue (e (.func g)) (args.map e) >>= fun d => invoke d.target d.args) (Deferred.ofValue (e' (.func g)) (args.map e') >>= fun d => invoke d.target d.args)
          rw [hf1, hf2]
          have hv2 := ((VAll.nil (C := C) (r := r)).append hv).append (VAll.nil (C := C) (r := r))
          exact Sim.callFunc ok (.inr ⟨hD g ho2.1, by simpa using ho2.2⟩) hv2
        | _ => exact absurd ho2 hsp
      have h := he f hsp
      revert h
      show VR C r (e f) (e' f) → Sim C r (NextR C) (Deferred.ofValue (e f) (args.map e) >>= fun d => invoke d.target d.args) (Deferred.ofValue (e' f) (args.map e') >>= fun d => invoke d.target d.args)
      generalize e f = u
      generalize e' f = v
      intro h
      cases h with
      | func hf s1 g1 s2 g2 =>
        exact Sim.callFunc ok (.inl hf) (((VAll.mk s1 g1 : VAll C r _ _).append hv).append (VAll.mk s2 g2))
      | nilFunc => exact Sim.never (show Never C.Px (runtimePanic .nilDeref : Sem Next) from never_rtp _ _)
      | _ => exact Sim.halt
    | builtin b =>
      cases b with
      | append => exact Sim.toV (Sim.append ho2 ty hv)
      | len => exact Sim.toV (Sim.len ats ty hv)
      | max => exact Sim.toV (Sim.max ats ty hv)
      | delete => exact Sim.toV (Sim.delete ho2 ty hv)
      | clear => exact Sim.toV (Sim.clear ho2 ty hv)
      | _ => cases ho2
    | invoke x m => cases ho2
  | _ => cases ho
end
end Go.Proofs.YtbpnbhemdbgmjaaGreat.Rn
end
