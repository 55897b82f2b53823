/-
  Texts that the law stands on, part 3.
-/
import Derived.Test.YtbpnbhemdbgmjaaGreatC1
import Derived.Test.YtbpnbhemdbgmjaaGreatC2
import Derived.Laws.Sem
set_option linter.unusedVariables false
set_option linter.unusedSimpArgs false
namespace Go.Proofs.YtbpnbhemdbgmjaaGreat
namespace Rn
section
variable {C : Ctx} {r r' : Ren}
theorem flat_default : flatV (default : Value) = true := rfl
theorem VAll.get! {xs ys : Array Value} (h : VAll C r xs ys) (i : Nat) : VR C r xs[i]! ys[i]! := by
 rw [Array.getElem!_eq_getD, Array.getElem!_eq_getD]
 exact h.getD i (vr_flat flat_default)
theorem VAll.rangeMap {xs ys : Array Value} (h : VAll C r xs ys) (n : Nat) : VAll C r ((Array.range n).map (xs[· % xs.size]!)) ((Array.range n).map (ys[· % ys.size]!)) :=
 VAll.ofFn _ _ _ fun i x _ => by
  show VR C r xs[x % xs.size]! ys[x % ys.size]!
  rw [h.size]; exact h.get! _
theorem Sim.zeroIf {t : TypeId} (hz : zeroOk C.tb t = true) (c : Prop) [Decidable c] {γ δ : Type} {Q : Ren → γ → δ → Prop} {k : Array Value → Sem γ} {l : Array Value → Sem δ}
  (hk : ∀ r' xs ys, Sub r r' → VAll C r' xs ys → Sim C r' Q (k xs) (l ys)) :
  Sim C r Q (if c then (Pure.pure #[] >>= k) else (zeroValue t >>= fun z => Pure.pure z.cells >>= k)) (if c then (Pure.pure #[] >>= l) else (zeroValue t >>= fun z => Pure.pure z.cells >>= l)) := by
 split
 ·exact Sim.bind (Sim.pure VAll.nil) fun r' xs ys hs h => hk r' xs ys hs h
 ·refine Sim.bind (Sim.zero hz) ?_
  rintro r1 z _ h1 ⟨rfl, hf⟩
  exact Sim.bind (Sim.pure (VAll.flat (C := C) (r := r1) (flat_cells hf))) fun r' xs ys hs h => hk r' xs ys (h1.trans hs) h
def sliceOk (tb : Tables) (t : TypeId) : Bool := match (⟨tb, #[]⟩ : Program).underlying t with
 | some (.slice e) => zeroOk tb e
 | _ => true
theorem Sim.makeSlice {t : TypeId} (ok : sliceOk C.tb t = true) {x y u z : Value} (h : VR C r x y) (k : VR C r u z) : Sim C r (VR C) (Instr.makeSlice t x u) (Instr.makeSlice t y z) := by
 unfold Instr.makeSlice
 refine Sim.bind (Sim.under t) ?_
 rintro r1 d _ h1 ⟨rfl, hd⟩
 cases d with
 | slice elem =>
  have hz : zeroOk C.tb elem = true := by
   have hd' : (⟨C.tb, #[]⟩ : Program).underlying t = some (.slice elem) := hd
   simpa [sliceOk, hd'] using ok
  refine Sim.bind (Sim.asInt (h.mono h1)) ?_
  rintro r2 n _ h2 rfl
  refine Sim.bind (Sim.asInt ((k.mono h1).mono h2)) ?_
  rintro r3 c _ h3 rfl
  refine Sim.bind (Sim.info elem) ?_
  rintro r4 i _ h4 ⟨rfl, _⟩
  dsimp only
  split
  ·refine Sim.never ?_
   split
   ·exact Never.bind_left (never_rtp _ _)
   ·split
    ·exact Never.bind_left (never_rtp _ _)
    ·exact Never.bind_right fun _ => Never.bind_left (never_rtp _ _)
  ·refine Sim.bind (Sim.askRoom _) ?_
   intro r5 _ _ h5 _
   refine Sim.bind (Sim.sizeOf elem) ?_
   rintro r6 s _ h6 ⟨rfl, _⟩
   refine Sim.zeroIf hz _ ?_
   intro r7 xs ys h7 hv
   refine Sim.bind (Sim.newRow elem (hv.rangeMap _)) ?_
   intro r8 a b h8 ab
   exact Sim.pure (VR.sl _ _ ab)
 | _ => exact Sim.halt
inductive PL (C : Ctx) (r : Ren) : List (Nat × Value) → List (Nat × Value) → Prop
 | nil : PL C r [] []
 | cons {i x y xs ys} : VR C r x y → PL C r xs ys → PL C r ((i, x) :: xs) ((i, y) :: ys)
theorem PL.mono (h : Sub r r') {xs ys : List (Nat × Value)} (x : PL C r xs ys) : PL C r' xs ys := by
 induction x with
 | nil => exact .nil
 | cons a _ ih => exact .cons (a.mono h) ih
theorem fold_set {xs ys : List (Value × Nat)} (off : Nat) : ∀ {cs ds : Array Value}, VAll C r cs ds → xs.length = ys.length → (∀ (i : Nat) x y, xs[i]? = some x → ys[i]? = some y → VR C r x.1 y.1 ∧ x.2 = y.2) →
  VAll C r (xs.foldl (fun cs x => cs.setIfInBounds (off + x.2) x.1) cs) (ys.foldl (fun cs x => cs.setIfInBounds (off + x.2) x.1) ds) := by
 induction xs generalizing ys with
 | nil => intro cs ds h hl _; cases ys with
  | nil => exact h
  | cons y ys => simp at hl
 | cons x xs ih =>
  intro cs ds h hl hg
  cases ys with
  | nil => simp at hl
  | cons y ys =>
   have h0 := hg 0 x y rfl rfl
   simp only [List.foldl_cons]
   rw [h0.2]
   exact ih (h.set _ h0.1) (by simpa using hl) fun i a b ha hb => hg (i + 1) a b (by simpa using ha) (by simpa using hb)
theorem fill_rel (place : Nat → Option (Nat × Nat)) : ∀ {ps qs : List (Nat × Value)} {cs ds : Array Value}, PL C r ps qs → VAll C r cs ds →
  (∃ xs ys, Instr.fill place cs ps = some xs ∧ Instr.fill place ds qs = some ys ∧ VAll C r xs ys) ∨ (Instr.fill place cs ps = none ∧ Instr.fill place ds qs = none)
 | [], [], cs, ds, _, h => .inl ⟨cs, ds, rfl, rfl, h⟩
 | (i, x) :: ps, (_, y) :: qs, cs, ds, .cons hx hp, h => by
  unfold Instr.fill
  cases place i with
  | none => exact .inr ⟨rfl, rfl⟩
  | some p =>
   obtain ⟨off, size⟩ := p
   have hc := hx.cells
   dsimp only
   rw [hc.size, h.size]
   split
   ·exact .inr ⟨rfl, rfl⟩
   ·have hv : VAll C r (x.cells.zipIdx.foldl (fun cs (c, j) => cs.setIfInBounds (off + j) c) cs) (y.cells.zipIdx.foldl (fun cs (c, j) => cs.setIfInBounds (off + j) c) ds) := by
     rw [← Array.foldl_toList, ← Array.foldl_toList]
     refine fold_set off h (by simp [hc.size]) fun i a b ha hb => ?_
     simp only [Array.toList_zipIdx, List.getElem?_zipIdx, Option.map_eq_some_iff] at ha hb
     obtain ⟨u, hu, rfl⟩ := ha
     obtain ⟨z, hz, rfl⟩ := hb
     exact ⟨hc.get i u z (by simpa using hu) (by simpa using hz), rfl⟩
    exact fill_rel place hp hv
theorem Sim.mapM_list {α β : Type} {f g : α → Sem β} : ∀ {l : List α} {r : Ren}, (∀ r' a, Sub r r' → Sim C r' (fun _ x y => x = y) (f a) (g a)) → Sim C r (fun _ x y => x = y) (l.mapM f) (l.mapM g)
 | [], r, _ => Sim.pure rfl
 | a :: l, r, h => by
  rw [List.mapM_cons, List.mapM_cons]
  refine Sim.bind (h r a (Sub.refl _)) ?_
  rintro r1 x _ h1 rfl
  refine Sim.bind (Sim.mapM_list (l := l) fun r' a hs => h r' a (h1.trans hs)) ?_
  rintro r2 y _ h2 rfl
  exact Sim.pure rfl
theorem Sim.build {t : TypeId} (hz : zeroOk C.tb t = true) {ps qs : Array (Nat × Value)} (hp : PL C r ps.toList qs.toList) : Sim C r (VR C) (Instr.build t ps) (Instr.build t qs) := by
 unfold Instr.build
 refine Sim.bind (Sim.zero hz) ?_
 rintro r1 z _ h1 ⟨rfl, hf⟩
 refine Sim.bind (Sim.under t) ?_
 rintro r2 d _ h2 ⟨rfl, _⟩
 have hc : VAll C r2 z.cells z.cells := VAll.flat (flat_cells hf)
 cases d with
 | struct fields =>
  dsimp only
  rw [Array.mapM_eq_mapM_toList, bind_map_left, bind_map_left]
  refine Sim.bind (Sim.mapM_list (f := fun f : Field => _) (g := fun f : Field => _) fun r' f hs => ?_) ?_
  ·refine Sim.bind (Sim.sizeOf f.type) ?_
   rintro r3 s _ h3 ⟨rfl, _⟩
   exact Sim.pure rfl
  rintro r3 places _ h3 rfl
  rcases fill_rel (fun i => places.toArray[i]?) (((hp.mono h1).mono h2).mono h3) (hc.mono h3) with ⟨xs, ys, e1, e2, hv⟩ | ⟨e1, e2⟩
  ·simp only [e1, e2]
   exact Sim.pure (VR.aggA hv)
  ·simp only [e1, e2]
   exact Sim.halt
 | array n elem =>
  dsimp only
  refine Sim.bind (Sim.sizeOf elem) ?_
  rintro r3 s _ h3 ⟨rfl, _⟩
  rcases fill_rel (fun i => some (i * s, s)) (((hp.mono h1).mono h2).mono h3) (hc.mono h3) with ⟨xs, ys, e1, e2, hv⟩ | ⟨e1, e2⟩
  ·simp only [e1, e2]
   exact Sim.pure (VR.aggA hv)
  ·simp only [e1, e2]
   exact Sim.halt
 | _ => exact Sim.halt
theorem Sim.buildSlice {t : TypeId} (ok : sliceOk C.tb t = true) (len : Nat) {ps qs : Array (Nat × Value)} (hp : PL C r ps.toList qs.toList) : Sim C r (VR C) (Instr.buildSlice t len ps) (Instr.buildSlice t len qs) := by
 unfold Instr.buildSlice
 refine Sim.bind (Sim.under t) ?_
 rintro r1 d _ h1 ⟨rfl, hd⟩
 cases d with
 | slice elem =>
  have hz : zeroOk C.tb elem = true := by
   have hd' : (⟨C.tb, #[]⟩ : Program).underlying t = some (.slice elem) := hd
   simpa [sliceOk, hd'] using ok
  refine Sim.bind (Sim.sizeOf elem) ?_
  rintro r2 s _ h2 ⟨rfl, _⟩
  dsimp only
  split
  ·exact Sim.never (Never.bind_left Never.halt)
  ·refine Sim.zeroIf hz _ ?_
   intro r3 xs ys h3 hv
   rcases fill_rel (fun i => some (i * s, s)) (((hp.mono h1).mono h2).mono h3) (hv.rangeMap (len * s)) with ⟨us, zs, e1, e2, hv⟩ | ⟨e1, e2⟩
   ·simp only [e1, e2]
    refine Sim.bind (Sim.newRow elem hv) ?_
    intro r4 a b h4 ab
    exact Sim.pure (VR.sl _ _ ab)
   ·simp only [e1, e2]
    exact Sim.halt
 | _ => exact Sim.halt
theorem Sim.intArith (op : BinOp) (k : IntKind) (x y : Int) : Sim C r (VR C) (Op.intArith op k x y) (Op.intArith op k x y) := by
 unfold Op.intArith
 split <;> first | exact Sim.pure (.int _ _) | exact Sim.halt
theorem Sim.intDiv (op : BinOp) (k : IntKind) (x y : Int) : Sim C r (VR C) (Op.intDiv op k x y) (Op.intDiv op k x y) := by
 unfold Op.intDiv
 split
 ·exact Sim.never (never_rtp _ _)
 ·split <;> first | exact Sim.pure (.int _ _) | exact Sim.halt
theorem Sim.intBits (op : BinOp) (k : IntKind) (x y : Int) : Sim C r (VR C) (Op.intBits op k x y) (Op.intBits op k x y) := by
 unfold Op.intBits
 dsimp only
 split <;> first | exact Sim.pure (.int _ _) | exact Sim.halt
theorem Sim.intCmp (op : BinOp) (x y : Int) : Sim C r (VR C) (Op.intCmp op x y) (Op.intCmp op x y) := by
 unfold Op.intCmp
 split <;> first | exact Sim.pure (.bool _) | exact Sim.halt
theorem Sim.shift (op : BinOp) (k : IntKind) (x : Int) (k' : IntKind) (y : Int) : Sim C r (VR C) (Op.shift op k x k' y) (Op.shift op k x k' y) := by
 unfold Op.shift
 split
 ·exact Sim.never (never_rtp _ _)
 ·dsimp only
  split <;> first | exact Sim.pure (.int _ _) | exact Sim.halt
theorem Sim.unary (op : UnOp) {x y : Value} (h : VR C r x y) : Sim C r (VR C) (Op.unary op x) (Op.unary op y) := by
 cases h <;> cases op <;> first | exact Sim.halt | exact Sim.intArith .sub _ 0 _ | exact Sim.intBits .xor _ _ _ | exact Sim.pure (.bool _)
def toIntOk (tb : Tables) (t : TypeId) : Bool := match (⟨tb, #[]⟩ : Program).underlying t with
 | some (.int _) => true
 | _ => false
theorem Sim.convert {s t : TypeId} (os : toIntOk C.tb s = true) (ok : toIntOk C.tb t = true) {x y : Value} (h : VR C r x y) : Sim C r (VR C) (Go.convert s t x) (Go.convert s t y) := by
 unfold Go.convert
 refine Sim.bind (Sim.under s) ?_
 rintro r1 d _ h1 ⟨rfl, hd⟩
 refine Sim.bind (Sim.under t) ?_
 rintro r2 d' _ h2 ⟨rfl, hd'⟩
 have e1 : ∃ k, d = .int k := by
  have hd'' : (⟨C.tb, #[]⟩ : Program).underlying s = some d := hd
  simp only [toIntOk, hd''] at os
  split at os
  ·rename_i e; cases e; exact ⟨_, rfl⟩
  ·cases os
 have e2 : ∃ k, d' = .int k := by
  have hd'' : (⟨C.tb, #[]⟩ : Program).underlying t = some d' := hd'
  simp only [toIntOk, hd''] at ok
  split at ok
  ·rename_i e; cases e; exact ⟨_, rfl⟩
  ·cases ok
 obtain ⟨k, rfl⟩ := e1
 obtain ⟨k', rfl⟩ := e2
 cases h <;> first | exact Sim.halt | exact Sim.pure (.int _ _)
theorem Sim.len (ts : Array TypeId) (t : TypeId) {xs ys : Array Value} (h : VAll C r xs ys) : Sim C r (VR C) (Builtin.len_ ts t xs) (Builtin.len_ ts t ys) := by
 unfold Builtin.len_
 cases ts[0]? with
 | none => exact Sim.halt
 | some t0 =>
  cases hx : xs[0]? with
  | none => exact Sim.halt
  | some x =>
   obtain ⟨y, hy, hr⟩ := h.get? hx
   simp only [hy]
   refine Sim.bind (Sim.under t0) ?_
   rintro r1 d _ h1 ⟨rfl, _⟩
   replace hr := hr.mono h1
   cases d with
   | array n e => cases hr <;> exact Sim.pure (.int _ _)
   | pointer e =>
    cases hr
    all_goals
     refine Sim.bind (Sim.under e) ?_
     rintro r2 d _ h2 ⟨rfl, _⟩
     cases d <;> first | exact Sim.halt | exact Sim.pure (.int _ _)
   | slice e => cases hr <;> first | exact Sim.halt | exact Sim.pure (.int _ _)
   | map k e =>
    cases hr with
    | map0 => exact Sim.pure (.int _ _)
    | map ab =>
     refine Sim.bind (Sim.getObj ab) ?_
     rintro r2 o o' h2 ⟨ho, _⟩
     cases ho with
     | map m => dsimp only; rw [m.size]; exact Sim.pure (.int _ _)
     | _ => exact Sim.halt
    | _ => exact Sim.halt
   | _ => cases hr <;> exact Sim.halt
theorem Sim.max2 {x y x' y' : Value} (h : VR C r x x') (k : VR C r y y') : Sim C r (VR C) (Builtin.max2 x y) (Builtin.max2 x' y') := by
 cases h <;> cases k <;> first | exact Sim.halt | exact Sim.pure (.int _ _)
theorem Sim.maxL : ∀ {xs ys : List Value} {x y : Value} {r : Ren}, VR C r x y → VL C r xs ys → Sim C r (VR C) (xs.foldlM Builtin.max2 x) (ys.foldlM Builtin.max2 y)
 | [], [], x, y, r, h, _ => Sim.pure h
 | a :: xs, b :: ys, x, y, r, h, .cons k ks => by
  simp only [List.foldlM_cons]
  refine Sim.bind (Sim.max2 h k) ?_
  intro r1 u v h1 uv
  exact Sim.maxL uv (ks.mono h1)
theorem Sim.max (ts : Array TypeId) (t : TypeId) {xs ys : Array Value} (h : VAll C r xs ys) : Sim C r (VR C) (Builtin.max_ ts t xs) (Builtin.max_ ts t ys) := by
 unfold Builtin.max_
 have := h.toList
 revert this
 generalize xs.toList = l1
 generalize ys.toList = l2
 intro hl
 cases hl with
 | nil => exact Sim.halt
 | cons a b => exact Sim.maxL a b
end
end Rn
namespace Rn
section
variable {C : Ctx} {r r' : Ren}
theorem Sim.lenOf {x y : Value} (h : VR C r x y) : Sim C r (fun _ a b => a = b) (Builtin.lenOf x) (Builtin.lenOf y) := by
 cases h <;> first | exact Sim.halt | exact Sim.pure rfl
theorem Sim.firstCells (size n : Nat) {x y : Value} (h : VR C r x y) : Sim C r (VAll C) (Builtin.firstCells size n x) (Builtin.firstCells size n y) := by
 cases h with
 | sl0 a b => exact Sim.pure VAll.nil
 | sl a b ab => exact Sim.loadCells ab _
 | _ => exact Sim.halt
theorem zeroCells_rel {xs ys : Array Value} (h : VAll C r xs ys) (n : Nat) : VAll C r (Builtin.zeroCells xs n) (Builtin.zeroCells ys n) := by
 unfold Builtin.zeroCells
 rw [h.size]
 exact VAll.ofFn _ _ _ fun i x _ => h.get! _
theorem ni_holds {p : Program} (a : Addr) (n : Nat) : NI p (Builtin.holdsCells a n) := by
 unfold Builtin.holdsCells
 refine NI.bind NI.shape fun s => ?_
 cases s <;> exact NI.pure
theorem ni_mayShare {p : Program} (a b c : Nat) (base : Option Addr) (x : Value) : NI p (Builtin.mayShare a b c base x) := by
 have rest : ∀ (t : Bool), NI p (if (!t) = true then Pure.pure true else match x with | .slice (some bb) _ _ => (Builtin.holdsCells bb (c * a) >>= fun z => Pure.pure (!z || base.any (·.block == bb.block))) | _ => Pure.pure false) := by
  intro t
  refine NI.ite NI.pure ?_
  split
  ·exact NI.bind (ni_holds _ _) fun _ => NI.pure
  ·exact NI.pure
 unfold Builtin.mayShare
 cases base with
 | none => exact NI.bind NI.pure fun t => rest t
 | some ad => exact NI.bind (ni_holds _ _) fun z => NI.bind NI.frozen fun z' => NI.bind NI.pure fun t => rest t
def OA (C : Ctx) (r : Ren) : Option Addr → Option Addr → Prop
 | none, none => True
 | some a, some b => AR C r a b
 | _, _ => False
theorem OA.mono (h : Sub r r') {x y : Option Addr} (k : OA C r x y) : OA C r' x y := by
 match x, y, k with
 | none, none, _ => trivial
 | some _, some _, k => exact AR.mono h k
theorem VR.slice {base : Option Addr} {n c : Nat} {y : Value} (h : VR C r (.slice base n c) y) : ∃ base', y = .slice base' n c ∧ OA C r base base' := by
 cases h with
 | sl0 _ _ => exact ⟨none, rfl, trivial⟩
 | sl _ _ ab => exact ⟨some _, rfl, ab⟩
def isIntD : TypeDesc → Bool
 | .int _ => true
 | _ => false
def appendOk (tb : Tables) (ts : Array TypeId) : Bool := (match ts[0]? with | some t => sliceOk tb t | none => true) &&
 (match ts[1]? with | some t => (match (⟨tb, #[]⟩ : Program).underlying t with | some (.int _) => false | _ => true) | none => true)
theorem Sim.append {ts : Array TypeId} (ok : appendOk C.tb ts = true) (t : TypeId) {xs ys : Array Value} (h : VAll C r xs ys) : Sim C r (VR C) (Builtin.append_ ts t xs) (Builtin.append_ ts t ys) := by
 simp only [appendOk, Bool.and_eq_true] at ok
 obtain ⟨ok1, ok2⟩ := ok
 unfold Builtin.append_
 cases h0 : ts[0]? with
 | none => exact Sim.halt
 | some t0 =>
  rw [h0] at ok1
  cases hx : xs[0]? with
  | none => exact Sim.halt
  | some s =>
   obtain ⟨s', hy, hs⟩ := h.get? hx
   cases hx1 : xs[1]? with
   | none => exact Sim.halt
   | some x =>
    obtain ⟨y, hy1, hxy⟩ := h.get? hx1
    simp only [hy, hy1]
    refine Sim.bind (Sim.under t0) ?_
    rintro r1 d _ h1 ⟨rfl, hd⟩
    replace hs := hs.mono h1
    replace hxy := hxy.mono h1
    cases d with
    | slice elem =>
     have hz : zeroOk C.tb elem = true := by
      have hd' : (⟨C.tb, #[]⟩ : Program).underlying t0 = some (.slice elem) := hd
      simpa [sliceOk, hd'] using ok1
     cases s with
     | slice base sLen sCap =>
      obtain ⟨base', rfl, hb⟩ := hs.slice
      dsimp only
      refine Sim.bind (Sim.sizeOf elem) ?_
      rintro r2 size _ h2 ⟨rfl, _⟩
      cases h1' : ts[1]? with
      | none =>
       dsimp only
       refine Sim.bind (Q := fun _ a b => a = false ∧ b = false) (Sim.pure ⟨rfl, rfl⟩) ?_
       rintro r3 _ _ h3 ⟨rfl, rfl⟩
       simp only [Bool.false_eq_true, if_false, Bool.not_false, if_true, false_or]
       have hx3 := (hxy.mono h2).mono h3
       have hs3 := (hs.mono h2).mono h3
       refine Sim.bind (Sim.lenOf hx3) ?_
       rintro r4 n _ h4 rfl
       split
       ·refine Sim.bind (Sim.firstCells size n (hx3.mono h4)) ?_
        intro r5 us zs h5 hv
        match base, base', hb with
        | none, none, _ => exact Sim.pure (.sl0 _ _)
        | some a, some b, ab =>
         have ab := ((((ab.mono h2).mono h3).mono h4).mono h5)
         refine Sim.bind (Sim.storeCells 0 (ab.add _) hv.toList) ?_
         intro r6 _ _ h6 _
         exact Sim.pure (.sl _ _ (ab.mono h6))
       ·refine Sim.bind (Sim.info elem) ?_
        rintro r5 i _ h5 ⟨rfl, _⟩
        split
        ·exact Sim.never (Never.bind_left (never_rtp _ _))
        ·refine Sim.bind (Sim.info elem) ?_
         rintro r6 i2 _ h6 ⟨rfl, _⟩
         split
         ·refine Sim.never (Never.bind_left (Never.bind_right (fun _ => ?_) (ni_mayShare _ _ _ _ _)))
          exact Never.ite (Never.bind_right fun _ => Never.halt) Never.halt
         ·refine Sim.bind (Sim.choose _) ?_
          rintro r7 nc _ h7 rfl
          refine Sim.bind (Sim.info elem) ?_
          rintro r8 i3 _ h8 ⟨rfl, _⟩
          refine Sim.bind (Sim.askRoom _) ?_
          intro r9 _ _ h9 _
          refine Sim.bind (Sim.firstCells size sLen ((((((hs3.mono h4).mono h5).mono h6).mono h7).mono h8).mono h9)) ?_
          intro r10 us zs h10 hu
          refine Sim.bind (Sim.firstCells size n (((((((hx3.mono h4).mono h5).mono h6).mono h7).mono h8).mono h9).mono h10)) ?_
          intro r11 us' zs' h11 hu'
          refine Sim.bind (Sim.zero hz) ?_
          rintro r12 z _ h12 ⟨rfl, hf⟩
          have hzc : VAll C r12 z.cells z.cells := VAll.flat (flat_cells hf)
          refine Sim.bind (Sim.newRow elem ((((hu.mono h11).mono h12).append (hu'.mono h12)).append (zeroCells_rel hzc _))) ?_
          intro r13 a b h13 ab
          exact Sim.pure (.sl _ _ ab)
      | some t1 =>
       dsimp only
       refine Sim.bind (Sim.under t1) ?_
       rintro r2' d1 _ h2' ⟨rfl, hd1⟩
       have hni : isIntD d1 = false := by
        have hd' : (⟨C.tb, #[]⟩ : Program).underlying t1 = some d1 := hd1
        rw [h1'] at ok2
        simp only [hd'] at ok2
        cases d1 <;> first | rfl | cases ok2
       replace hb := hb.mono h2
       replace hs := hs.mono h2
       replace hxy := hxy.mono h2
       clear h2
       have h2 := h2'
       refine Sim.bind (Q := fun _ a b => a = false ∧ b = false) (Sim.pure ⟨hni, hni⟩) ?_
       rintro r3 _ _ h3 ⟨rfl, rfl⟩
       simp only [Bool.false_eq_true, if_false, Bool.not_false, if_true, false_or]
       have hx3 := (hxy.mono h2).mono h3
       have hs3 := (hs.mono h2).mono h3
       refine Sim.bind (Sim.lenOf hx3) ?_
       rintro r4 n _ h4 rfl
       split
       ·refine Sim.bind (Sim.firstCells size n (hx3.mono h4)) ?_
        intro r5 us zs h5 hv
        match base, base', hb with
        | none, none, _ => exact Sim.pure (.sl0 _ _)
        | some a, some b, ab =>
         have ab := ((((ab.mono h2).mono h3).mono h4).mono h5)
         refine Sim.bind (Sim.storeCells 0 (ab.add _) hv.toList) ?_
         intro r6 _ _ h6 _
         exact Sim.pure (.sl _ _ (ab.mono h6))
       ·refine Sim.bind (Sim.info elem) ?_
        rintro r5 i _ h5 ⟨rfl, _⟩
        split
        ·exact Sim.never (Never.bind_left (never_rtp _ _))
        ·refine Sim.bind (Sim.info elem) ?_
         rintro r6 i2 _ h6 ⟨rfl, _⟩
         split
         ·refine Sim.never (Never.bind_left (Never.bind_right (fun _ => ?_) (ni_mayShare _ _ _ _ _)))
          exact Never.ite (Never.bind_right fun _ => Never.halt) Never.halt
         ·refine Sim.bind (Sim.choose _) ?_
          rintro r7 nc _ h7 rfl
          refine Sim.bind (Sim.info elem) ?_
          rintro r8 i3 _ h8 ⟨rfl, _⟩
          refine Sim.bind (Sim.askRoom _) ?_
          intro r9 _ _ h9 _
          refine Sim.bind (Sim.firstCells size sLen ((((((hs3.mono h4).mono h5).mono h6).mono h7).mono h8).mono h9)) ?_
          intro r10 us zs h10 hu
          refine Sim.bind (Sim.firstCells size n (((((((hx3.mono h4).mono h5).mono h6).mono h7).mono h8).mono h9).mono h10)) ?_
          intro r11 us' zs' h11 hu'
          refine Sim.bind (Sim.zero hz) ?_
          rintro r12 z _ h12 ⟨rfl, hf⟩
          have hzc : VAll C r12 z.cells z.cells := VAll.flat (flat_cells hf)
          refine Sim.bind (Sim.newRow elem ((((hu.mono h11).mono h12).append (hu'.mono h12)).append (zeroCells_rel hzc _))) ?_
          intro r13 a b h13 ab
          exact Sim.pure (.sl _ _ ab)
     | _ => exact Sim.halt
    | _ => exact Sim.halt
end
end Rn
namespace Rn
section
variable {C : Ctx} {r r' : Ren}
theorem block_iff (hw : ∃ w v, WR C r w v) {a b a' b' : Addr} (h : AR C r a a') (k : AR C r b b') (hr : ¬ (C.RO a.block ∧ C.RO b.block)) : (a'.block == b'.block) = (a.block == b.block) := by
 obtain ⟨w, v, hw⟩ := hw
 have h1 := h.1; have k1 := k.1
 by_cases e : a.block = b.block
 ·rw [e] at h1
  rw [hw.fn _ _ _ h1 k1, e, beq_self_eq_true, beq_self_eq_true]
 ·have : a'.block ≠ b'.block := fun e' => by
   rcases hw.inj _ _ _ h1 (by rw [e']; exact k1) with e2 | e2
   ·exact e e2
   ·exact hr e2
  rw [beq_false_of_ne e, beq_false_of_ne this]
theorem glob_iff (hw : ∃ w v, WR C r w v) {a a' : Addr} (h : AR C r a a') (hr : ¬ C.RO a.block) : (decide (a'.block < C.P.globals.size)) = decide (a.block < C.Px.globals.size) := by
 obtain ⟨w, v, hw⟩ := hw
 by_cases e : a.block < C.tb.globals.size
 ·have := hw.glob _ _ h.1 hr (.inl e)
  rw [← this]; exact rfl
 ·have : ¬ a'.block < C.tb.globals.size := fun e' => e (by rw [hw.glob _ _ h.1 hr (.inr e')]; exact e')
  have e1 : decide (a.block < C.Px.globals.size) = false := decide_eq_false e
  have e2 : decide (a'.block < C.P.globals.size) = false := decide_eq_false this
  rw [e1, e2]
theorem glob_ro (hw : ∃ w v, WR C r w v) {a a' : Addr} (h : AR C r a a') (hr : C.RO a.block) : ¬ a.block < C.Px.globals.size := by
 obtain ⟨w, v, hw⟩ := hw
 exact Nat.not_lt.2 (hw.winG _ _ h.1 hr)
theorem addr_iff (hw : ∃ w v, WR C r w v) {a b a' b' : Addr} (h : AR C r a a') (k : AR C r b b') (hr : ¬ (C.RO a.block ∧ C.RO b.block)) : (a' == b') = (a == b) := by
 have := block_iff hw h k hr
 obtain ⟨_, h2, h3⟩ := h
 obtain ⟨_, k2, k3⟩ := k
 rw [Bool.eq_iff_iff] at this ⊢
 simp only [beq_iff_eq] at this ⊢
 constructor
 ·intro e
  subst e
  have := this.1 rfl
  cases a; cases b
  simp_all
 ·intro e
  subst e
  have := this.2 rfl
  cases a'; cases b'
  simp_all
theorem cellsOf_noT (hw : ∃ w v, WR C r w v) : C.Px.cellsOf C.noT = 0 := by
 obtain ⟨w, v, hw⟩ := hw
 unfold Program.cellsOf
 rw [show C.Px.info? C.noT = none from hw.noInfo]
 rfl
theorem Sim.unsafeAdd (t : TypeId) {x x' y y' : Value} (h : VR C r x x') (k : VR C r y y') : Sim C r (VR C) (Builtin.unsafeAdd_ #[] t #[x, y]) (Builtin.unsafeAdd_ #[] t #[x', y']) := by
 have key : ∀ (p p' : Option Addr), OA C r p p' → Sim C r (VR C) (Builtin.unsafeAdd_ #[] t #[.pointer p, y]) (Builtin.unsafeAdd_ #[] t #[.pointer p', y']) := by
  intro p p' hp
  unfold Builtin.unsafeAdd_
  dsimp only
  refine Sim.bind (Sim.asInt k) ?_
  rintro r1 n _ h1 rfl
  split
  ·match p, p', hp with
   | none, none, _ => exact Sim.never (Never.bind_left Never.halt)
   | some a, some b, ab =>
    refine Sim.bind (Sim.viewAt (h1 _ _ ab.1)) ?_
    rintro r2 u u' h2 ⟨rfl, rfl⟩
    exact Sim.pure (.ptr ((ab.mono h1).mono h2))
  ·split
   ·exact Sim.never (Never.bind_left Never.halt)
   ·match p, p', hp with
    | none, none, _ => exact Sim.halt
    | some a, some b, ab =>
     refine Sim.given fun hw => ?_
     refine Sim.bind (Sim.shape (h1 _ _ ab.1)) ?_
     rintro r2 u u' h2 ⟨hs, hsame, hro⟩
     by_cases hr : C.RO a.block
     ·obtain ⟨m, rfl⟩ := hro hr
      have e0 : cellAtBytes C.Px C.Px.depth C.noT (m / C.Px.cellsOf C.noT) a.off n = none := by
       simp [cellAtBytes, cellsOf_noT hw]
      refine Sim.never ?_
      show Never C.Px (Go.program >>= fun p => match cellAtBytes p p.depth C.noT (m / p.cellsOf C.noT) a.off n with | some off => Pure.pure (Value.pointer (some { a with off })) | none => unsupported (.unsafePointer "Add"))
      refine ⟨fun w es x w' es' e => ?_, fun w es hh w' es' e => ?_, (NI.bind NI.program fun p => (by split <;> first | exact NI.pure | exact NI.halt)).2⟩
      ·change (match cellAtBytes C.Px C.Px.depth C.noT (m / C.Px.cellsOf C.noT) a.off n with | some off => Pure.pure (Value.pointer (some { a with off })) | none => unsupported (.unsafePointer "Add") : Sem Value).runT C.Px w es = _ at e
       rw [e0] at e; cases e
      ·change (match cellAtBytes C.Px C.Px.depth C.noT (m / C.Px.cellsOf C.noT) a.off n with | some off => Pure.pure (Value.pointer (some { a with off })) | none => unsupported (.unsafePointer "Add") : Sem Value).runT C.Px w es = _ at e
       rw [e0] at e; cases e; rfl
     obtain rfl := hsame hr
     have hoff : b.off = a.off := by obtain ⟨w, v, hw⟩ := hw; rw [ab.2.1, hw.shz _ hr]; rfl
     cases u with
     | none => exact Sim.halt
     | some s =>
      obtain ⟨e, cells⟩ := s
      refine Sim.bind Sim.program ?_
      rintro r3 q q' h3 ⟨rfl, rfl⟩
      have hb : cellAtBytes C.Px C.Px.depth e (cells / C.Px.cellsOf e) a.off n = cellAtBytes C.P C.P.depth e (cells / C.P.cellsOf e) b.off n := by rw [hoff]; exact cellAtBytes_C _ _ _ _ _
      rw [hb]
      cases cellAtBytes C.P C.P.depth e (cells / C.P.cellsOf e) b.off n with
      | none => exact Sim.halt
      | some off =>
       have h0 : C.sh a.block = 0 := by obtain ⟨w, v, hw⟩ := hw; exact hw.shz _ hr
       exact Sim.pure (.ptr ⟨h3 _ _ (h2 _ _ (h1 _ _ ab.1)), by show off = off + C.sh a.block; rw [h0]; rfl, ab.2.2⟩)
 cases h with
 | ptr0 => exact key none none trivial
 | ptr ab => exact key (some _) (some _) ab
 | _ => exact Sim.halt
theorem Sim.asNumber {a b : Addr} (ab : AR C r a b) (l : Bool) : Sim C r (VR C) (Go.asNumber a l) (Go.asNumber b l) := by
 unfold Go.asNumber
 refine Sim.bind (Sim.new (o := .number a l) (o' := .number b l) fun x y => .number l (ab.mono (Ren.sub_ext _ _ _))) ?_
 rintro r1 x y h1 ⟨xy, hsh⟩
 exact Sim.pure (.ptr ⟨xy, by simp [hsh], rfl⟩)
def mvRest (t : TypeId) (x y : Value) : Sem Value :=
 match x with
 | .pointer (some n) => (Go.behindNumber n >>= fun z => Builtin.unsafeAdd_ #[] t #[.pointer (some z.1), y] >>= fun v => match v with
  | .pointer (some b) => Go.asNumber b z.2
  | v => Pure.pure v)
 | _ => Builtin.unsafeAdd_ #[] t #[x, y]
theorem Sim.movedNumber (t : TypeId) {x x' y y' : Value} (h : VR C r x x') (k : VR C r y y') : Sim C r (VR C) (Go.movedNumber t x y) (Go.movedNumber t x' y') := by
 unfold Go.movedNumber
 refine Sim.bind (Sim.under t) ?_
 rintro r1 d _ h1 ⟨rfl, _⟩
 replace h := h.mono h1
 replace k := k.mono h1
 have key : Sim C r1 (VR C) (mvRest t x y) (mvRest t x' y') := by
  cases h with
  | ptr ab =>
   refine Sim.bind (Sim.behind ab) ?_
   rintro r2 ⟨a, l⟩ ⟨b, l'⟩ h2 ⟨ab', e, _⟩
   cases e
   refine Sim.bind (Sim.unsafeAdd t (.ptr ab') (k.mono h2)) ?_
   intro r3 u u' h3 hu
   cases hu with
   | ptr ab'' => exact Sim.asNumber ab'' _
   | _ => refine Sim.pure ?_; constructor <;> assumption
  | ptr0 => exact Sim.unsafeAdd t .ptr0 k
  | _ => exact Sim.halt
 cases d with
 | unsafePointer => exact Sim.never (Never.bind_left Never.halt)
 | _ => cases h <;> exact key
theorem Sim.twoPlaces {a b a' b' : Addr} (h : AR C r a a') (k : AR C r b b') : Sim C r (fun _ x y => x = y) (Op.twoPlaces a b) (Op.twoPlaces a' b') := by
 refine Sim.given fun hw => ?_
 unfold Op.twoPlaces
 refine Sim.bind Sim.program ?_
 rintro r1 p q h1 ⟨rfl, rfl⟩
 by_cases hra : C.RO a.block
 ·have hg := glob_ro hw h hra
  have : (a.block != b.block || decide (a.block ≥ C.Px.globals.size)) = true := by
   have : decide (a.block ≥ C.Px.globals.size) = true := decide_eq_true (Nat.not_lt.1 hg)
   rw [this, Bool.or_true]
  dsimp only
  rw [this]
  exact Sim.never (Never.bind_left Never.halt)
 by_cases hrb : C.RO b.block
 ·have : (a.block != b.block || decide (a.block ≥ C.Px.globals.size)) = true := by
   have : (a.block != b.block) = true := by
    rw [bne_iff_ne]; intro e; exact hra (by rw [e]; exact hrb)
   rw [this, Bool.true_or]
  dsimp only
  rw [this]
  exact Sim.never (Never.bind_left Never.halt)
 have e : (a'.block != b'.block || decide (a'.block ≥ C.P.globals.size)) = (a.block != b.block || decide (a.block ≥ C.Px.globals.size)) := by
  have e1 := block_iff hw h k (fun x => hra x.1)
  have e2 := glob_iff hw h hra
  simp only [bne, e1, ge_iff_le]
  congr 1
  rw [Bool.eq_iff_iff, decide_eq_true_eq, decide_eq_true_eq, ← Nat.not_lt, ← Nat.not_lt]
  rw [Bool.eq_iff_iff, decide_eq_true_eq, decide_eq_true_eq] at e2
  rw [e2]
 dsimp only
 rw [e]
 split
 ·exact Sim.never (Never.bind_left Never.halt)
 ·refine Sim.bind (Sim.byteOf (h.mono h1) hra) ?_
  rintro r2 x _ h2 rfl
  refine Sim.bind (Sim.byteOf ((k.mono h1).mono h2) hrb) ?_
  rintro r3 y _ h3 rfl
  exact Sim.pure rfl
theorem Sim.addrSub (k : IntKind) {a b a' b' : Addr} (h : AR C r a a') (k' : AR C r b b') : Sim C r (VR C) (Op.addrSub k a b) (Op.addrSub k a' b') := by
 unfold Op.addrSub
 refine Sim.bind (Sim.twoPlaces h k') ?_
 rintro r1 ⟨x, y⟩ _ h1 rfl
 exact Sim.pure (.int _ _)
theorem Sim.addrCmp (op : BinOp) {a b a' b' : Addr} (h : AR C r a a') (k' : AR C r b b') : Sim C r (VR C) (Op.addrCmp op a b) (Op.addrCmp op a' b') := by
 unfold Op.addrCmp
 refine Sim.bind (Sim.twoPlaces h k') ?_
 rintro r1 ⟨x, y⟩ _ h1 rfl
 dsimp only
 split <;> first | exact Sim.pure (.bool _) | exact Sim.halt
theorem Sim.addrMod (k : IntKind) {a a' : Addr} (h : AR C r a a') (n : Int) : Sim C r (VR C) (Op.addrMod k a n) (Op.addrMod k a' n) := by
 refine Sim.given fun hw => ?_
 unfold Op.addrMod
 refine Sim.bind (Sim.shape h.1) ?_
 rintro r1 x x' h1 ⟨hs, hsame, hro⟩
 by_cases hr : C.RO a.block
 ·obtain ⟨m, rfl⟩ := hro hr
  refine Sim.never (Never.bind_left ?_)
  obtain ⟨w, v, hw⟩ := hw
  have e0 : C.Px.info? C.noT = none := hw.noInfo
  refine ⟨fun w es x w' es' e => ?_, NI.info⟩
  unfold typeInfo at e
  change (match C.Px.info? C.noT with | some i => Pure.pure i | none => stuck "no such type" : Sem TypeInfo).runT C.Px w es = _ at e
  rw [e0] at e
  cases e
 obtain rfl := hsame hr
 cases x with
 | none => exact Sim.halt
 | some s =>
  obtain ⟨e, _⟩ := s
  refine Sim.bind (Sim.info e) ?_
  rintro r2 i _ h2 ⟨rfl, _⟩
  dsimp only
  split
  ·exact Sim.never (Never.bind_left Never.halt)
  ·refine Sim.bind (Sim.byteOf ((h.mono h1).mono h2) hr) ?_
   rintro r3 y _ h3 rfl
   exact Sim.pure (.int _ _)
end
end Rn
namespace Rn
def isCC : TypeDesc → Bool
 | .named "sync.copyChecker" _ => true
 | _ => false
def eqOk (tb : Tables) : Nat → TypeId → Bool
 | 0, _ => false
 | d + 1, t => match (⟨tb, #[]⟩ : Program).underlying t with
  | some .bool | some (.slice _) => true
  | some (.int _) => match (⟨tb, #[]⟩ : Program).info? t with
   | some i => !isCC i.desc
   | none => true
  | some (.struct fs) => fs.toList.all fun f => eqOk tb d f.type
  | _ => false
section
variable {C : Ctx} {r r' : Ren}
theorem Sim.forInL {α β : Type} {R : Ren → β → β → Prop} {f g : α → β → Sem (ForInStep β)} (hR : ∀ r r' x y, Sub r r' → R r x y → R r' x y) :
  ∀ {l : List α} {r : Ren} {b b' : β}, R r b b' →
  (∀ r' a b b', a ∈ l → Sub r r' → R r' b b' → Sim C r' (fun s x y => (∃ u v, x = .yield u ∧ y = .yield v ∧ R s u v) ∨ (∃ u v, x = .done u ∧ y = .done v ∧ R s u v)) (f a b) (g a b')) →
  Sim C r R (forIn l b f) (forIn l b' g)
 | [], r, b, b', hb, _ => by rw [List.forIn_nil, List.forIn_nil]; exact Sim.pure hb
 | a :: l, r, b, b', hb, h => by
  rw [List.forIn_cons, List.forIn_cons]
  refine Sim.bind (h r a b b' (by simp) (Sub.refl _) hb) ?_
  rintro r1 x y h1 (⟨u, v, rfl, rfl, huv⟩ | ⟨u, v, rfl, rfl, huv⟩)
  ·exact Sim.forInL hR (l := l) huv fun r' a b b' ha hs hb => h r' a b b' (by simp [ha]) (h1.trans hs) hb
  ·exact Sim.pure huv
def intPtr (t : TypeId) (a b : Addr) : Sem Bool := do
 let (a, b) := ((← behindNumber a).1, (← behindNumber b).1)
 if a.block == b.block && a.block < (← program).globals.size then return (← byteOf a) == (← byteOf b)
 let .named "sync.copyChecker" _ := (← typeInfo t).desc | unsupported .addressObserved
 if a == b then pure true else unsupported .addressObserved
theorem Sim.intPtr {t : TypeId} (okc : ∀ i, (⟨C.tb, #[]⟩ : Program).info? t = some i → isCC i.desc = false) {a a' b b' : Addr} (ab : AR C r a a') (cd : AR C r b b') :
  Sim C r (fun _ u v => u = v ∧ ¬ (C.RO a.block ∧ C.RO b.block)) (Rn.intPtr t a b) (Rn.intPtr t a' b') := by
 unfold Rn.intPtr
 refine Sim.bind (Sim.behind ab) ?_
 rintro r2 ⟨a1, l1⟩ ⟨b1, l1'⟩ h2 ⟨ab1, e1, q1⟩
 refine Sim.bind (Sim.behind (cd.mono h2)) ?_
 rintro r3 ⟨a2, l2⟩ ⟨b2, l2'⟩ h3 ⟨ab2, e2, _⟩
 have ab1 := ab1.mono h3
 refine Sim.given fun hw => ?_
 refine Sim.bind Sim.program ?_
 rintro r4 p q h4 ⟨rfl, rfl⟩
 have rest : Never C.Px (typeInfo t >>= fun i => match i.desc with
   | .named "sync.copyChecker" _ => if (a1 == a2) = true then Pure.pure true else unsupported .addressObserved
   | _ => unsupported .addressObserved) := by
  refine ⟨fun w es x w' es' e => ?_, NI.bind NI.info fun i => ?_⟩
  ·unfold typeInfo at e
   change ((match C.Px.info? t with | some i => Pure.pure i | none => stuck "no such type") >>= fun i : TypeInfo => match i.desc with
    | .named "sync.copyChecker" _ => if (a1 == a2) = true then Pure.pure true else unsupported .addressObserved
    | _ => unsupported .addressObserved : Sem Bool).runT C.Px w es = _ at e
   have hi : C.Px.info? t = (⟨C.tb, #[]⟩ : Program).info? t := rfl
   rw [hi] at e
   cases hi' : (⟨C.tb, #[]⟩ : Program).info? t with
   | none => rw [hi'] at e; cases e
   | some i =>
    rw [hi'] at e
    have ok := okc i hi'
    change (match i.desc with
     | .named "sync.copyChecker" _ => if (a1 == a2) = true then Pure.pure true else unsupported .addressObserved
     | _ => unsupported .addressObserved : Sem Bool).runT C.Px w es = _ at e
    revert e ok
    generalize i.desc = dd
    intro ok e
    split at e
    ·simp [isCC] at ok
    ·cases e
  ·split
   ·exact NI.ite NI.pure NI.halt
   ·exact NI.halt
 by_cases hr : C.RO a1.block ∨ C.RO a2.block
 ·have : (a1.block == a2.block && decide (a1.block < C.Px.globals.size)) = false := by
   rw [Bool.and_eq_false_imp]
   intro he
   rw [beq_iff_eq] at he
   have hra : C.RO a1.block := hr.elim id (fun h => by rw [he]; exact h)
   exact decide_eq_false (glob_ro hw ab1 hra)
  dsimp only
  rw [this]
  exact Sim.never rest
 have hr1 : ¬ C.RO a1.block := fun h => hr (.inl h)
 have hr2 : ¬ C.RO a2.block := fun h => hr (.inr h)
 have e : (b1.block == b2.block && decide (b1.block < C.P.globals.size)) = (a1.block == a2.block && decide (a1.block < C.Px.globals.size)) := by rw [block_iff hw ab1 ab2 (fun x => hr1 x.1), glob_iff hw ab1 hr1]
 dsimp only at e ⊢
 rw [e]
 split
 ·refine Sim.bind (Sim.byteOf (ab1.mono h4) hr1) ?_
  rintro r5 u _ h5 rfl
  refine Sim.bind (Sim.byteOf ((ab2.mono h4).mono h5) hr2) ?_
  rintro r6 u' _ h6 rfl
  exact Sim.pure ⟨rfl, fun hh => by cases q1 hh.1; exact hr1 hh.1⟩
 ·exact Sim.never rest
theorem alike_C : ∀ (n : Nat) (t u : TypeId), C.Px.alikeButTags n t u = C.P.alikeButTags n t u
 | 0, _, _ => rfl
 | n + 1, t, u => by
  have ih : C.Px.alikeButTags n = C.P.alikeButTags n := by funext t u; exact alike_C n t u
  simp only [Program.alikeButTags, ih]
  rfl
theorem held_C (t : TypeId) : C.Px.stoodInHeld t = C.P.stoodInHeld t := by
 have h : C.Px.stoodInAs t = C.P.stoodInAs t := by
  have ih : C.Px.alikeButTags C.Px.depth = C.P.alikeButTags C.P.depth := by funext t u; exact alike_C _ t u
  simp only [Program.stoodInAs, ih]
  rfl
 simp only [Program.stoodInHeld, h]
 rfl
theorem guard_tb (tb : Tables) (f g : Array Func) : ∀ (d : Nat) (t : TypeId), (⟨tb, f⟩ : Program).eqGuardType d t = (⟨tb, g⟩ : Program).eqGuardType d t
 | 0, _ => rfl
 | n + 1, t => by
  have ih : (⟨tb, f⟩ : Program).eqGuardType n = (⟨tb, g⟩ : Program).eqGuardType n := by funext t; exact guard_tb tb f g n t
  simp only [Program.eqGuardType, ih]
  rfl
theorem Sim.equalIn : ∀ (d n : Nat) {t : TypeId} {r : Ren} {x x' y y' : Value}, eqOk C.tb n t = true → VR C r x x' → VR C r y y' → Sim C r (fun _ a b => a = b) (Op.equalIn d t x y) (Op.equalIn d t x' y')
 | 0, n, t, r, x, x', y, y', ok, h, k => Sim.halt
 | d + 1, 0, t, r, x, x', y, y', ok, h, k => by cases ok
 | d + 1, n + 1, t, r, x, x', y, y', ok, h, k => by
  unfold Op.equalIn
  refine Sim.bind (Sim.under t) ?_
  rintro r1 ds _ h1 ⟨rfl, hd⟩
  have hd' : (⟨C.tb, #[]⟩ : Program).underlying t = some ds := hd
  simp only [eqOk, hd'] at ok
  replace h := h.mono h1
  replace k := k.mono h1
  cases ds with
  | bool => cases h <;> first | exact Sim.halt | (cases k <;> first | exact Sim.halt | exact Sim.pure rfl)
  | int ik =>
   cases h with
   | int a n =>
    cases k with
    | int b m =>
     dsimp only
     split
     ·exact Sim.pure rfl
     ·exact Sim.halt
    | ptr ab => obtain (_ | n) | n := n <;> first | exact Sim.pure rfl | exact Sim.halt
    | _ => exact Sim.halt
   | ptr ab =>
    cases k with
    | int b m => obtain (_ | m) | m := m <;> first | exact Sim.pure rfl | exact Sim.halt
    | ptr cd =>
     refine (Sim.intPtr (t := t) (fun i hi => ?_) ab cd).mono fun r' u v _ h => h.1
     have hi' : (⟨C.tb, #[]⟩ : Program).info? t = some i := hi
     simp only [hi', Bool.not_eq_true'] at ok
     exact ok
    | _ => exact Sim.halt
   | ptr0 => cases k <;> exact Sim.halt
   | _ => cases k <;> exact Sim.halt
  | slice e =>
   cases h with
   | sl0 a b => cases k <;> first | exact Sim.pure rfl | exact Sim.halt
   | sl a b ab => cases k <;> first | exact Sim.pure rfl | exact Sim.halt
   | _ => cases k <;> exact Sim.halt
  | struct fields =>
   cases h with
   | agg e1 g1 =>
    cases k with
    | agg e2 g2 =>
     refine Sim.bind Sim.program ?_
     rintro r2 p q h2 ⟨rfl, rfl⟩
     dsimp only
     rw [held_C t]
     split
     ·exact Sim.never (Never.bind_left Never.halt)
     ·rw [← Array.forIn_toList, ← Array.forIn_toList]
      refine Sim.bind (Sim.forInL (R := fun _ a b => a = b) (fun _ _ _ _ _ e => e) (l := fields.toList) rfl ?_) ?_
      ·rintro r3 f b _ hf h3 rfl
       split
       ·rename_i hn
        have v1 : VAll C r3 _ _ := ((VAll.mk e1 g1 : VAll C r1 _ _).mono h2).mono h3
        have v2 : VAll C r3 _ _ := ((VAll.mk e2 g2 : VAll C r1 _ _).mono h2).mono h3
        refine Sim.bind (Sim.part v1 _ _) ?_
        intro r4 u u' h4 hu
        refine Sim.bind (Sim.part (v2.mono h4) _ _) ?_
        intro r5 z z' h5 hz
        refine Sim.bind (Sim.equalIn d n (List.all_eq_true.1 ok f hf) (hu.mono h5) hz) ?_
        rintro r6 bb _ h6 rfl
        split
        ·exact Sim.pure (.inr ⟨_, _, rfl, rfl, rfl⟩)
        ·exact Sim.pure (.inl ⟨_, _, rfl, rfl, rfl⟩)
       ·exact Sim.pure (.inl ⟨_, _, rfl, rfl, rfl⟩)
      ·rintro r3 z _ h3 rfl
       split <;> exact Sim.pure rfl
    | _ => exact Sim.halt
   | _ => cases k <;> exact Sim.halt
  | _ => cases ok
def guardOk (tb : Tables) (t : TypeId) : Bool := !((⟨tb, #[]⟩ : Program).eqGuardType (⟨tb, #[]⟩ : Program).depth t)
theorem Sim.eqGuard {t : TypeId} (ok : guardOk C.tb t = true) (op : BinOp) (xo yo : Operand) {x x' y y' : Value} (h : VR C r x x') (k : VR C r y y') :
  Sim C r (fun _ _ _ => True) (Go.eqGuard op t xo yo x y) (Go.eqGuard op t xo yo x' y') := by
 have e1 : C.Px.eqGuardType C.Px.depth t = false := by
  have := guard_tb C.tb C.fx #[] C.Px.depth t
  rw [show C.Px.eqGuardType C.Px.depth t = (⟨C.tb, C.fx⟩ : Program).eqGuardType C.Px.depth t from rfl, this]
  show (⟨C.tb, #[]⟩ : Program).eqGuardType (⟨C.tb, #[]⟩ : Program).depth t = false
  simpa [guardOk] using ok
 have e2 : C.P.eqGuardType C.P.depth t = false := by
  have := guard_tb C.tb C.fs #[] C.P.depth t
  rw [show C.P.eqGuardType C.P.depth t = (⟨C.tb, C.fs⟩ : Program).eqGuardType C.P.depth t from rfl, this]
  show (⟨C.tb, #[]⟩ : Program).eqGuardType (⟨C.tb, #[]⟩ : Program).depth t = false
  simpa [guardOk] using ok
 have agg : ∀ (op : BinOp) (xs ys xs' ys' : Array Value), op = .eql ∨ op = .neq → Sim C r (fun _ _ _ => True) (Go.eqGuard op t xo yo (.agg xs) (.agg ys)) (Go.eqGuard op t xo yo (.agg xs') (.agg ys')) := by
  intro op xs ys xs' ys' ho
  rcases ho with rfl | rfl <;> unfold Go.eqGuard <;> simp only [Bool.not_true, Bool.false_eq_true, if_false]
  all_goals
   refine Sim.bind Sim.program ?_
   rintro r1 p q h1 ⟨rfl, rfl⟩
   refine Sim.bind Sim.program ?_
   rintro r2 p q h2 ⟨rfl, rfl⟩
   rw [e1, e2]
   exact Sim.pure trivial
 cases op with
 | eql => cases h <;> cases k <;> first | exact agg _ _ _ _ _ (.inl rfl) | exact Sim.pure trivial
 | neq => cases h <;> cases k <;> first | exact agg _ _ _ _ _ (.inr rfl) | exact Sim.pure trivial
 | _ => exact Sim.pure trivial
theorem Sim.eqGuard' {t : TypeId} (op : BinOp) (ho : op ≠ .eql ∧ op ≠ .neq) (xo yo : Operand) {x x' y y' : Value} : Sim C r (fun _ _ _ => True) (Go.eqGuard op t xo yo x y) (Go.eqGuard op t xo yo x' y') := by
 cases op with
 | eql => exact absurd rfl ho.1
 | neq => exact absurd rfl ho.2
 | _ => exact Sim.pure trivial
theorem Sim.equal {n : Nat} {t : TypeId} {x x' y y' : Value} (ok : eqOk C.tb n t = true) (h : VR C r x x') (k : VR C r y y') : Sim C r (fun _ a b => a = b) (Op.equal t x y) (Op.equal t x' y') := Sim.equalIn Op.maxDepth n ok h k
def isEq : BinOp → Bool
 | .eql | .neq => true
 | _ => false
theorem Sim.movedPointer (t : TypeId) {x x' y y' : Value} (h : VR C r x x') (k : VR C r y y') : Sim C r (VR C) (Go.movedPointer t x y) (Go.movedPointer t x' y') := by
 unfold Go.movedPointer
 cases h with
 | ptr ab =>
  refine Sim.bind (Sim.numberAt ab.1) ?_
  rintro r1 u v h1 ⟨huv, _⟩
  match u, v, huv with
  | none, none, _ => exact Sim.unsafeAdd t (.ptr (ab.mono h1)) (k.mono h1)
  | some _, some _, _ => exact Sim.never (Never.bind_left Never.halt)
 | ptr0 => exact Sim.unsafeAdd t .ptr0 k
 | _ => exact Sim.halt
theorem Sim.ptrAdd (t : TypeId) {x x' y y' : Value} (h : VR C r x x') (k : VR C r y y') :
  Sim C r (VR C) (underlying t >>= fun d => if (match d with | .unsafePointer => true | _ => false) then Go.movedPointer t x y else Go.movedNumber t x y)
   (underlying t >>= fun d => if (match d with | .unsafePointer => true | _ => false) then Go.movedPointer t x' y' else Go.movedNumber t x' y') := by
 refine Sim.bind (Sim.under t) ?_
 rintro r1 d _ h1 ⟨rfl, _⟩
 cases d <;> first | exact Sim.movedPointer t (h.mono h1) (k.mono h1) | exact Sim.movedNumber t (h.mono h1) (k.mono h1)
theorem Sim.two {α : Type} {Q : Ren → α → α → Prop} {a a' b b' : Addr} (h : AR C r a a') (k : AR C r b b') {f : Addr → Addr → Sem α} (hf : ∀ r' x x' y y', AR C r' x x' → AR C r' y y' → Sim C r' Q (f x y) (f x' y')) :
  Sim C r Q (behindNumber a >>= fun u => behindNumber b >>= fun v => f u.1 v.1) (behindNumber a' >>= fun u => behindNumber b' >>= fun v => f u.1 v.1) := by
 refine Sim.bind (Sim.behind h) ?_
 rintro r1 u u' h1 ⟨hu, _, _⟩
 refine Sim.bind (Sim.behind (k.mono h1)) ?_
 rintro r2 v v' h2 ⟨hv, _, _⟩
 exact hf r2 _ _ _ _ (hu.mono h2) hv
theorem Sim.ptrMod (k : IntKind) {a a' : Addr} (h : AR C r a a') (n : Int) : Sim C r (VR C) (behindNumber a >>= fun u => Op.addrMod k u.1 n) (behindNumber a' >>= fun u => Op.addrMod k u.1 n) := by
 refine Sim.bind (Sim.behind h) ?_
 rintro r1 u u' h1 ⟨hu, _, _⟩
 exact Sim.addrMod k hu n
theorem Sim.binInt (op : BinOp) (t : TypeId) (k k' : IntKind) (a b : Int) : Sim C r (VR C) (Go.binOp op t (.int k a) (.int k' b)) (Go.binOp op t (.int k a) (.int k' b)) := by
 cases op
 case shl => exact Sim.shift .shl k a k' b
 case shr => exact Sim.shift .shr k a k' b
 all_goals
  unfold Go.binOp
  dsimp only
  split
  ·exact Sim.halt
  ·first | exact Sim.intArith _ _ _ _ | exact Sim.intDiv _ _ _ _ | exact Sim.intBits _ _ _ _ | exact Sim.intCmp _ _ _
set_option maxHeartbeats 4000000 in
theorem Sim.binOp {n : Nat} (op : BinOp) {t : TypeId} (ok : isEq op = true → eqOk C.tb n t = true) {x x' y y' : Value} (h : VR C r x x') (k : VR C r y y') : Sim C r (VR C) (Go.binOp op t x y) (Go.binOp op t x' y') := by
 have eqs : ∀ b : Bool, isEq op = true → Sim C r (VR C) (Op.equal t x y >>= fun z => Pure.pure (.bool (if b then z else !z))) (Op.equal t x' y' >>= fun z => Pure.pure (.bool (if b then z else !z))) := by
  intro b ho
  refine Sim.bind (Sim.equal (ok ho) h k) ?_
  rintro r1 z _ h1 rfl
  exact Sim.pure (.bool _)
 cases h with
 | int a n =>
  cases k with
  | int b m => exact Sim.binInt op t _ _ _ _
  | ptr0 =>
   cases op <;> first | exact Sim.halt | exact eqs true rfl | exact eqs false rfl | exact Sim.movedNumber t .ptr0 (.int _ _)
  | ptr cd =>
   cases op <;> first | exact Sim.halt | exact eqs true rfl | exact eqs false rfl | exact Sim.movedNumber t (.ptr cd) (.int _ _) | exact Sim.ptrMod _ cd _
  | _ => cases op <;> first | exact Sim.halt | exact eqs true rfl | exact eqs false rfl
 | ptr0 =>
  cases k with
  | int b m => cases op <;> first | exact Sim.halt | exact eqs true rfl | exact eqs false rfl | exact Sim.ptrAdd t .ptr0 (.int _ _) | exact Sim.movedNumber t .ptr0 (.int _ _)
  | _ => cases op <;> first | exact Sim.halt | exact eqs true rfl | exact eqs false rfl
 | ptr ab =>
  cases k with
  | int b m => cases op <;> first | exact Sim.halt | exact eqs true rfl | exact eqs false rfl | exact Sim.ptrAdd t (.ptr ab) (.int _ _) | exact Sim.movedNumber t (.ptr ab) (.int _ _) | exact Sim.ptrMod _ ab _
  | ptr cd => cases op <;> first | exact Sim.halt | exact eqs true rfl | exact eqs false rfl | exact Sim.two ab cd (f := Op.addrSub .u64) (fun r' _ _ _ _ u v => Sim.addrSub .u64 u v) | exact Sim.two ab cd (f := Op.addrCmp _) (fun r' _ _ _ _ u v => Sim.addrCmp _ u v)
  | _ => cases op <;> first | exact Sim.halt | exact eqs true rfl | exact eqs false rfl
 | _ => cases k <;> cases op <;> first | exact Sim.halt | exact eqs true rfl | exact eqs false rfl
end
end Rn
end Go.Proofs.YtbpnbhemdbgmjaaGreat
