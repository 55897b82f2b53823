/-
  Texts that the law stands on, part 25.
-/
import Derived.Test.YtbpnbhemdbgmjaaGreatM1
import Derived.Test.YtbpnbhemdbgmjaaGreatM11
import Derived.Test.YtbpnbhemdbgmjaaGreatM13
import Derived.Test.YtbpnbhemdbgmjaaGreatM18
import Derived.Test.YtbpnbhemdbgmjaaGreatM19
import Derived.Test.YtbpnbhemdbgmjaaGreatM21
import Derived.Test.YtbpnbhemdbgmjaaGreatM24
import Derived.Deep.RegionLaw
import Derived.Deep.DeepCutAuto
import Derived.WalkKit
import Derived.Outline
import Derived.Deep.QuietTactic
import Derived.BigQuiet
import Derived.IntWalk
import Derived.Maps.OwnOps
import Derived.Maps.OwnSet
import Derived.Maps.Views
section
namespace Go.Proofs.YtbpnbhemdbgmjaaGreat.Rn
open Go.Conc
set_option linter.unusedVariables false
set_option linter.unusedSimpArgs false
noncomputable def lworld (noT : TypeId) (ws : List Win) (v : World) : World := { v with heap := (Array.replicate Tryz.prog.globals.size (Obj.map #[] 0)) ++ (ws.map fun x => Obj.cells x.cells noT (0, x.cells.size)).toArray }
def lR (ws : List Win) : Ren := fun a b => ∃ (i : Nat) (x : Win), ws[i]? = some x ∧ x.live = true ∧ a = Tryz.prog.globals.size + i ∧ b = x.blk
section
variable {noT : TypeId} {ws : List Win} {v : World}
theorem l_size : (lworld noT ws v).heap.size = Tryz.prog.globals.size + ws.length := by
  show ((Array.replicate Tryz.prog.globals.size (Obj.map #[] 0)) ++ (ws.map fun x => Obj.cells x.cells noT (0, x.cells.size)).toArray).size = _
  simp
theorem l_at {i : Nat} {x : Win} (h : ws[i]? = some x) : (lworld noT ws v).heap[Tryz.prog.globals.size + i]? = some (.cells x.cells noT (0, x.cells.size)) := by
  show ((Array.replicate Tryz.prog.globals.size (Obj.map #[] 0)) ++ (ws.map fun x => Obj.cells x.cells noT (0, x.cells.size)).toArray)[Tryz.prog.globals.size + i]? = _
  rw [Array.getElem?_append, if_neg (by simp)]
  simp [h]
def WinsOk (noT : TypeId) (ws : List Win) (v : World) : Prop := ∀ (i : Nat) (x : Win), ws[i]? = some x → x.live = true → ∃ c' t' z', v.heap[x.blk]? = some (.cells c' t' z') ∧ ∀ (k : Nat) u, x.cells[k]? = some u → ∃ u', c'[k + x.off]? = some u' ∧ VR (gctx noT ws) (lR ws) u u'
theorem l_wr (hno : Tryz.prog.toTables.info? noT = none) (hG : Tryz.prog.globals.size ≤ v.heap.size) (h : WinsOk noT ws v) : WR (gctx noT ws) (lR ws) (lworld noT ws v) v where
  lt := by
    rintro a b ⟨i, x, hi, hl, rfl, rfl⟩
    obtain ⟨c', t', z', k, _⟩ := h i x hi hl
    exact ⟨by rw [l_size]; have := (List.getElem?_eq_some_iff.1 hi).1; omega, (Array.getElem?_eq_some_iff.1 k).1⟩
  fn := by
    rintro a b b' ⟨i, x, hi, _, rfl, rfl⟩ ⟨i', x', hi', _, e, rfl⟩
    obtain rfl : i = i' := by omega
    rw [hi] at hi'; cases hi'; rfl
  inj := by
    rintro a a' b ⟨i, x, hi, _, rfl, _⟩ ⟨i', x', hi', _, rfl, _⟩
    have := (List.getElem?_eq_some_iff.1 hi).1
    have := (List.getElem?_eq_some_iff.1 hi').1
    exact .inr ⟨⟨by omega, by omega⟩, ⟨by omega, by omega⟩⟩
  obj := by
    rintro a b ⟨i, x, hi, _, rfl, _⟩ hr
    have := (List.getElem?_eq_some_iff.1 hi).1
    exact absurd (show (gctx noT ws).RO _ from ⟨by omega, by omega⟩) hr
  win := by
    rintro a b ⟨i, x, hi, hl, rfl, rfl⟩ hr
    obtain ⟨c', t', z', k, hk⟩ := h i x hi hl
    have hlt := (List.getElem?_eq_some_iff.1 hi).1
    refine ⟨x.cells, x.cells.size, c', t', z', l_at hi, Nat.le_refl _, k, fun j u hu => ?_⟩
    have e : (gctx noT ws).sh (Tryz.prog.globals.size + i) = x.off := by
      show (if Tryz.prog.globals.size ≤ Tryz.prog.globals.size + i ∧ Tryz.prog.globals.size + i < Tryz.prog.globals.size + ws.length then ((ws[Tryz.prog.globals.size + i - Tryz.prog.globals.size]?).map (·.off)).getD 0 else 0) = _
      rw [if_pos ⟨by omega, by omega⟩, Nat.add_sub_cancel_left, hi]
      rfl
    rw [e]
    exact hk j u hu
  winG := by rintro a b ⟨i, x, hi, _, rfl, _⟩ _; exact Nat.le_add_right _ _
  glob := by
    rintro a b ⟨i, x, hi, _, rfl, _⟩ hr
    have := (List.getElem?_eq_some_iff.1 hi).1
    exact absurd (show (gctx noT ws).RO _ from ⟨by omega, by omega⟩) hr
  big := ⟨by rw [l_size]; exact Nat.le_add_right _ _, hG⟩
  shz := by
    intro a hr
    show (if Tryz.prog.globals.size ≤ a ∧ a < Tryz.prog.globals.size + ws.length then _ else 0) = 0
    rw [if_neg (show ¬ (Tryz.prog.globals.size ≤ a ∧ a < Tryz.prog.globals.size + ws.length) from hr)]
  roLt := by rintro a ⟨_, h2⟩; rw [l_size]; exact h2
  noInfo := hno
theorem calm0 (g : Goroutine) (w : World) : Calm Tryz.prog (fun _ => False) #[g] w #[] where
  old := fun i x hi hx => by
    have := (Array.getElem?_eq_some_iff.1 hx).1
    simp at this
    omega
  above := fun k _ => rfl
  past := ⟨fun said ⟨i, j, h⟩ => by
    obtain ⟨_, ⟨a, b, ha, _⟩, _⟩ := h
    simp [Trace.act?] at ha, fun i a ha => by simp [touchAt, Trace.act?] at ha, fun i g hg => by simp [Trace.g?] at hg, rfl⟩
  seen := fun op hop => by simp at hop
  norel := fun op hop => by simp at hop
  sb := fun b h => h.elim
theorem engine (hno : Tryz.prog.toTables.info? noT = none) {f0 : Nat} (hf0 : lawF f0 = true) (hi0 : Tryz.prog.inits.idxOf? f0 = none) {largs args : Array Value} (hG : Tryz.prog.globals.size ≤ v.heap.size) (hws : WinsOk noT ws v) (hargs : VAll (gctx noT ws) (lR ws) largs args)
    (hcalls : ∀ t d, Calls Tryzx.prog f0 largs ((lworld noT ws v).tp t d) fun e _ => e = .returned (.bool true)) :
    ∃ M last o w' t', runNT Tryz.prog (M + 1) (solo (G (Frame.enter Tryz.prog f0 args .normal) []) v) #[] = (.ended o w', t') ∧ runN Tryz.prog M (solo (G (Frame.enter Tryz.prog f0 args .normal) []) v) = .next last ∧ step Tryz.prog last = .ended o w' ∧
      Go.Conc.Good Tryz.prog (fun y w' => y = .bool true ∧ Stays (fun b => b < v.heap.size) v w') last o w' t' := by
  have hR0 : ∀ t d, ∃ K x w' fr, runN Tryzx.prog K (St.at ⟨Frame.enter Tryzx.prog f0 largs .normal, [Xb], lworld noT ws v⟩ t d) = .next (lone fr [Xb] w') ∧ x = .bool true ∧ fr.fn = f0 ∧ fr.leaving Tryzx.prog w' (.returned x) := fun t d => by
    obtain ⟨e, w', fr, rfl, ⟨K, hK⟩, h1, h2⟩ := hcalls t d [Xb]
    exact ⟨K, _, w', fr, hK, rfl, h1, h2⟩
  have hres : Res Tryzx.prog (fun b x w => b = false ∧ x = .bool true) ⟨Frame.enter Tryzx.prog f0 largs .normal, [Xb], lworld noT ws v⟩ := fun t d => by
    obtain ⟨K, x, w', fr, h1, h2, _, h3⟩ := hR0 t d
    exact ⟨K, false, x, w', fr, h1, ⟨rfl, h2⟩, .inl ⟨rfl, h3⟩⟩
  have hwr := l_wr hno hG hws
  have hfr := enter_FrR (C := gctx noT ws) (gfine hf0) hargs
  rw [solo_eq_crowd]
  have hpost : ∀ (r : Ren) (w : World) (x : Value) (u : World) (y : Value), VR (gctx noT ws) r x y → x = .bool true → Stays (fun b => b < v.heap.size) v u → y = .bool true ∧ Stays (fun b => b < v.heap.size) v u := fun r w x u y hv hx hst => by
    subst hx
    cases hv
    exact ⟨rfl, hst⟩
  have hnew : ∀ a b, lR ws a b → ¬ (gctx noT ws).RO a → v.heap.size ≤ b := fun a b ab hr => by
    obtain ⟨i, x, hi, _, rfl, _⟩ := ab
    have := (List.getElem?_eq_some_iff.1 hi).1
    exact absurd (show (gctx noT ws).RO _ from ⟨by omega, by omega⟩) hr
  exact engine_loop (noT := noT) (ws := ws) hno (R := fun x _ => x = .bool true) hR0 hi0 v hpost _ hres.acc none (Path.refl _ _) hfr (LR.nil) hwr (calm0 _ _) rfl (fun a b _ h => h) hnew (.refl _ _)
end
end Go.Proofs.YtbpnbhemdbgmjaaGreat.Rn
end
section
namespace Go.Proofs.YtbpnbhemdbgmjaaGreat.Rn
open Go.Conc Go.WideShapes
set_option linter.unusedVariables false
set_option linter.unusedSimpArgs false
def AtCells (v : World) (A : Option Addr) : Prop := ∀ a, A = some a → a.spot = none ∧ ∃ c t z, v.heap[a.block]? = some (.cells c t z)
section
variable {P : Program} {w : World} {r : Reach} {base : Nat} {t e u : TypeId} {fs : Array Field} {A : Option Addr} {n c : Nat}
theorem has_cells {a : Addr} {k : Nat} (h : World.has P w r base a e k) : a.spot = none ∧ ∃ c t z, w.heap[a.block]? = some (.cells c t z) := by
  obtain ⟨_, h1, row, cells, h2, _⟩ := h
  refine ⟨h1, ?_⟩
  unfold World.shape? at h2
  split at h2
  · rename_i c el z h; exact ⟨_, _, _, h⟩
  · cases h2
theorem cell_atCells (ht : P.underlying t = some (.slice e)) (h : Cell.okWide P w r base t (.slice A n c)) : AtCells w A := by
  intro a ha; subst ha
  simp only [Cell.okWide, ht, Cell.ok] at h
  exact has_cells h.2.2
theorem hold_atCells (ht : P.underlying t = some (.struct fs)) (hc : P.cellTypes P.depth t = some [u]) (hu : P.underlying u = some (.slice e)) (h : Value.okWide P w r base t (.agg #[.slice A n c])) : AtCells w A := by
  simp only [Value.okWide, ht] at h
  obtain ⟨cs, e1, _, ts, h2, _, h3⟩ := h
  cases e1
  rw [hc] at h2; cases h2
  obtain ⟨u', hu', h4⟩ := h3 0 _ rfl
  simp at hu'; subst hu'
  exact cell_atCells hu h4
end
noncomputable def winOf (k : IntKind) (A : Option Addr) (m : Nat) (zs : List Int) : Win := match A with
  | none => ⟨false, 0, 0, #[]⟩
  | some a => ⟨true, a.block, a.off, ((List.range m).map fun i => Value.int k (nth zs i)).toArray⟩
noncomputable def lA (A : Option Addr) (i : Nat) : Option Addr := match A with | none => none | some _ => some ⟨Tryz.prog.globals.size + i, 0, none⟩
section
variable {noT : TypeId} {ws : List Win} {v : World} {B K n i : Nat} {A : Option Addr} {zs : List Int}
def WinOk (noT : TypeId) (ws : List Win) (v : World) (x : Win) : Prop := x.live = true → ∃ c' t' z', v.heap[x.blk]? = some (.cells c' t' z') ∧ ∀ (k : Nat) u, x.cells[k]? = some u → ∃ u', c'[k + x.off]? = some u' ∧ VR (gctx noT ws) (lR ws) u u'
theorem winOf_ok (hat : AtCells v A) (h : RecsAt v B K A n zs) : WinOk noT ws v (winOf .i64 A (n * K) zs) := by
  cases A with
  | none => intro hl; cases hl
  | some a =>
    intro _
    obtain ⟨hs, c, t, z, hh⟩ := hat a rfl
    refine ⟨c, t, z, hh, fun k u hu => ?_⟩
    have hk : k < n * K := by
      have := (Array.getElem?_eq_some_iff.1 hu).1
      simpa [winOf] using this
    have hn : 0 < n := by
      rcases Nat.eq_zero_or_pos n with e | e
      · rw [e, Nat.zero_mul] at hk; omega
      · exact e
    have hu' : u = .int .i64 (nth zs k) := by
      simp [winOf, hk] at hu
      exact hu.symm
    subst hu'
    obtain ⟨b, off, e, _, hc⟩ := h.2 hn
    cases e
    have := hc k hk
    simp only [World.cell?, hh, Option.isSome_none, Bool.false_eq_true, if_false] at this
    exact ⟨_, by rw [Nat.add_comm]; exact this, .int _ _⟩
theorem winsOk_nil : WinsOk noT ws v ↔ ∀ x ∈ ws, WinOk noT ws v x := by
  refine ⟨fun h x hx => ?_, fun h i x hi => h x (List.mem_of_getElem? hi)⟩
  obtain ⟨i, hi⟩ := List.getElem?_of_mem hx
  exact h i x hi
theorem lone_recs (h : RecsAt v B K A n zs) (hi : ws[i]? = some (winOf .i64 A (n * K) zs)) (t : Tp) (d : Nat) : RecsAt ((lworld noT ws v).tp t d) ((lworld noT ws v).tp t d).heap.size K (lA A i) n zs := by
  refine ⟨h.1, fun hn => ?_⟩
  obtain ⟨b, off, rfl, _, _⟩ := h.2 hn
  refine ⟨Tryz.prog.globals.size + i, 0, rfl, ?_, fun k hk => ?_⟩
  · show _ < (lworld noT ws v).heap.size
    rw [l_size]
    have := (List.getElem?_eq_some_iff.1 hi).1
    omega
  · show (match (lworld noT ws v).heap[Tryz.prog.globals.size + i]? with | some (.cells c _ _) => c[0 + k]? | _ => none) = _
    rw [l_at hi]
    simp [winOf, hk]
theorem vr_slice {k : IntKind} {m c : Nat} (hat : AtCells v A) (hi : ws[i]? = some (winOf k A m zs)) : VR (gctx noT ws) (lR ws) (.slice (lA A i) n c) (.slice A n c) := by
  cases A with
  | none => exact .sl0 _ _
  | some a =>
    refine .sl _ _ ⟨⟨i, _, hi, rfl, rfl, rfl⟩, ?_, (hat a rfl).1⟩
    have hlt := (List.getElem?_eq_some_iff.1 hi).1
    show a.off = 0 + (if Tryz.prog.globals.size ≤ Tryz.prog.globals.size + i ∧ Tryz.prog.globals.size + i < Tryz.prog.globals.size + ws.length then ((ws[Tryz.prog.globals.size + i - Tryz.prog.globals.size]?).map (·.off)).getD 0 else 0)
    rw [if_pos ⟨by omega, by omega⟩, Nat.add_sub_cancel_left, hi]
    simp [winOf]
theorem vr_hold {x y : Value} (h : VR (gctx noT ws) (lR ws) x y) : VR (gctx noT ws) (lR ws) (.agg #[x]) (.agg #[y]) := .aggA (VAll.nil.push h)
theorem stays_below {v w : World} (h : Stays (fun b => b < v.heap.size) v w) : Go.RowKit.Below v.heap.size v w := ⟨h.os, h.tape, h.output, h.size, fun k hk => h.block k hk hk⟩
end
end Go.Proofs.YtbpnbhemdbgmjaaGreat.Rn
end
section
namespace Go.Proofs.Tryzx
theorem ntmps4 : Tryz.f4.ntmps = 27 := Tryz.ntmps4
theorem ntmps26 : Tryz.f26.ntmps = 12 := Tryz.ntmps26
theorem ntmps28 : Tryz.f28.ntmps = 9 := Tryz.ntmps28
theorem ntmps30 : Tryz.f30.ntmps = 11 := Tryz.ntmps30
theorem ntmps79 : Tryz.f79.ntmps = 12 := Tryz.ntmps79
theorem ntmps80 : Tryz.f80.ntmps = 23 := Tryz.ntmps80
theorem ntmps81 : Tryz.f81.ntmps = 27 := Tryz.ntmps81
theorem ntmps124 : Tryz.f124.ntmps = 13 := Tryz.ntmps124
theorem ntmps125 : Tryz.f125.ntmps = 17 := Tryz.ntmps125
theorem ntmps167 : Tryz.f167.ntmps = 11 := Tryz.ntmps167
theorem ntmps168 : Tryz.f168.ntmps = 15 := Tryz.ntmps168
end Go.Proofs.Tryzx
end
section
namespace Go.Proofs.YtbpnbhemdbgmjaaGreat.X
open Go.RowKit
theorem box_setS {w : World} {g : Nat} {t : TypeId} {f : Nat → Value} (v : Value) (h : RowF w g t 1 f) : Box (w.setCell ⟨g, 0, none⟩ v) g v :=
  ⟨by have := (h.set 0 v).cell (i := 0) (by omega); simpa using this, by simpa using h.lt⟩
theorem rowF_new1S (w : World) (u : Value) (t : TypeId) : RowF (w.alloc (.cells #[u] t)) w.heap.size t 1 (fun _ => u) := RowF.of_row (World.rowIs_alloc w #[u] t (fun _ => u) (fun i hi => by simp at hi; subst hi; rfl))
end Go.Proofs.YtbpnbhemdbgmjaaGreat.X
end
section
namespace Go.Proofs.YtbpnbhemdbgmjaaGreat.X
open Go.RowKit
set_option linter.unusedSimpArgs false
theorem l04Cross_any (ax ay bx b_y : Int) (w : World) (ha : ptB ax ay = true) (hb : ptB bx b_y = true) :
    Calls Tryzx.prog 174 #[.agg #[.int .i64 ax, .int .i64 ay], .agg #[.int .i64 bx, .int .i64 b_y]] w fun e w' => e = .returned (.int .i64 (crossI ax ay bx b_y)) ∧ Below w.heap.size w w' := by
  have hcr := crossI_bd ha hb
  unfold crossI at hcr
  rw [ptB_iff] at ha hb
  have hmA := mul_bd (m := 60) (n := 60) (a := ax) (b := b_y) (by omega) (by omega)
  have hmB := mul_bd (m := 60) (n := 60) (a := ay) (b := bx) (by omega) (by omega)
  go_enter Tryzx.func174, Tryz.ntmps174
  go_wp2
  go_ret
  exact ⟨rfl, ((Below.refl _ _).alloc (Nat.le_refl _) _).alloc (by simp) _⟩
set_option maxRecDepth 100000 in
set_option maxHeartbeats 1600000 in
theorem sAreaTwice_any (A : Option Addr) (n c : Nat) (zs : List Int) (w : World) (h : RecsAt w w.heap.size 2 A n zs) (hn : n ≤ 1048576) :
    Calls Tryzx.prog 172 #[.agg #[.slice A n c]] w fun e w' => e = .returned (.int .i64 (overI facOne zs n)) ∧ Below w.heap.size w w' := by
  have HA := Lib.hid ((Below.refl w.heap.size w).alloc (Nat.le_refl _) (.cells #[.slice A n c] 150))
  have H := Lib.hid h
  cases hs : stoneB zs n
  · have HF := Lib.hid (overI_f (F := facOne) hs)
    go_enter Tryzx.func172, Tryz.ntmps172
    go_wp2
    go_loopw [3, 4] (fun s i wr => s = .int .i64 0 ∧ i = .int .i64 0 ∧ wr.cell? ⟨w.heap.size, 0, none⟩ = some (.slice A n c) ∧ Below w.heap.size w wr) (fun _ i _ => n - (intOf i).toNat)
    case atStart => exact ⟨rfl, rfl, cell_new0 _ _ _, HA.out⟩
    case round =>
      clear HA
      obtain ⟨rfl, rfl, hbox, hb⟩ := hrel
      have HB := Lib.hid hb
      by_cases h0 : n = 0
      · subst h0
        clear hb
        go_wp2
        go_ret
        exact ⟨ret_int HF.out.symm, HB.out⟩
      · have hpos : (0 : Int) < (n : Int) := by omega
        have hpos' : 0 < n := by omega
        have r1 := (H.out.below hb).mono hb.size
        clear hb h0
        go_wp2_with fail
        refine (sStoneOk_any _ _ _ zs _ r1).mono ?_
        rw [hs]
        rintro e w1 ⟨rfl, hb1⟩
        have HB1 := Lib.hid (HB.out.trans (hb1.mono HB.out.size))
        clear hb1
        go_wp2
        go_ret
        exact ⟨ret_int HF.out.symm, HB1.out⟩
  · have ho := stoneB_out hs
    have HT := Lib.hid (overI_t (F := facOne) hs)
    have hn3 := ho.1.1
    have hn6 := ho.1.2
    have HPT := Lib.hid ho.2.1
    have HBD := Lib.hid (overTo_bd facOne_ok ho.2.1)
    obtain ⟨b, off, rfl, hbB, hc⟩ := h.2 (by omega)
    have HC := Lib.hid hc
    clear hc h ho
    go_enter Tryzx.func172, Tryz.ntmps172
    go_wp2
    go_loopw [3, 4] (fun s i wr => ∃ j : Nat, j ≤ n ∧ i = .int .i64 j ∧ s = .int .i64 (overTo facOne zs n j) ∧ wr.cell? ⟨w.heap.size, 0, none⟩ = some (.slice (some ⟨b, off, none⟩) n c) ∧ Below w.heap.size w wr) (fun _ i _ => n - (intOf i).toNat)
    case atStart => exact ⟨0, Nat.zero_le _, rfl, rfl, cell_new0 _ _ _, HA.out⟩
    case round =>
      clear HA
      obtain ⟨j, hj, rfl, rfl, hbox, hb⟩ := hrel
      have HB := Lib.hid hb
      have hgl := World.block_lt_of_cell? _ _ hbox
      simp only at hgl
      by_cases hlt : j < n
      · have r0 := (H.out.below hb).mono hb.size
        have hji : (j : Int) < (n : Int) := by omega
        clear hb
        go_wp2_with fail
        refine (sStoneOk_any _ _ _ zs _ r0).mono ?_
        rw [hs]
        rintro e w1 ⟨rfl, hb1⟩
        have hb := HB.out.trans (hb1.mono HB.out.size)
        have hbox1 := (hb1.cell (p := ⟨w.heap.size, 0, none⟩) hgl).trans hbox
        have hgl1 : w.heap.size < w1.heap.size := by have := hb1.size; omega
        have HB1 := Lib.hid hb
        have hm1 : (j + 1) % n < n := Nat.mod_lt _ (by omega)
        obtain ⟨x0, x1⟩ := ptCells (fun i hi => (hb.cell (by exact hbB)).trans (HC.out i hi)) hlt
        obtain ⟨y0, y1⟩ := ptCells (fun i hi => (hb.cell (by exact hbB)).trans (HC.out i hi)) hm1
        have hz1 := hb.size
        clear hb hb1 hbox hgl r0
        have r1 : Int.tmod ((j : Int) + 1) (n : Int) = (((j + 1) % n : Nat) : Int) := rem_nat (j + 1) n
        have hpk := HPT.out j hlt
        have hp1 := HPT.out _ hm1
        have HST := Lib.hid (show overTo facOne zs n (j + 1) = overTo facOne zs n j + part facOne zs j ((j + 1) % n) from rfl)
        have hb0 := HBD.out j (by omega)
        unfold ptA at hpk hp1
        have hcr := crossI_bd hpk hp1
        rw [part_one] at HST
        generalize (j + 1) % n = j1 at *
        generalize overTo facOne zs n j = S at *
        have i1 : IntKind.i64.wrap ((j : Int) + 1) = (j : Int) + 1 := IntWalk.i64_in _ (by omega)
        have i3 : IntKind.i64.wrap (j1 : Int) = (j1 : Int) := IntWalk.i64_in _ (by omega)
        have i6 : (j1 : Int) < (n : Int) := by omega
        have i8 : ¬ n = 0 := by omega
        have i9 : ¬ (n : Int) = 0 := by omega
        have i10 : ((n : Int) == 0) = false := by simp; omega
        have i11 : (0 : Int) ≤ (j : Int) := by omega
        have i12 : (0 : Int) ≤ (j1 : Int) := by omega
        have e5 : IntKind.i64.wrap (S + crossI (nth zs (j * 2)) (nth zs (j * 2 + 1)) (nth zs (j1 * 2)) (nth zs (j1 * 2 + 1))) = S + crossI (nth zs (j * 2)) (nth zs (j * 2 + 1)) (nth zs (j1 * 2)) (nth zs (j1 * 2 + 1)) := IntWalk.i64_in _ (by omega)
        go_wp2
        go_region_held3 (fun w' => w'.cell? ⟨w.heap.size, 0, none⟩ = some (.slice (some ⟨b, off, none⟩) n c) ∧ (w'.cell? ⟨b, off + j * 2, none⟩ = some (.int .i64 (nth zs (j * 2))) ∧ w'.cell? ⟨b, off + j * 2 + 1, none⟩ = some (.int .i64 (nth zs (j * 2 + 1)))) ∧ (w'.cell? ⟨b, off + j1 * 2, none⟩ = some (.int .i64 (nth zs (j1 * 2))) ∧ w'.cell? ⟨b, off + j1 * 2 + 1, none⟩ = some (.int .i64 (nth zs (j1 * 2 + 1))))) (first | (simp [*]; done) | (refine ⟨?_, ⟨?_, ?_⟩, ⟨?_, ?_⟩⟩ <;> (rw [hcc _ _ (by simp <;> omega)]; simp [*]))) ((go_at_call 174; refine (l04Cross_any _ _ _ _ _ hpk hp1).mono ?_; rintro e w2 ⟨rfl, hb2⟩; obtain ⟨hcc, hff⟩ := bcell hb2))
        have HB2 := Lib.hid (HB1.out.drew.trans (hb2.mono (by simp; omega)))
        have hbox2 := (hb2.cell (p := ⟨w.heap.size, 0, none⟩) (by simp; omega)).trans hbox1
        clear hcc hff hb2
        go_wp2
        go_roundw
        case rel => exact ⟨j + 1, by omega, by go_num, by rw [HST.out], hbox2, HB2.out⟩
        case measure => first | (simp [intOf]; done) | (simp [intOf]; omega)
      · obtain rfl : j = n := by omega
        clear hb
        go_wp2
        go_ret
        exact ⟨ret_int HT.out.symm, HB.out⟩
theorem sWeightOf_any (A : Option Addr) (n c : Nat) (zs : List Int) (w : World) (h : RecsAt w w.heap.size 2 A n zs) (hn : n ≤ 1048576) :
    Calls Tryzx.prog 131 #[.agg #[.slice A n c]] w fun e w' => e = .returned (.int .i64 (weightI zs n)) ∧ Below w.heap.size w w' := by
  have HA := Lib.hid ((Below.refl w.heap.size w).alloc (Nat.le_refl _) (.cells #[.slice A n c] 150))
  have H0 : RecsAt (w.alloc (.cells #[.slice A n c] 150)) (w.alloc (.cells #[.slice A n c] 150)).heap.size 2 A n zs := (h.alloc (Nat.le_refl _) _).mono (by simp)
  have hbd := overI_bd facOne_ok zs n
  go_enter Tryzx.func131, Tryz.ntmps131
  go_wp2_with fail
  refine (sAreaTwice_any _ _ _ zs _ H0 hn).mono ?_
  rintro e w1 ⟨rfl, hb1⟩
  have HB1 := Lib.hid (HA.out.trans (hb1.mono (by simp)))
  clear hb1
  go_wp2
  go_ret
  exact ⟨ret_int (by unfold weightI; rfl), HB1.out⟩
end Go.Proofs.YtbpnbhemdbgmjaaGreat.X
end
section
namespace Go.Proofs.YtbpnbhemdbgmjaaGreat.X
open Go.RowKit
set_option linter.unusedSimpArgs false
theorem cell_alloc_lt' {w : World} {o : Obj} {g i : Nat} (h : g < w.heap.size) : (w.alloc o).cell? ⟨g, i, none⟩ = w.cell? ⟨g, i, none⟩ := World.cell?_of_block (a := ⟨g, i, none⟩) (Below.heap_alloc w o g h)
theorem part_facX (zs : List Int) (i j : Nat) : part facX zs i j = (nth zs (i * 2) + nth zs (j * 2)) * crossI (nth zs (i * 2)) (nth zs (i * 2 + 1)) (nth zs (j * 2)) (nth zs (j * 2 + 1)) := rfl
def Two (w : World) (b : Nat) (u v : Value) : Prop := w.cell? ⟨b, 0, none⟩ = some u ∧ w.cell? ⟨b, 1, none⟩ = some v ∧ b < w.heap.size
theorem Two.new (w : World) (u v : Value) (t : TypeId) : Two (w.alloc (.cells #[u, v] t)) w.heap.size u v := by
  have h := World.rowIs_alloc w #[u, v] t (fun i => if i = 0 then u else v) (fun i hi => by simp at hi; match i, hi with | 0, _ => rfl | 1, _ => rfl)
  exact ⟨h.cell (by simp), h.cell (by simp), by simp⟩
theorem Two.alloc {w : World} {b : Nat} {u v : Value} (h : Two w b u v) (o : Obj) : Two (w.alloc o) b u v := ⟨(cell_alloc_lt' h.2.2).trans h.1, (cell_alloc_lt' h.2.2).trans h.2.1, by have := h.2.2; simp; omega⟩
set_option maxRecDepth 100000 in
set_option maxHeartbeats 1600000 in
theorem sMomentOf_any (A : Option Addr) (n c : Nat) (zs : List Int) (w : World) (h : RecsAt w w.heap.size 2 A n zs) (hn : n ≤ 1048576) :
    Calls Tryzx.prog 132 #[.agg #[.slice A n c]] w fun e w' => e = .returned (.int .i64 (overI facX zs n)) ∧ Below w.heap.size w w' := by
  have HA := Lib.hid ((Below.refl w.heap.size w).alloc (Nat.le_refl _) (.cells #[.slice A n c] 150))
  have H := Lib.hid h
  cases hs : stoneB zs n
  · have HF := Lib.hid (overI_f (F := facX) hs)
    go_enter Tryzx.func132, Tryz.ntmps132
    go_wp2
    go_loopw [3, 4] (fun s i wr => s = .int .i64 0 ∧ i = .int .i64 0 ∧ wr.cell? ⟨w.heap.size, 0, none⟩ = some (.slice A n c) ∧ Below w.heap.size w wr) (fun _ i _ => n - (intOf i).toNat)
    case atStart => exact ⟨rfl, rfl, cell_new0 _ _ _, HA.out⟩
    case round =>
      clear HA
      obtain ⟨rfl, rfl, hbox, hb⟩ := hrel
      have HB := Lib.hid hb
      by_cases h0 : n = 0
      · subst h0
        clear hb
        go_wp2
        go_ret
        exact ⟨ret_int HF.out.symm, HB.out⟩
      · have hpos : (0 : Int) < (n : Int) := by omega
        have hpos' : 0 < n := by omega
        have r1 := (H.out.below hb).mono hb.size
        clear hb h0
        go_wp2_with fail
        refine (sStoneOk_any _ _ _ zs _ r1).mono ?_
        rw [hs]
        rintro e w1 ⟨rfl, hb1⟩
        have HB1 := Lib.hid (HB.out.trans (hb1.mono HB.out.size))
        clear hb1
        go_wp2
        go_ret
        exact ⟨ret_int HF.out.symm, HB1.out⟩
  · have ho := stoneB_out hs
    have HT := Lib.hid (overI_t (F := facX) hs)
    have hn3 := ho.1.1
    have hn6 := ho.1.2
    have HPT := Lib.hid ho.2.1
    have HBD := Lib.hid (overTo_bd facX_ok ho.2.1)
    obtain ⟨b, off, rfl, hbB, hc⟩ := h.2 (by omega)
    have HC := Lib.hid hc
    clear hc h ho
    go_enter Tryzx.func132, Tryz.ntmps132
    go_wp2
    go_loopw [3, 4] (fun s i wr => ∃ j : Nat, j ≤ n ∧ i = .int .i64 j ∧ s = .int .i64 (overTo facX zs n j) ∧ wr.cell? ⟨w.heap.size, 0, none⟩ = some (.slice (some ⟨b, off, none⟩) n c) ∧ Below w.heap.size w wr) (fun _ i _ => n - (intOf i).toNat)
    case atStart => exact ⟨0, Nat.zero_le _, rfl, rfl, cell_new0 _ _ _, HA.out⟩
    case round =>
      clear HA
      obtain ⟨j, hj, rfl, rfl, hbox, hb⟩ := hrel
      have HB := Lib.hid hb
      have hgl := World.block_lt_of_cell? _ _ hbox
      simp only at hgl
      by_cases hlt : j < n
      · have r0 := (H.out.below hb).mono hb.size
        have hji : (j : Int) < (n : Int) := by omega
        clear hb
        go_wp2_with fail
        refine (sStoneOk_any _ _ _ zs _ r0).mono ?_
        rw [hs]
        rintro e w1 ⟨rfl, hb1⟩
        have hb := HB.out.trans (hb1.mono HB.out.size)
        have hbox1 := (hb1.cell (p := ⟨w.heap.size, 0, none⟩) hgl).trans hbox
        have hgl1 : w.heap.size < w1.heap.size := by have := hb1.size; omega
        have HB1 := Lib.hid hb
        have hm1 : (j + 1) % n < n := Nat.mod_lt _ (by omega)
        obtain ⟨x0, x1⟩ := ptCells (fun i hi => (hb.cell (by exact hbB)).trans (HC.out i hi)) hlt
        obtain ⟨y0, y1⟩ := ptCells (fun i hi => (hb.cell (by exact hbB)).trans (HC.out i hi)) hm1
        have hz1 := hb.size
        clear hb hb1 hbox hgl r0
        have r1 : Int.tmod ((j : Int) + 1) (n : Int) = (((j + 1) % n : Nat) : Int) := rem_nat (j + 1) n
        have hpk := HPT.out j hlt
        have hp1 := HPT.out _ hm1
        have HST := Lib.hid (show overTo facX zs n (j + 1) = overTo facX zs n j + part facX zs j ((j + 1) % n) from rfl)
        have hb0 := HBD.out j (by omega)
        unfold ptA at hpk hp1
        have hcr := crossI_bd hpk hp1
        have HPB := part_bd facX_ok (zs := zs) (i := j) (j := (j + 1) % n) hpk hp1
        have hx1 := facX_ok _ _ _ _ hpk hp1
        rw [part_facX] at HST HPB
        unfold facX at hx1
        generalize (j + 1) % n = j1 at *
        generalize overTo facX zs n j = S at *
        have i1 : IntKind.i64.wrap ((j : Int) + 1) = (j : Int) + 1 := IntWalk.i64_in _ (by omega)
        have i3 : IntKind.i64.wrap (j1 : Int) = (j1 : Int) := IntWalk.i64_in _ (by omega)
        have i6 : (j1 : Int) < (n : Int) := by omega
        have i8 : ¬ n = 0 := by omega
        have i9 : ¬ (n : Int) = 0 := by omega
        have i10 : ((n : Int) == 0) = false := by simp; omega
        have i11 : (0 : Int) ≤ (j : Int) := by omega
        have i12 : (0 : Int) ≤ (j1 : Int) := by omega
        have e4 : IntKind.i64.wrap (nth zs (j * 2) + nth zs (j1 * 2)) = nth zs (j * 2) + nth zs (j1 * 2) := IntWalk.i64_in _ (by omega)
        have z0 : (w1.alloc (.cells #[.int .i64 (nth zs (j * 2)), .int .i64 (nth zs (j * 2 + 1))] 43)).cell? ⟨w.heap.size, 0, none⟩ = some (.slice (some ⟨b, off, none⟩) n c) := (cell_alloc_lt' (by omega)).trans hbox1
        have z1 : (w1.alloc (.cells #[.int .i64 (nth zs (j * 2)), .int .i64 (nth zs (j * 2 + 1))] 43)).cell? ⟨b, off + j1 * 2, none⟩ = some (.int .i64 (nth zs (j1 * 2))) := (cell_alloc_lt' (by omega)).trans y0
        have z2 : (w1.alloc (.cells #[.int .i64 (nth zs (j * 2)), .int .i64 (nth zs (j * 2 + 1))] 43)).cell? ⟨b, off + j1 * 2 + 1, none⟩ = some (.int .i64 (nth zs (j1 * 2 + 1))) := (cell_alloc_lt' (by omega)).trans y1
        have HB2 := Lib.hid ((HB1.out.alloc hz1 (.cells #[.int .i64 (nth zs (j * 2)), .int .i64 (nth zs (j * 2 + 1))] 43)).drew.alloc (by simp; omega) (.cells #[.int .i64 (nth zs (j1 * 2)), .int .i64 (nth zs (j1 * 2 + 1))] 43))
        have HXA : Hid (Two ((w1.alloc (.cells #[.int .i64 (nth zs (j * 2)), .int .i64 (nth zs (j * 2 + 1))] 43)).drew.alloc (.cells #[.int .i64 (nth zs (j1 * 2)), .int .i64 (nth zs (j1 * 2 + 1))] 43)) w1.heap.size (.int .i64 (nth zs (j * 2))) (.int .i64 (nth zs (j * 2 + 1))) ∧
            Two ((w1.alloc (.cells #[.int .i64 (nth zs (j * 2)), .int .i64 (nth zs (j * 2 + 1))] 43)).drew.alloc (.cells #[.int .i64 (nth zs (j1 * 2)), .int .i64 (nth zs (j1 * 2 + 1))] 43)) (w1.heap.size + 1) (.int .i64 (nth zs (j1 * 2))) (.int .i64 (nth zs (j1 * 2 + 1)))) := by
          have h := Two.new (w1.alloc (.cells #[.int .i64 (nth zs (j * 2)), .int .i64 (nth zs (j * 2 + 1))] 43)).drew (.int .i64 (nth zs (j1 * 2))) (.int .i64 (nth zs (j1 * 2 + 1))) 43
          rw [World.size_drew, World.size_alloc] at h
          exact ⟨(show Two (w1.alloc _).drew _ _ _ from Two.new w1 _ _ _).alloc _, h⟩
        have hbx7 : ((w1.alloc (.cells #[.int .i64 (nth zs (j * 2)), .int .i64 (nth zs (j * 2 + 1))] 43)).drew.alloc (.cells #[.int .i64 (nth zs (j1 * 2)), .int .i64 (nth zs (j1 * 2 + 1))] 43)).cell? ⟨w.heap.size, 0, none⟩ = some (.slice (some ⟨b, off, none⟩) n c) := (cell_alloc_lt' (by simp; omega)).trans z0
        clear y0 y1 HB1
        have e6 : IntKind.i64.wrap ((nth zs (j * 2) + nth zs (j1 * 2)) * crossI (nth zs (j * 2)) (nth zs (j * 2 + 1)) (nth zs (j1 * 2)) (nth zs (j1 * 2 + 1))) = (nth zs (j * 2) + nth zs (j1 * 2)) * crossI (nth zs (j * 2)) (nth zs (j * 2 + 1)) (nth zs (j1 * 2)) (nth zs (j1 * 2 + 1)) := IntWalk.i64_in _ (by omega)
        have e7 : IntKind.i64.wrap (S + (nth zs (j * 2) + nth zs (j1 * 2)) * crossI (nth zs (j * 2)) (nth zs (j * 2 + 1)) (nth zs (j1 * 2)) (nth zs (j1 * 2 + 1))) = S + (nth zs (j * 2) + nth zs (j1 * 2)) * crossI (nth zs (j * 2)) (nth zs (j * 2 + 1)) (nth zs (j1 * 2)) (nth zs (j1 * 2 + 1)) := IntWalk.i64_in _ (by omega)
        clear HPB hx1 hcr hb0
        go_wp2
        go_region_held3 (fun w' => w'.cell? ⟨w.heap.size, 0, none⟩ = some (.slice (some ⟨b, off, none⟩) n c) ∧ w'.cell? ⟨b, off + j1 * 2, none⟩ = some (.int .i64 (nth zs (j1 * 2))) ∧ w'.cell? ⟨b, off + j1 * 2 + 1, none⟩ = some (.int .i64 (nth zs (j1 * 2 + 1))))
          (first | exact ⟨z0, z1, z2⟩ | exact ⟨(cell_alloc_lt' (by simp; omega)).trans z0, (cell_alloc_lt' (by simp; omega)).trans z1, (cell_alloc_lt' (by simp; omega)).trans z2⟩) (fail)
        clear z0 z1 z2 x0 x1
        have a0 := HXA.out.1.1
        have a1 := HXA.out.1.2.1
        have b0 := HXA.out.2.1
        have b1 := HXA.out.2.2.1
        go_wp2
        go_region_held3 (fun w' => w'.cell? ⟨w1.heap.size, 0, none⟩ = some (.int .i64 (nth zs (j * 2))) ∧ w'.cell? ⟨w1.heap.size, 1, none⟩ = some (.int .i64 (nth zs (j * 2 + 1))) ∧ w'.cell? ⟨w1.heap.size + 1, 0, none⟩ = some (.int .i64 (nth zs (j1 * 2))) ∧ w'.cell? ⟨w1.heap.size + 1, 1, none⟩ = some (.int .i64 (nth zs (j1 * 2 + 1))))
          (first | exact ⟨a0, a1, b0, b1⟩ | exact ⟨(hcc _ _ (by first | (simp; done) | (simp; omega))).trans a0, (hcc _ _ (by first | (simp; done) | (simp; omega))).trans a1, (hcc _ _ (by first | (simp; done) | (simp; omega))).trans b0, (hcc _ _ (by first | (simp; done) | (simp; omega))).trans b1⟩)
          ((go_at_call 174; refine (l04Cross_any _ _ _ _ _ hpk hp1).mono ?_; rintro e w2 ⟨rfl, hb2⟩; obtain ⟨hcc, hff⟩ := bcell hb2))
        have HB3 := Lib.hid (HB2.out.drew.trans (hb2.mono (by simp; omega)))
        have hbox2 := (hb2.cell (p := ⟨w.heap.size, 0, none⟩) (by simp; omega)).trans hbx7
        clear hcc hff hb2 a0 a1 b0 b1 hbx7
        go_wp2
        go_roundw
        case rel => exact ⟨j + 1, by omega, by go_num, by rw [HST.out], hbox2, HB3.out⟩
        case measure => first | (simp [intOf]; done) | (simp [intOf]; omega)
      · obtain rfl : j = n := by omega
        clear hb
        go_wp2
        go_ret
        exact ⟨ret_int HT.out.symm, HB.out⟩
end Go.Proofs.YtbpnbhemdbgmjaaGreat.X
end
section
namespace Go.Proofs.YtbpnbhemdbgmjaaGreat
open Go.RowKit
theorem OwnR.weaken {w : World} {base base' : Nat} {E : TypeId} {K n : Nat} {v : Value} {xs : List Int} (h : OwnR w base E K v n xs) (hb : base' ≤ base) : OwnR w base' E K v n xs := by
  refine ⟨⟨h.1.1, ?_⟩, h.2⟩
  rcases h.1.2 with h2 | ⟨g, cap, cur, h1, h2, h3⟩
  · exact .inl h2
  · exact .inr ⟨g, cap, cur, h1, Nat.le_trans hb h2, h3⟩
theorem OwnR.set2 {w : World} {base : Nat} {E : TypeId} {K n : Nat} {v : Value} {xs : List Int} (h : OwnR w base E K v n xs) (p q : Addr) (x y : Value) (hp : p.block < base) (hq : q.block < base) : OwnR ((w.setCell p x).setCell q y) base E K v n xs := by
  refine ⟨⟨h.1.1, ?_⟩, h.2⟩
  rcases h.1.2 with h2 | ⟨g, cap, cur, h1, h2, h3, hr⟩
  · exact .inl h2
  · refine .inr ⟨g, cap, cur, h1, h2, ?_, hr⟩
    rw [Below.heap_setCell _ q y g (by omega), Below.heap_setCell _ p x g (by omega)]
    exact h3
theorem OwnR.ints {w : World} {base : Nat} {E : TypeId} {A : Option Addr} {n c : Nat} {xs : List Int} (h : OwnR w base E 1 (.slice A n c) n xs) : IntsAt w w.heap.size A n xs := by
  have hr := h.recs
  refine ⟨by rw [hr.1, Nat.mul_one], fun hn => ?_⟩
  obtain ⟨b, off, e, hb, hc⟩ := hr.2 hn
  exact ⟨b, off, e, hb, fun k hk => hc k (by omega)⟩
end Go.Proofs.YtbpnbhemdbgmjaaGreat
end
section
namespace Go.Proofs.YtbpnbhemdbgmjaaGreat.X
open Go.RowKit
set_option linter.unusedSimpArgs false
def lwL (zs ls : List Int) (q k : Nat) : List Int := (List.range k).map (leftW zs ls q)
def lmL (zs ls : List Int) (q k : Nat) : List Int := (List.range k).map (leftM zs ls q)
structure LRel (w : World) (zs ls : List Int) (q j : Nat) (va : Value) (v6 v7 : Value) (wr : World) : Prop where
  ws : OwnR wr (w.heap.size + 1) 3 1 v6 j (lwL zs ls q j)
  ms : OwnR wr (w.heap.size + 1) 3 1 v7 j (lmL zs ls q j)
  apart : ApartV v6 v7
  box : RowF wr w.heap.size 26 1 (fun _ => va)
  below : Below w.heap.size w wr
theorem LRel.after {w wr w' : World} {zs ls : List Int} {q j : Nat} {va v6 v7 : Value} (h : LRel w zs ls q j va v6 v7 wr) (hb : Below wr.heap.size wr w') : LRel w zs ls q j va v6 v7 w' :=
  ⟨h.ws.below hb, h.ms.below hb, h.apart, h.box.after hb, h.below.trans (hb.mono h.below.size)⟩
theorem LRel.drew {w wr : World} {zs ls : List Int} {q j : Nat} {va v6 v7 : Value} (h : LRel w zs ls q j va v6 v7 wr) : LRel w zs ls q j va v6 v7 wr.drew := ⟨h.ws, h.ms, h.apart, h.box.drew, below_drewN h.below 1⟩
end Go.Proofs.YtbpnbhemdbgmjaaGreat.X
end
section
namespace Go.Proofs.YtbpnbhemdbgmjaaGreat.X
open Go.RowKit
set_option linter.unusedSimpArgs false
theorem quiet_same' {P : Program} {f : FuncId} {args : Array Value} {w : World} {n : Nat} {v : Value}
    (h : Calls P f args (w.drewN n) fun e w' => e = .returned v ∧ w.drewN n = w') : Calls P f args (w.drewN n) fun e w'' => e = .returned v ∧ ∃ m, w'' = w.drewN m :=
  h.mono fun _ _ ⟨he, hm⟩ => ⟨he, n, hm.symm⟩
theorem quiet_bool {P : Program} {f : FuncId} {args : Array Value} {w : World} {n : Nat} {b b' : Bool}
    (h : Calls P f args (w.drewN n) fun e w' => e = .returned (.bool b) ∧ w.drewN n = w') (e : b = b') : Calls P f args (w.drewN n) fun e w'' => e = .returned (.bool b') ∧ ∃ m, w'' = w.drewN m := by
  subst e; exact quiet_same' h
def ascAt (cs : List Int) (lo hi : Int) (i : Nat) : Bool := inB (nth cs i) lo hi && (decide (i = 0) || decide (nth cs (i - 1) < nth cs i))
def ascTo (cs : List Int) (lo hi : Int) (k : Nat) : Prop := ∀ i, i < k → ascAt cs lo hi i = true
def ascB (cs : List Int) (q : Nat) (lo hi : Int) : Bool := (List.range q).all (ascAt cs lo hi)
theorem ascTo_0 (cs : List Int) (lo hi : Int) : ascTo cs lo hi 0 := fun i hi => absurd hi (by omega)
theorem ascTo_step {cs : List Int} {lo hi : Int} {k : Nat} (h : ascTo cs lo hi k) (e : ascAt cs lo hi k = true) : ascTo cs lo hi (k + 1) := by
  intro i hi
  by_cases hik : i = k
  · subst hik; exact e
  · exact h i (by omega)
theorem ascAt_1 {cs : List Int} {lo hi : Int} {k : Nat} (h : inB (nth cs k) lo hi = false) : ascAt cs lo hi k = false := by simp [ascAt, h]
theorem ascAt_2 {cs : List Int} {lo hi : Int} {k : Nat} (hk : 0 < k) (h : ¬ nth cs (k - 1) < nth cs k) : ascAt cs lo hi k = false := by
  simp [ascAt, h]; intro _; omega
theorem ascAt_3 {cs : List Int} {lo hi : Int} (h : inB (nth cs 0) lo hi = true) : ascAt cs lo hi 0 = true := by simp [ascAt, h]
theorem ascAt_4 {cs : List Int} {lo hi : Int} {k : Nat} (h : inB (nth cs k) lo hi = true) (h' : nth cs (k - 1) < nth cs k) : ascAt cs lo hi k = true := by simp [ascAt, h, h']
theorem ascB_f {cs : List Int} {q : Nat} {lo hi : Int} {k : Nat} (hk : k < q) (h : ascAt cs lo hi k = false) : ascB cs q lo hi = false := by
  rw [ascB, List.all_eq_false]
  exact ⟨k, by simpa using hk, by simp [h]⟩
theorem ascB_t {cs : List Int} {q : Nat} {lo hi : Int} (h : ascTo cs lo hi q) : ascB cs q lo hi = true := by
  rw [ascB, List.all_eq_true]
  exact fun i hi => h i (by simpa using hi)
def carriedB (zs : List Int) (n : Nat) (cs : List Int) (q : Nat) : Bool := archB zs n && ascB cs q 0 ((n : Int) - 2)
theorem carriedB_1 {zs : List Int} {n : Nat} (cs : List Int) (q : Nat) (h : archB zs n = false) : carriedB zs n cs q = false := by simp [carriedB, h]
theorem carriedB_2 (zs : List Int) {n : Nat} {cs : List Int} {q : Nat} (h : ascB cs q 0 ((n : Int) - 2) = false) : carriedB zs n cs q = false := by simp [carriedB, h]
theorem carriedB_3 {zs : List Int} {n : Nat} {cs : List Int} {q : Nat} (h : ascB cs q 0 ((n : Int) - 2) = true) : carriedB zs n cs q = archB zs n := by simp [carriedB, h]
set_option maxHeartbeats 800000 in
theorem ascending_any (lo hi : Int) (B : Option Addr) (q d : Nat) (cs : List Int) (w : World) (hI : IntsAt w w.heap.size B q cs) (hq : q ≤ 1048576) :
    Calls Tryzx.prog 95 #[.slice B q d, .int .i64 lo, .int .i64 hi] w fun e w' => e = .returned (.bool (ascB cs q lo hi)) ∧ w = w' := by
  have HI := Lib.hid hI
  clear hI
  go_enter Tryzx.func95, Tryz.ntmps95
  go_wp2
  go_loop [11] (fun i => ∃ k : Nat, k ≤ q ∧ i = .int .i64 k ∧ ascTo cs lo hi k) (fun i => q - (intOf i).toNat)
  case atStart => exact ⟨0, Nat.zero_le _, rfl, ascTo_0 _ _ _⟩
  case round =>
    obtain ⟨k, hk, rfl, hag⟩ := hrel
    by_cases hlt : k < q
    · obtain ⟨b, off, rfl, hbB, hc⟩ := HI.out.2 (by omega)
      have x0 := hc k hlt
      cases hp : inB (nth cs k) lo hi
      · have HF := Lib.hid (ascB_f hlt (ascAt_1 hp))
        clear hc
        go_wp2_with (go_at_call 112; refine (within_any _ _ _ _).mono ?_; rw [hp]; rintro e w' ⟨rfl, rfl⟩)
        go_ret
        exact ⟨ret_bool HF.out.symm, rfl⟩
      · by_cases hk0 : k = 0
        · subst hk0
          have x00 : w.cell? ⟨b, off, none⟩ = some (.int .i64 (nth cs 0)) := x0
          have HS := Lib.hid (ascTo_step hag (ascAt_3 hp))
          clear hc
          go_wp2_with (go_at_call 112; refine (within_any _ _ _ _).mono ?_; rw [hp]; rintro e w' ⟨rfl, rfl⟩)
          go_round
          case rel => exact ⟨1, by omega, by go_num, HS.out⟩
          case measure => first | (simp [intOf]; done) | (simp [intOf]; omega)
        · obtain ⟨m, rfl⟩ : ∃ m, k = m + 1 := ⟨k - 1, by omega⟩
          have x1 := hc m (by omega)
          have i1 : (0 : Int) < ((m + 1 : Nat) : Int) := by omega
          have e1 : ((m + 1 : Nat) : Int) - 1 = (m : Int) := by omega
          by_cases hlt2 : nth cs m < nth cs (m + 1)
          · have HS := Lib.hid (ascTo_step hag (ascAt_4 hp hlt2))
            have hge : ¬ nth cs (m + 1) ≤ nth cs m := by omega
            clear hc hag hk0
            go_wp2_with (go_at_call 112; refine (within_any _ _ _ _).mono ?_; rw [hp]; rintro e w' ⟨rfl, rfl⟩)
            go_round
            case rel => exact ⟨m + 1 + 1, by omega, by go_num, HS.out⟩
            case measure => first | (simp [intOf]; done) | (simp [intOf]; omega)
          · have HF := Lib.hid (ascB_f hlt (ascAt_2 (lo := lo) (hi := hi) (by omega) hlt2))
            have hge : nth cs (m + 1) ≤ nth cs m := by omega
            clear hc hag hk0
            go_wp2_with (go_at_call 112; refine (within_any _ _ _ _).mono ?_; rw [hp]; rintro e w' ⟨rfl, rfl⟩)
            go_ret
            exact ⟨ret_bool HF.out.symm, rfl⟩
    · obtain rfl : k = q := by omega
      have HF := Lib.hid (ascB_t hag)
      clear hag
      go_wp2
      go_ret
      exact ⟨ret_bool HF.out.symm, rfl⟩
set_option maxHeartbeats 800000 in
theorem iCarriedOk_any (A : Option Addr) (n c : Nat) (zs : List Int) (B : Option Addr) (q d : Nat) (cs : List Int) (w : World) (h : RecsAt w w.heap.size 4 A n zs) (hn : n ≤ 1048576) (hi : IntsAt w w.heap.size B q cs) (hq : q ≤ 1048576) :
    Calls Tryzx.prog 43 #[.agg #[.slice A n c], .slice B q d] w fun e w' => e = .returned (.bool (carriedB zs n cs q)) ∧ Below w.heap.size w w' := by
  have HA := Lib.hid ((Below.refl w.heap.size w).alloc (Nat.le_refl _) (.cells #[.slice A n c] 26))
  have h1 : RecsAt (w.alloc (.cells #[.slice A n c] 26)) (w.alloc (.cells #[.slice A n c] 26)).heap.size 4 A n zs := (h.alloc (Nat.le_refl _) _).mono (by simp)
  have i1 : IntsAt (w.alloc (.cells #[.slice A n c] 26)) (w.alloc (.cells #[.slice A n c] 26)).heap.size B q cs := (hi.alloc (Nat.le_refl _) _).mono (by simp)
  clear h hi
  cases hA : archB zs n
  · have HF := Lib.hid (carriedB_1 cs q hA)
    go_enter Tryzx.func43, Tryz.ntmps43
    go_wp2_with fail
    refine (iArchOk_any _ _ _ zs _ h1 hn).mono ?_
    rw [hA]
    rintro e w1 ⟨rfl, hb1⟩
    have HB1 := Lib.hid (HA.out.trans (hb1.mono (by simp)))
    go_wp2
    go_ret
    exact ⟨ret_bool HF.out.symm, HB1.out⟩
  · have HF := Lib.hid (show carriedB zs n cs q = ascB cs q 0 ((n : Int) - 2) by simp [carriedB, hA])
    go_enter Tryzx.func43, Tryz.ntmps43
    go_wp2_with fail
    refine (iArchOk_any _ _ _ zs _ h1 hn).mono ?_
    rw [hA]
    rintro e w1 ⟨rfl, hb1⟩
    have HB1 := Lib.hid (HA.out.trans (hb1.mono (by simp)))
    have hbox1 := (hb1.cell (p := ⟨w.heap.size, 0, none⟩) (by simp)).trans (cell_new0 _ _ _)
    have i2 := (i1.below hb1).mono hb1.size
    clear hb1
    go_wp2_with fail
    refine (ascending_any _ _ _ _ _ cs _ i2 hq).mono ?_
    rintro e w2 ⟨rfl, rfl⟩
    go_wp2
    go_ret
    exact ⟨ret_bool HF.out.symm, HB1.out⟩
set_option maxHeartbeats 1600000 in
theorem sCarriedOk_any (A : Option Addr) (n c : Nat) (zs : List Int) (B : Option Addr) (q d : Nat) (cs : List Int) (w : World) (h : RecsAt w w.heap.size 4 A n zs) (hn : n ≤ 1048576) (hi : IntsAt w w.heap.size B q cs) (hq : q ≤ 1048576) :
    Calls Tryzx.prog 87 #[.agg #[.slice A n c], .slice B q d] w fun e w' => e = .returned (.bool (carriedB zs n cs q)) ∧ Below w.heap.size w w' := by
  have HA := Lib.hid ((Below.refl w.heap.size w).alloc (Nat.le_refl _) (.cells #[.slice A n c] 26))
  have H := Lib.hid h
  have HI := Lib.hid hi
  clear h hi
  go_enter Tryzx.func87, Tryz.ntmps87
  go_wp2
  go_loopw [5] (fun i wr => ∃ k : Nat, k ≤ q ∧ i = .int .i64 k ∧ ascTo cs 0 ((n : Int) - 2) k ∧ wr.cell? ⟨w.heap.size, 0, none⟩ = some (.slice A n c) ∧ Below w.heap.size w wr) (fun i _ => q - (intOf i).toNat)
  case atStart => exact ⟨0, Nat.zero_le _, rfl, ascTo_0 _ _ _, cell_new0 _ _ _, HA.out⟩
  case round =>
    clear HA
    obtain ⟨k, hk, rfl, hag, hbox, hb⟩ := hrel
    have HB := Lib.hid hb
    by_cases hlt : k < q
    · obtain ⟨b, off, rfl, hbB, hc⟩ := HI.out.2 (by omega)
      have x0 : wr.cell? ⟨b, off + k, none⟩ = some (.int .i64 (nth cs k)) := (hb.cell (by exact hbB)).trans (hc k hlt)
      have HBX := Lib.hid hbox
      have ik0 : (0 : Int) ≤ (k : Int) := by omega
      have ik1 : (k : Int) < (q : Int) := by omega
      have hw2 : IntKind.i64.wrap ((n : Int) - 2) = (n : Int) - 2 := IntWalk.i64_in _ (by omega)
      cases hp : inB (nth cs k) 0 ((n : Int) - 2)
      · have HF := Lib.hid (carriedB_2 zs (ascB_f hlt (ascAt_1 hp)))
        clear hc hb hag
        go_wp2
        go_quiet ((go_at_call 126; exact quiet_bool (l01In_any _ _ _ _) hp))
        go_wp2
        go_ret
        exact ⟨ret_bool HF.out.symm, below_drewN HB.out _⟩
      · by_cases hk0 : k = 0
        · subst hk0
          have x00 : wr.cell? ⟨b, off, none⟩ = some (.int .i64 (nth cs 0)) := x0
          have HS := Lib.hid (ascTo_step hag (ascAt_3 hp))
          have hd : decide ((0 : Int) < ((0 : Nat) : Int)) = false := by simp
          clear hc hb hag
          go_wp2
          go_quiet ((go_at_call 126; exact quiet_bool (l01In_any _ _ _ _) hp))
          go_wp2
          go_roundw
          case rel => exact ⟨1, by omega, by go_num, HS.out, HBX.out, below_drewN HB.out _⟩
          case measure => first | (simp [intOf]; done) | (simp [intOf]; omega)
        · obtain ⟨m, rfl⟩ : ∃ m, k = m + 1 := ⟨k - 1, by omega⟩
          have x1 : wr.cell? ⟨b, off + m, none⟩ = some (.int .i64 (nth cs m)) := (hb.cell (by exact hbB)).trans (hc m (by omega))
          have i1 : (0 : Int) < ((m + 1 : Nat) : Int) := by omega
          have e0 : (((m + 1 : Nat) : Int)).toNat = m + 1 := by omega
          by_cases hlt2 : nth cs m < nth cs (m + 1)
          · have HS := Lib.hid (ascTo_step hag (ascAt_4 hp hlt2))
            have hge : decide (nth cs (m + 1) ≤ nth cs m) = false := by simp; omega
            clear hc hb hag hk0
            have e2 : IntKind.i64.wrap (((m + 1 : Nat) : Int) - 1) = (m : Int) := by rw [IntWalk.i64_in _ (by omega)]; omega
            go_wp2
            go_quiet ((go_at_call 126; exact quiet_bool (l01In_any _ _ _ _) hp))
            go_wp2
            go_roundw
            case rel => exact ⟨m + 1 + 1, by omega, by go_num, HS.out, HBX.out, below_drewN HB.out _⟩
            case measure => first | (simp [intOf]; done) | (simp [intOf]; omega)
          · have HF := Lib.hid (carriedB_2 zs (ascB_f hlt (ascAt_2 (lo := 0) (hi := (n : Int) - 2) (by omega) hlt2)))
            have hge : decide (nth cs (m + 1) ≤ nth cs m) = true := by simp; omega
            clear hc hb hag hk0
            have e2 : IntKind.i64.wrap (((m + 1 : Nat) : Int) - 1) = (m : Int) := by rw [IntWalk.i64_in _ (by omega)]; omega
            go_wp2
            go_quiet ((go_at_call 126; exact quiet_bool (l01In_any _ _ _ _) hp))
            go_wp2
            go_ret
            exact ⟨ret_bool HF.out.symm, below_drewN HB.out _⟩
    · obtain rfl : k = q := by omega
      have HF := Lib.hid (carriedB_3 (zs := zs) (ascB_t hag))
      have h1 := (H.out.below hb).mono hb.size
      clear hb hag
      go_wp2_with fail
      refine (sArchOk_any _ _ _ zs _ h1 hn).mono ?_
      rintro e w1 ⟨rfl, hb1⟩
      have HB1 := Lib.hid (HB.out.trans (hb1.mono HB.out.size))
      go_wp2
      go_ret
      exact ⟨ret_bool HF.out.symm, HB1.out⟩
end Go.Proofs.YtbpnbhemdbgmjaaGreat.X
end
section
namespace Go.Proofs.YtbpnbhemdbgmjaaGreat.X
open Go.RowKit
def isC (cs : List Int) : Nat → Nat → Bool
  | 0, _ => false
  | i + 1, j => isC cs i j || decide (nth cs i = (j : Int))
theorem isC_iff (cs : List Int) (j : Nat) : ∀ i, isC cs i j = true ↔ ∃ t, t < i ∧ nth cs t = (j : Int)
  | 0 => by simp [isC]
  | i + 1 => by
    simp only [isC, Bool.or_eq_true, decide_eq_true_eq, isC_iff cs j i]
    constructor
    · rintro (⟨t, h1, h2⟩ | h)
      · exact ⟨t, by omega, h2⟩
      · exact ⟨i, by omega, h⟩
    · rintro ⟨t, h1, h2⟩
      by_cases e : t = i
      · subst e; exact .inr h2
      · exact .inl ⟨t, by omega, h2⟩
theorem isC_f {cs : List Int} {i j : Nat} (h : ∀ t, t < i → nth cs t ≠ (j : Int)) : isC cs i j = false := by
  cases e : isC cs i j
  · rfl
  · obtain ⟨t, h1, h2⟩ := (isC_iff cs j i).1 e
    exact absurd h2 (h t h1)
def stgW (zs cs : List Int) (q j : Nat) : Int := if isC cs q j = true then 0 else swt zs j
def stgM (zs cs : List Int) (q j : Nat) : Int := if isC cs q j = true then 0 else smt zs j
theorem stg_bd (zs cs : List Int) (q j : Nat) : (-129600 ≤ stgW zs cs q j ∧ stgW zs cs q j ≤ 129600) ∧ (-5184000 ≤ stgM zs cs q j ∧ stgM zs cs q j ≤ 5184000) := by
  have h1 := swt_bd zs j
  have h2 := smt_bd zs j
  unfold stgW stgM
  split <;> omega
def stgL (zs cs : List Int) (q : Nat) : Nat → List Int
  | 0 => []
  | k + 1 => stgL zs cs q k ++ [stgW zs cs q k, stgM zs cs q k]
theorem stgL_len (zs cs : List Int) (q : Nat) : ∀ k, (stgL zs cs q k).length = k * 2
  | 0 => rfl
  | k + 1 => by simp [stgL, stgL_len zs cs q k]; omega
theorem stgL_nth (zs cs : List Int) (q : Nat) : ∀ {m k : Nat}, k < m → nth (stgL zs cs q m) (k * 2) = stgW zs cs q k ∧ nth (stgL zs cs q m) (k * 2 + 1) = stgM zs cs q k
  | 0, k, h => absurd h (by omega)
  | m + 1, k, h => by
    have hl := stgL_len zs cs q m
    simp only [stgL]
    by_cases e : k = m
    · subst e
      exact ⟨nthA_r 0 (by omega), nthA_r 1 (by omega)⟩
    · rw [nthA_l (by omega), nthA_l (by omega)]
      exact stgL_nth zs cs q (by omega)
theorem sumStg_bd (zs cs : List Int) (q m : Nat) : ∀ k : Nat, (-(129600 * (k : Int)) ≤ sumW (stgL zs cs q m) k ∧ sumW (stgL zs cs q m) k ≤ 129600 * (k : Int)) ∧ (-(5184000 * (k : Int)) ≤ sumM (stgL zs cs q m) k ∧ sumM (stgL zs cs q m) k ≤ 5184000 * (k : Int))
  | 0 => by simp [sumW, sumM]
  | k + 1 => by
    have ih := sumStg_bd zs cs q m k
    have hb : (-129600 ≤ nth (stgL zs cs q m) (k * 2) ∧ nth (stgL zs cs q m) (k * 2) ≤ 129600) ∧ (-5184000 ≤ nth (stgL zs cs q m) (k * 2 + 1) ∧ nth (stgL zs cs q m) (k * 2 + 1) ≤ 5184000) := by
      by_cases h : k < m
      · rw [(stgL_nth zs cs q h).1, (stgL_nth zs cs q h).2]; exact stg_bd zs cs q k
      · have hl := stgL_len zs cs q m
        have h1 : nth (stgL zs cs q m) (k * 2) = 0 := by simp [nth, List.getD, List.getElem?_eq_none (show (stgL zs cs q m).length ≤ k * 2 by omega)]
        have h2 : nth (stgL zs cs q m) (k * 2 + 1) = 0 := by simp [nth, List.getD, List.getElem?_eq_none (show (stgL zs cs q m).length ≤ k * 2 + 1 by omega)]
        rw [h1, h2]; omega
    simp only [sumW, sumM]
    omega
theorem wmok_stg {zs : List Int} {n : Nat} (cs : List Int) (q m : Nat) (hA : archB zs n = true) : WMok (sumW (stgL zs cs q m)) (sumM (stgL zs cs q m)) n := by
  have hn := (archB_out hA).1
  intro k hk
  have h := sumStg_bd zs cs q m k
  omega
theorem stg_step {zs cs : List Int} {q n k : Nat} (hn : 0 < n) (hk : k < n) :
    sumW (stgL zs cs q (n - 1)) (k + 1) = sumW (stgL zs cs q (n - 1)) k + (if isC cs q k = true then 0 else if k + 1 < n then swt zs k else 0) ∧
    sumM (stgL zs cs q (n - 1)) (k + 1) = sumM (stgL zs cs q (n - 1)) k + (if isC cs q k = true then 0 else if k + 1 < n then smt zs k else 0) := by
  simp only [sumW, sumM]
  by_cases h : k + 1 < n
  · rw [(stgL_nth zs cs q (show k < n - 1 by omega)).1, (stgL_nth zs cs q (show k < n - 1 by omega)).2]
    simp only [stgW, stgM, h, if_true]
    exact ⟨trivial, trivial⟩
  · have hl := stgL_len zs cs q (n - 1)
    have h1 : nth (stgL zs cs q (n - 1)) (k * 2) = 0 := by simp [nth, List.getD, List.getElem?_eq_none (show (stgL zs cs q (n - 1)).length ≤ k * 2 by omega)]
    have h2 : nth (stgL zs cs q (n - 1)) (k * 2 + 1) = 0 := by simp [nth, List.getD, List.getElem?_eq_none (show (stgL zs cs q (n - 1)).length ≤ k * 2 + 1 by omega)]
    rw [h1, h2]
    simp [h]
def stgN (zs : List Int) (n : Nat) (cs : List Int) (q : Nat) : Nat := if carriedB zs n cs q = true then n * 2 + 1 else 0
def stgR (zs : List Int) (n : Nat) (cs : List Int) (q : Nat) : List Int := if carriedB zs n cs q = true then rowsL zs (sumW (stgL zs cs q (n - 1))) (sumM (stgL zs cs q (n - 1))) n else []
section
variable {zs : List Int} {n : Nat} {cs : List Int} {q : Nat}
theorem stg_t (h : carriedB zs n cs q = true) : stgN zs n cs q = n * 2 + 1 ∧ stgR zs n cs q = rowsL zs (sumW (stgL zs cs q (n - 1))) (sumM (stgL zs cs q (n - 1))) n := by simp [stgN, stgR, h]
theorem stg_f (h : carriedB zs n cs q = false) : stgN zs n cs q = 0 ∧ stgR zs n cs q = [] := by simp [stgN, stgR, h]
theorem carriedB_out (h : carriedB zs n cs q = true) : archB zs n = true ∧ ascTo cs 0 ((n : Int) - 2) q := by
  simp only [carriedB, Bool.and_eq_true, ascB, List.all_eq_true] at h
  exact ⟨h.1, fun i hi => h.2 i (by simpa using hi)⟩
theorem asc_in {lo hi : Int} (h : ascTo cs lo hi q) {i : Nat} (hi' : i < q) : lo ≤ nth cs i ∧ nth cs i ≤ hi := by
  have := h i hi'
  simp only [ascAt, Bool.and_eq_true] at this
  exact inB_iff.1 this.1
theorem asc_lt {lo hi : Int} (h : ascTo cs lo hi q) : ∀ {i j : Nat}, i < j → j < q → nth cs i < nth cs j
  | i, 0, hij, _ => absurd hij (by omega)
  | i, j + 1, hij, hj => by
    have h1 := h (j + 1) hj
    simp only [ascAt, Bool.and_eq_true, Bool.or_eq_true, decide_eq_true_eq, Nat.add_sub_cancel] at h1
    have h2 : nth cs j < nth cs (j + 1) := by
      rcases h1.2 with e | e
      · omega
      · exact e
    by_cases e : i = j
    · subst e; exact h2
    · have := asc_lt h (i := i) (j := j) (by omega) (by omega)
      omega
structure AtOk (cs : List Int) (q k t : Nat) : Prop where
  le : t ≤ q
  lo : ∀ i, i < t → nth cs i < (k : Int)
  hi : ∀ i, t ≤ i → i < q → (k : Int) ≤ nth cs i
theorem atOk_0 (h : ascTo cs 0 ((n : Int) - 2) q) : AtOk cs q 0 0 := ⟨Nat.zero_le _, fun i hi => absurd hi (by omega), fun i _ hi => (asc_in h hi).1⟩
theorem atOk_t {k t : Nat} (ha : ascTo cs 0 ((n : Int) - 2) q) (h : AtOk cs q k t) (ht : t < q) (e : nth cs t = (k : Int)) : isC cs q k = true ∧ AtOk cs q (k + 1) (t + 1) := by
  refine ⟨(isC_iff cs k q).2 ⟨t, ht, e⟩, by omega, fun i hi => ?_, fun i hi hq => ?_⟩
  · by_cases he : i = t
    · subst he; omega
    · have := h.lo i (by omega); omega
  · have := asc_lt ha (i := t) (j := i) (by omega) hq
    omega
theorem atOk_f {k t : Nat} (ha : ascTo cs 0 ((n : Int) - 2) q) (h : AtOk cs q k t) (e : ¬ (t < q ∧ nth cs t = (k : Int))) : isC cs q k = false ∧ AtOk cs q (k + 1) t := by
  have key : ∀ i, t ≤ i → i < q → (k : Int) < nth cs i := by
    intro i hi hq
    have h1 := h.hi i hi hq
    by_cases he : i = t
    · subst he
      by_cases e2 : nth cs i = (k : Int)
      · exact absurd ⟨hq, e2⟩ e
      · omega
    · have h2 := asc_lt ha (i := t) (j := i) (by omega) hq
      have h3 := h.hi t (Nat.le_refl _) (by omega)
      omega
  refine ⟨isC_f fun i hi => ?_, h.le, fun i hi => by have := h.lo i hi; omega, fun i hi hq => by have := key i hi hq; omega⟩
  by_cases he : i < t
  · have := h.lo i he; omega
  · have := key i (by omega) hi; omega
end
section
open Go.RowKit Go.Maps
def keyL (m : Int) : Lit := .int .i64 m
theorem keyL_ne {a b : Int} (h : a ≠ b) : keyL a ≠ keyL b := by
  intro e
  exact h (by simpa [keyL] using e)
def prD (a b : Int) : DataW Unit := .agg [.lit (.int .i64 a), .lit (.int .i64 b)]
def prR (v : Value) : Option (DataW Unit × List MemPlace) :=
  match v with
  | .agg cs => match cs.toList with
    | [.int .i64 a, .int .i64 b] => some (prD a b, [])
    | _ => none
  | _ => none
theorem prR_mk (a b : Int) : prR (.agg #[.int .i64 a, .int .i64 b]) = some (prD a b, []) := rfl
theorem prR_inj {v : Value} {ps : List MemPlace} {a b : Int} (h : prR v = some (prD a b, ps)) : v = .agg #[.int .i64 a, .int .i64 b] := by
  unfold prR at h
  split at h
  · rename_i cs
    split at h
    · rename_i a' b' e
      simp [prD] at h
      obtain ⟨⟨rfl, rfl⟩, _⟩ := h
      congr 1
      exact Array.ext' (by simpa using e)
    · cases h
  · cases h
def MapIs (D : DataW Unit) (F G : Nat → Int) : Prop := ∀ j : Nat, D.atKey (keyL (j : Int)) (prD 0 0) = prD (F j) (G j)
def f1W (zs : List Int) (k j : Nat) : Int := if j < k then swt zs j else 0
def f1M (zs : List Int) (k j : Nat) : Int := if j < k then smt zs j else 0
def f2W (zs cs : List Int) (m i j : Nat) : Int := if isC cs i j = true then 0 else f1W zs m j
def f2M (zs cs : List Int) (m i j : Nat) : Int := if isC cs i j = true then 0 else f1M zs m j
theorem mapIs_0 (zs : List Int) : MapIs (.map []) (f1W zs 0) (f1M zs 0) := fun j => by simp [f1W, f1M, DataW.atKey]
theorem mapIs_put {D : DataW Unit} {zs : List Int} {k : Nat} (hD : IsMap D) (h : MapIs D (f1W zs k) (f1M zs k)) : MapIs (D.put (keyL (k : Int)) (prD (swt zs k) (smt zs k))) (f1W zs (k + 1)) (f1M zs (k + 1)) := by
  intro j
  by_cases e : j = k
  · subst e
    rw [atKey_put_same hD (by exact trivial)]
    simp [f1W, f1M]
  · rw [atKey_put_other (keyL_ne (by omega)), h j]
    unfold f1W f1M
    by_cases h1 : j < k
    · rw [if_pos h1, if_pos h1, if_pos (show j < k + 1 by omega), if_pos (show j < k + 1 by omega)]
    · rw [if_neg h1, if_neg h1, if_neg (show ¬ j < k + 1 by omega), if_neg (show ¬ j < k + 1 by omega)]
theorem mapIs_del {D : DataW Unit} {zs cs : List Int} {m i : Nat} (h : MapIs D (f2W zs cs m i) (f2M zs cs m i)) : MapIs (D.del (keyL (nth cs i))) (f2W zs cs m (i + 1)) (f2M zs cs m (i + 1)) := by
  intro j
  by_cases e : nth cs i = (j : Int)
  · rw [e, atKey_del_same]
    simp [f2W, f2M, isC, e]
  · rw [atKey_del_other (keyL_ne (fun h => e h.symm)), h j]
    simp [f2W, f2M, isC, e]
theorem mapIs_12 {D : DataW Unit} {zs : List Int} (cs : List Int) {m : Nat} (h : MapIs D (f1W zs m) (f1M zs m)) : MapIs D (f2W zs cs m 0) (f2M zs cs m 0) := fun j => by
  rw [h j]
  simp [f2W, f2M, isC]
theorem f2_stg {zs cs : List Int} {m q j : Nat} (hj : j < m) : f2W zs cs m q j = stgW zs cs q j ∧ f2M zs cs m q j = stgM zs cs q j := by
  simp [f2W, f2M, f1W, f1M, stgW, stgM, hj]
theorem stgL_fill {zs cs : List Int} {q m k : Nat} (hk : k < m) : (fun j => if j = k * 2 + 1 then Value.int .i64 (stgM zs cs q k) else if j = k * 2 then Value.int .i64 (stgW zs cs q k) else fill (stgL zs cs q m) (k * 2) j) = fill (stgL zs cs q m) ((k + 1) * 2) := by
  funext j
  have h := stgL_nth zs cs q hk
  have h2 := fill_step2 (stgL zs cs q m) (k * 2) j
  rw [h.1, h.2] at h2
  rw [h2, show (k + 1) * 2 = k * 2 + 2 by omega]
theorem wf_inM {x : Int} (h : -9223372036854775808 ≤ x ∧ x ≤ 9223372036854775807) : (Lit.int .i64 x).wf = true := by
  simp [Lit.wf, IntKind.min, IntKind.max, IntKind.signed, IntKind.bits]
  omega
end
end Go.Proofs.YtbpnbhemdbgmjaaGreat.X
end
