/-
  Texts that the law stands on, part 10.
-/
import Derived.Test.YtbpnbhemdbgmjaaGreatC1
import Derived.Test.YtbpnbhemdbgmjaaGreatC5
import Derived.Test.YtbpnbhemdbgmjaaGreatC9
set_option linter.unusedVariables false
set_option linter.unusedSimpArgs false
namespace Go.Proofs.YtbpnbhemdbgmjaaGreat
namespace Rn
open Go.Conc Go.RowKit Go.Conc.Lib Go.ConcR.Gen Go.ConcN.Gen
open Go.ConcN (WgLive PayAt Has AtR0 RW AsideCell)
open Go.ConcR (KK WgAt stA smA rd wr mk Payload DC0)
noncomputable def wbot : Frame := { (default : Frame) with fn := Tryz.prog.funcs.size, defers := [], mode := .panicking [goexitEntry] }
abbrev wcall (Wg rb ib fb : Nat) : Deferred := { target := .fn (.func 115) #[.pointer (some ⟨Wg, 0, none⟩), .pointer (some ⟨rb, 0, none⟩), .pointer (some ⟨ib, 0, none⟩), .pointer (some ⟨fb, 0, none⟩)], args := #[] }
noncomputable def wbody : Code := Tryz.f115.body.getD .skip
theorem wquits (T : Array Value) : QuitsD Tryz.prog 2 0 (G { (baseD 115).at ⟨T, []⟩ [] with mode := .returning } [wbot]) := by
 refine QuitsD.ctl (g' := G wbot []) rfl (fun w => ?_) ?_
 ·simp [G, stepG, unwind, doReturn, results, Frame.at, baseD, wbot, Tryz.func115, Tryz.f115, seen, GStep.after, goexitEntry]
 refine QuitsD.ctl (g' := { G wbot [] with status := .finished }) rfl (fun w => ?_) ⟨rfl, rfl⟩
 simp [G, stepG, unwind, wbot, goexitEntry, Frame.catches]
 rfl
theorem wborn (Wg rb ib fb : Nat) (w : World) : stepG Tryz.prog false (born Tryz.prog (wcall Wg rb ib fb)) w =
  .go (G ((baseD 115).at ⟨#[.pointer (some ⟨Wg, 0, none⟩), .pointer (some ⟨rb, 0, none⟩), .pointer (some ⟨ib, 0, none⟩), .pointer (some ⟨fb, 0, none⟩), undef, undef, undef, undef, undef, undef], []⟩ [.code wbody]) [wbot]) w #[] := by
 simp [born, wcall, stepG, unwind, callDeferred, invoke, callFunc, Tryz.func115, Tryz.f115, seen, GStep.after, G, Frame.enter, Frame.at, baseD, wbot, wbody]
theorem wname : (Tryz.f117.name == "runtime.NumGoroutine") = false := by kernel_rfl
theorem wloud : (Tryz.prog.funcs[(baseD 115).fn]?).any (·.norace) = false := by kernel_rfl
theorem evRd {own ro : Bl} {b : Nat} (h : ro b) : EvOwn own ro ⟨.cell ⟨b, 0, none⟩, false, false⟩ := .inl ⟨rfl, .inl ⟨_, rfl, .inr ⟨h, rfl⟩⟩⟩
theorem stepG_callE {P : Program} {main : Bool} {b : Frame} {a : Act} {k : List Item} {cs : List Frame} {w : World} {ops : Array Oper} {i : Nat} {rest : List Nat} {o : Oper} {f : FuncId} {fn : Func} {c : Code} {args : Array Operand} {ats : Array TypeId} {xs : Array Value}
  (ho : ops[i]? = some o) (hw : Region.wanted o (yielded ops a.tmps) = true) (hk : b.kind ≠ .early) (hop : o.op = .call { callee := .value (.func f), args, argTypes := ats })
  (hf : P.funcs[f]? = some fn) (hname : (fn.name == "runtime.NumGoroutine") = false) (hb : fn.body = some c) (hx : args.map a.eval = xs) :
  stepG P main (G (b.at a (.inRegion ops (i :: rest) :: k)) cs) w = .go (G (Frame.enter P f xs .normal) (b.at a (.inRegion ops (i :: rest) :: k) :: cs)) w #[] := by
 have hb' : fn.body.isNone = false := by rw [hb]; rfl
 rw [stepG_enter ho hw hk (run_call_body hop hf hname hb'), hx]
 have : listed P b.fn a o w = #[] := by unfold listed; rw [events_call_body hop hf hname hb']; exact seen_none P _
 rw [this]
theorem stepG_storeS {main : Bool} {b : Frame} {a : Act} {kk : List Item} {cs : List Frame} {w : World} {ops : Array Oper} {i : Nat} {rest : List Nat} {o : Oper} {x y : Operand} (ho : ops[i]? = some o) (hw : Region.wanted o (yielded ops a.tmps) = true) (hk : b.kind ≠ .early) (hop : o.op = .store 34 x y)
  {ad : Addr} {A : Option Addr} {m c : Nat} {u : Value} (hx : a.eval x = .pointer (some ad)) (hy : a.eval y = .slice A m c) (hc : w.cell? ad = some u) (hz : w.frozen? ad = false) (hq : (Tryz.prog.funcs[b.fn]?).any (·.norace) = false) :
  stepG Tryz.prog main (G (b.at a (.inRegion ops (i :: rest) :: kk)) cs) w = .go (G (b.at (a.put o.dst undef) (.inRegion ops rest :: kk)) cs) (w.setCell ad (.slice A m c)) #[⟨.cell ad, true, false⟩] := by
 have hr : (execOp a.eval o).run Tryz.prog w = .ok .skip (w.setCell ad (.slice A m c)) := by
  unfold execOp
  simp only [hop, hx, hy]
  simp [go_sem, stored, hc, hz]
 have he : (execOp a.eval o).events Tryz.prog w #[] = #[⟨.cell ad, true, false⟩] := by
  unfold execOp
  simp only [hop, hx, hy]
  simp [go_sem, storedEv, hc, hz]
 rw [stepG_none ho hw hk hr]
 unfold listed
 rw [he, seen_eq hq (by simp)]
section
variable {Q : Ph} {ro : Bl} {n c : Nat} {xs : List Int} {rb ib fb blk off i : Nat} {own : Bl} {w w1 : World}
theorem payCell (hp : PayAt Q.C n w) (hi : i < n) : ∃ u, w.cell? ⟨Q.C, i, none⟩ = some u ∧ w.frozen? ⟨Q.C, i, none⟩ = false := by
 obtain ⟨arr, h1, h2⟩ := hp
 exact ⟨arr[i]'(by omega), by simp [World.cell?, h1, h2, hi], by simp [World.frozen?, h1]⟩
theorem setC (hp : PayAt Q.C n w) (v : Value) : AsideCell Q.C n i w (w.setCell ⟨Q.C, i, none⟩ v) := by
 have hA := aside_setCell w ⟨Q.C, i, none⟩ v
 obtain ⟨arr, h1, h2⟩ := hp
 have hb : (w.setCell ⟨Q.C, i, none⟩ v).heap[Q.C]? = some (.cells (arr.setIfInBounds i v) Payload.ety) := by
  rw [setCell_eq_setRow w Q.C i arr _ (0, 0) _ h1, setRow_heap w Q.C _ _ _ _ h1]
 refine ⟨hA.tape, hA.os, hA.output, hA.size, fun b hb' => hA.block b hb', fun _ => ⟨_, hb, by simpa using h2⟩, fun i' hi' => ?_⟩
 simp [World.cell?, hb, h1, Array.getElem?_setIfInBounds_ne (Ne.symm hi')]
theorem hasC (hp : PayAt Q.C n w) (hi : i < n) (v : Value) : Has Q.C i v (w.setCell ⟨Q.C, i, none⟩ v) := by
 obtain ⟨arr, h1, h2⟩ := hp
 have hb : (w.setCell ⟨Q.C, i, none⟩ v).heap[Q.C]? = some (.cells (arr.setIfInBounds i v) Payload.ety) := by
  rw [setCell_eq_setRow w Q.C i arr _ (0, 0) _ h1, setRow_heap w Q.C _ _ _ _ h1]
 simp [Has, World.cell?, hb, h2, hi]
theorem AsideCell.didW (hn : Q.n = n) (h : AsideCell Q.C n i w w1) : DidW Q ro i own w w1 #[⟨.cell ⟨Q.C, i, none⟩, true, false⟩] where
 tape := h.tape
 os := h.os
 output := h.output
 size := Nat.le_of_eq h.size.symm
 block b _ _ hb := h.block b hb
 pay _ hp := by rw [hn] at hp ⊢; exact h.pay hp
 cells _ _ k hk := h.cells k hk
 ev e he := by simp at he; subst he; exact .inr ⟨rfl, rfl⟩
theorem didW_draw : DidW Q ro i own w { w with drawn := w.drawn + 1 } #[] := ⟨rfl, rfl, rfl, Nat.le_refl _, fun _ _ _ _ => rfl, fun _ x => x, fun _ _ _ _ => rfl, fun e he => by simp at he⟩
def onB (b : Bool) (v : Value) : Value := if b then v else undef
structure WJ (Q : Ph) (ro : Bl) (n c : Nat) (xs : List Int) (rb ib fb blk off i : Nat) (zs : Nat → List Int) (l4 l6 : Bool) (t8 : Value) (own : Bl) (w : World) : Prop where
 wk : WK Q ro n c xs rb ib fb blk off i own w
 f4 : l4 = true → FinT zs i own t8 w
 f6 : l6 = true → Has Q.C i t8 w
theorem WJ.rely {zs : Nat → List Int} {l4 l6 : Bool} {t8 : Value} (fo : FinOk Q) (hfin : Q.fin = FinT zs) (h : WJ Q ro n c xs rb ib fb blk off i zs l4 l6 t8 own w) (r : RelyW Q ro i own w w1) : WJ Q ro n c xs rb ib fb blk off i zs l4 l6 t8 own w1 :=
 ⟨h.wk.rely r, fun e => by
  have := fo.stays i own own t8 w _ (by rw [hfin]; exact h.f4 e) (r.stays.less fun b hb => .inl hb) fun _ x => x
  rwa [hfin] at this, fun e => r.cell.trans (h.f6 e)⟩
set_option maxRecDepth 100000 in
set_option maxHeartbeats 8000000 in
theorem worker_way {zs : Nat → List Int} {noT : TypeId} (hno : Tryz.prog.toTables.info? noT = none) (hP : Q.P = Tryz.prog) (hty : Q.ty = wgLink.tWg) (hfin : Q.fin = FinT zs) (hn : Q.n = n) (hi : i < n)
  (hlone : ∀ w t d, Calls Tryz.prog 117 #[.slice (some ⟨Tryz.prog.globals.size, 0, none⟩) n c, .int .i64 i] ((winW w n xs noT).tp t d) fun e w' => ∃ v, e = .returned v ∧ ∃ A m c', v = .slice A m c' ∧ m * 4 = (zs i).length ∧ ((m = 0 ∧ A = none) ∨ 0 < m ∧ ∃ b off, A = some ⟨b, off, none⟩ ∧ b ≠ Tryz.prog.globals.size ∧ ∀ k, k < 4 * m → w'.cell? ⟨b, off + k, none⟩ = some (.int .i64 (nth (zs i) k))))
  (hF : WK Q ro n c xs rb ib fb blk off i (fun _ => False) w) (hG : Tryz.prog.globals.size ≤ Q.Wg) :
  WayG Tryz.prog false (RelyW Q ro i) (DidW Q ro i) (AtRel Q i) (fun _ => False) (born Tryz.prog (wcall Q.Wg rb ib fb)) w := by
 have fo := finT_ok hfin
 have hii : (i : Int) < (n : Int) := by omega
 have hi0 : (0 : Int) ≤ (i : Int) := by omega
 refine .next rfl fun w₁ h₁ => ⟨_, w₁, #[], wborn _ _ _ _ w₁, ⟨rfl, rfl, rfl, Nat.le_refl _, fun _ _ _ _ => rfl, fun _ x => x, fun _ _ _ _ => rfl, fun e he => by simp at he⟩, ?_⟩
 replace hF := hF.rely h₁
 clear h₁
 rw [Plus.same rfl]
 simp only [wbody, Tryz.f115, Option.getD_some]
 refine way_sil (n := 6) ?_
 u_c stepG_seq WK.rely hF
 u_reg WK.rely hF
 u_defer WK.rely hF
 u_c stepG_region_end WK.rely hF
 refine Goes.stop fun w₂ h₂ => ?_
 replace hF := hF.rely h₂
 clear h₂
 refine .next rfl fun w₃ h₃ => ⟨_, _, _, stepG_region_draw, didW_draw, ?_⟩
 replace hF := hF.rely h₃
 clear h₃
 have hpl : Plus (fun _ => False) w₃ { w₃ with drawn := w₃.drawn + 1 } = fun _ => False := Plus.same rfl
 replace hF := hF.did (es := #[]) didW_draw
 rw [hpl] at hF ⊢
 generalize hw4 : ({ w₃ with drawn := w₃.drawn + 1 } : World) = w4
 rw [hw4] at hF
 clear hw4
 rw [schedule_any (by kernel_rfl)]
 refine way_region (fun l own a w => ∃ l0 l1 l2 l3 l4 l5 l6 t8 t9, l = #[l0, l1, l2, l3, l4, l5, l6] ∧
   a = ⟨#[.pointer (some ⟨Q.Wg, 0, none⟩), .pointer (some ⟨rb, 0, none⟩), .pointer (some ⟨ib, 0, none⟩), .pointer (some ⟨fb, 0, none⟩), onB l0 (.slice (some ⟨Q.C, 0, none⟩) n n), onB l1 (.int .i64 i), onB l2 (.slice (some ⟨blk, off, none⟩) n c), onB l3 (.int .i64 i), t8, t9], [dcall 116 #[.pointer (some ⟨Q.Wg, 0, none⟩)]]⟩ ∧
   WJ Q ro n c xs rb ib fb blk off i zs l4 l6 t8 own w ∧ (l5 = true → t9 = .pointer (some ⟨Q.C, i, none⟩)) ∧ (l6 = true → l4 = true)) ?_ ?_ _ _ _ _ _ _ ?_ ?_
 case refine_1 =>
  rintro l own a w j rest ⟨l0, l1, l2, l3, l4, l5, l6, t8, t9, rfl, rfl, hF, h5, h64⟩ hm kont
  have hj : j < 7 := by simpa using List.mem_range.1 (List.mem_filter.1 hm).1
  have hm2 := (List.mem_filter.1 hm).2
  match j, hj with
  | 0, _ =>
   refine way_rd (n := 1) ?_
   g_opw (WJ.rely fo hfin) hF [WK.rbx (WJ.wk hF), WK.ibx (WJ.wk hF), WK.fbx (WJ.wk hF)] rfl (by first | exact evRd (WK.rfb (WJ.wk hF)) | exact evRd (WK.rib (WJ.wk hF)) | exact evRd (WK.rrb (WJ.wk hF)))
   exact Goes.stop fun w1 h1 => kont _ _ _ ⟨true, l1, l2, l3, l4, l5, l6, t8, t9, rfl, rfl, WJ.rely fo hfin hF h1, h5, h64⟩
  | 1, _ =>
   refine way_rd (n := 1) ?_
   g_opw (WJ.rely fo hfin) hF [WK.rbx (WJ.wk hF), WK.ibx (WJ.wk hF), WK.fbx (WJ.wk hF)] rfl (by first | exact evRd (WK.rfb (WJ.wk hF)) | exact evRd (WK.rib (WJ.wk hF)) | exact evRd (WK.rrb (WJ.wk hF)))
   exact Goes.stop fun w1 h1 => kont _ _ _ ⟨l0, true, l2, l3, l4, l5, l6, t8, t9, rfl, rfl, WJ.rely fo hfin hF h1, h5, h64⟩
  | 2, _ =>
   refine way_rd (n := 1) ?_
   g_opw (WJ.rely fo hfin) hF [WK.rbx (WJ.wk hF), WK.ibx (WJ.wk hF), WK.fbx (WJ.wk hF)] rfl (by first | exact evRd (WK.rfb (WJ.wk hF)) | exact evRd (WK.rib (WJ.wk hF)) | exact evRd (WK.rrb (WJ.wk hF)))
   exact Goes.stop fun w1 h1 => kont _ _ _ ⟨l0, l1, true, l3, l4, l5, l6, t8, t9, rfl, rfl, WJ.rely fo hfin hF h1, h5, h64⟩
  | 3, _ =>
   refine way_rd (n := 1) ?_
   g_opw (WJ.rely fo hfin) hF [WK.rbx (WJ.wk hF), WK.ibx (WJ.wk hF), WK.fbx (WJ.wk hF)] rfl (by first | exact evRd (WK.rfb (WJ.wk hF)) | exact evRd (WK.rib (WJ.wk hF)) | exact evRd (WK.rrb (WJ.wk hF)))
   exact Goes.stop fun w1 h1 => kont _ _ _ ⟨l0, l1, l2, true, l4, l5, l6, t8, t9, rfl, rfl, WJ.rely fo hfin hF h1, h5, h64⟩
  | 4, _ =>
   have hb : l4 = false ∧ l2 = true ∧ l3 = true := by simpa [Region.binds] using hm2
   obtain ⟨rfl, rfl, rfl⟩ := hb
   have h6f : l6 = false := by
    cases l6 with
    | false => rfl
    | true => exact absurd (h64 rfl) (by simp)
   subst h6f
   refine .next rfl fun w₁ h₁ => ⟨_, _, _, stepG_callE rfl rfl (by k_ne) rfl Tryz.func117 wname rfl (xs := #[.slice (some ⟨blk, off, none⟩) n c, .int .i64 i]) (by simp [Act.eval, onB]), ⟨rfl, rfl, rfl, Nat.le_refl _, fun _ _ _ _ => rfl, fun _ x => x, fun _ _ _ _ => rfl, fun e he => by simp at he⟩, ?_⟩
   replace hF := WJ.rely fo hfin hF h₁
   rw [Plus.same rfl]
   refine call_row hno (by omega) hlone (WJ.wk hF) (by have := ((WJ.wk hF).dis _ (.inr (.inl rfl))).1; omega) fun own' v w' hK hf => ?_
   rw [Frame.finish_at]
   exact kont _ _ _ ⟨l0, l1, true, true, true, l5, false, v, t9, rfl, rfl, ⟨hK, fun _ => hf, by simp⟩, h5, by simp⟩
  | 5, _ =>
   have hb : l5 = false ∧ l0 = true ∧ l1 = true := by
    simp [Region.binds] at hm2
    simp [hm2]
   obtain ⟨rfl, rfl, rfl⟩ := hb
   simp only [onB, if_true]
   refine way_sil (n := 1) ?_
   u_op (WJ.rely fo hfin) hF
   exact Goes.stop fun w1 h1 => kont _ _ _ ⟨true, true, l2, l3, l4, true, l6, t8, _, rfl, by simp [onB], WJ.rely fo hfin hF h1, fun _ => rfl, h64⟩
  | 6, _ =>
   have hb : l6 = false ∧ l5 = true ∧ l4 = true := by
    simp [Region.binds] at hm2
    simp [hm2]
   obtain ⟨rfl, rfl, rfl⟩ := hb
   obtain rfl := h5 rfl
   refine .next rfl fun w₁ h₁ => ?_
   replace hF := WJ.rely fo hfin hF h₁
   obtain ⟨A, m, c2, rfl, hm8⟩ := hF.f4 rfl
   have hpay : PayAt Q.C n w₁ := by have := (WJ.wk hF).pay; rwa [hn] at this
   obtain ⟨u, hu1, hu2⟩ := payCell hpay hi
   have hd : DidW Q ro i own w₁ (w₁.setCell ⟨Q.C, i, none⟩ (.slice A m c2)) #[⟨.cell ⟨Q.C, i, none⟩, true, false⟩] := AsideCell.didW hn (setC hpay _)
   refine ⟨_, _, _, stepG_storeS rfl rfl (by k_ne) rfl rfl rfl hu1 hu2 wloud, hd, kont _ _ _ ⟨l0, l1, l2, l3, true, true, true, _, _, rfl, rfl, ⟨(WJ.wk hF).did hd, fun _ => ?_, fun _ => hasC hpay hi _⟩, fun _ => rfl, fun _ => rfl⟩⟩
   have := fo.stays i own (Plus own w₁ (w₁.setCell ⟨Q.C, i, none⟩ (.slice A m c2))) (.slice A m c2) w₁ (w₁.setCell ⟨Q.C, i, none⟩ (.slice A m c2)) (by rw [hfin]; exact hF.f4 rfl) ⟨hd.tape, hd.os, hd.output, hd.size, fun b hb ho => (setC hpay _).block b (by rintro rfl; exact ((WJ.wk hF).dis _ (.inr (.inr rfl))).2 ho)⟩ fun _ x => .inl x
   rwa [hfin] at this
 case refine_2 =>
  rintro l own a w ⟨l0, l1, l2, l3, l4, l5, l6, t8, t9, rfl, rfl, hF, h5, h64⟩ hr
  have hall := List.filter_eq_nil_iff.1 hr
  have e0 := hall 0 (by simp)
  have e1 := hall 1 (by simp)
  have e2 := hall 2 (by simp)
  have e3 := hall 3 (by simp)
  have e4 := hall 4 (by simp)
  have e5 := hall 5 (by simp)
  have e6 := hall 6 (by simp)
  simp [Region.binds] at e0 e1 e2 e3
  subst e0; subst e1; subst e2; subst e3
  simp [Region.binds] at e4
  subst e4
  simp [Region.binds] at e5
  subst e5
  simp [Region.binds] at e6
  subst e6
  clear hall hr
  refine way_sil (n := 4) ?_
  u_c stepG_region_end (WJ.rely fo hfin) hF
  u_c stepG_end (WJ.rely fo hfin) hF
  g_unwB (WJ.rely fo hfin) hF Tryz.func116 (nm_done wgLink) Tryz.f116
  refine Goes.stop fun w1 h1 => ?_
  replace hF := WJ.rely fo hfin hF h1
  have hL : WgLib Q.P wgLink := by rw [hP]; exact wgLib
  have hA := fun (c : Frame) (hc : c.mode = .returning) (hq : QuitsD Q.P 2 0 (G c [wbot])) => doneWay (ro := ro) (i := i) hL hty fo hc hq w1 ⟨(WJ.wk hF).live, hF.f6 rfl⟩ (by rw [hfin]; exact hF.f4 rfl)
  simp only [body_done, doneFn, Option.getD_some] at hA
  rw [hP] at hA
  exact hA _ rfl (wquits _)
 case refine_3 => exact ⟨false, false, false, false, false, false, false, undef, undef, rfl, rfl, ⟨hF, by simp, by simp⟩, by simp, by simp⟩
 case refine_4 => simp
end
end Rn
namespace Rn
open Go.Conc
def freshL : List Nat := [6, 8, 10, 32, 33, 34, 35, 36, 37, 38, 39, 40, 41, 42, 43, 44, 45, 46, 47, 48, 49, 50, 51, 52, 53, 54]
def Fresh (T : Array Value) : Prop := T[2]? = some (.slice none 0 0) ∧ ∀ i ∈ freshL, T[i]? = some undef
def Pro (P : Program) (c : Code) (Q Qr : Act → World → Prop) (a : Act) (w : World) : Prop :=
 ∀ (b : Frame) (k : List Item) (cs : List Frame),
  (∃ a' w' k0, Q a' w' ∧ Steps P (lone (b.at a (.code c :: k)) cs w) (lone (b.at a' (.code (.refuse "") :: (k0 ++ k))) cs w')) ∨
  ∃ a' w' todo, Qr a' w' ∧ Steps P (lone (b.at a (.code c :: k)) cs w) (lone { b.at a' todo with mode := .returning } cs w')
def Pro.Q2 (N R : Act → World → Prop) : Exit → Act → World → Prop
 | .normal, a, w => N a w
 | .ret, a, w => R a w
 | _, _, _ => False
section
variable {P : Program} {Q Qr : Act → World → Prop} {a : Act} {w : World}
theorem pro_stop (h : Q a w) : Pro P (.refuse "") Q Qr a w := fun b k cs => .inl ⟨a, w, [], h, .refl _ _⟩
theorem pro_left {x y : Code} (h : Pro P x Q Qr a w) : Pro P (.seq x y) Q Qr a w := fun b k cs => by
 rcases h b (.code y :: k) cs with ⟨a', w', k0, hq, hs⟩ | ⟨a', w', todo, hq, hs⟩
 ·exact .inl ⟨a', w', k0 ++ [.code y], hq, by rw [List.append_assoc]; exact .head step_seq hs⟩
 ·exact .inr ⟨a', w', todo, hq, .head step_seq hs⟩
theorem pro_seq {x y : Code} (h : x.wp P (Pro.Q2 (Pro P y Q Qr) Qr) a w) : Pro P (.seq x y) Q Qr a w := fun b k cs => by
 obtain ⟨e, a1, w1, hq, harr⟩ := h b (.code y :: k) cs
 cases e with
 | normal =>
  rcases hq b k cs with ⟨a', w', k0, hq, hs⟩ | ⟨a', w', todo, hq, hs⟩
  ·exact .inl ⟨a', w', k0, hq, .head step_seq (Steps.trans harr hs)⟩
  ·exact .inr ⟨a', w', todo, hq, .head step_seq (Steps.trans harr hs)⟩
 | ret =>
  obtain ⟨todo, hs⟩ := harr
  exact .inr ⟨a1, w1, todo, hq, .head step_seq hs⟩
 | exit id => exact hq.elim
 | goto l => exact hq.elim
 | panic ch => exact hq.elim
 | outgrown => exact hq.elim
theorem Res.of_pro {R : Bool → Value → World → Prop} {f : FuncId} {fn : Func} {c : Code} {ts : Array Value} (hf : P.funcs[f]? = some fn)
  (h : ∀ t d, Pro P c (fun a w' => a.defers = [] ∧ R true (.tuple #[.int .i64 f, .tuple a.tmps]) w') (fun a w' => a.defers = [] ∧ ∃ v, (results fn a.tmps).run P w' = .ok v w' ∧ R false v w') ⟨ts, []⟩ (w.tp t d)) :
  Res P R ⟨fra f ts [.code c] false, [Xb], w⟩ := fun t d => by
 rcases h t d (base f) [] [Xb] with ⟨a', w', k0, ⟨hd, hq⟩, K, hK⟩ | ⟨a', w', todo, ⟨hd, v, hr, hq⟩, K, hK⟩
 ·obtain ⟨ts', ds⟩ := a'
  cases hd
  exact ⟨K, true, _, w', _, hK, hq, .inr ⟨rfl, f, ts', k0 ++ [], rfl, rfl⟩⟩
 ·obtain ⟨ts', ds⟩ := a'
  cases hd
  refine ⟨K, false, v, w', _, hK, hq, .inl ⟨rfl, ?_⟩⟩
  exact ⟨rfl, rfl, rfl, fn, hf, hr⟩
end
end Rn
namespace Rn
open Go.Conc Go.RowKit Go.Conc.Lib Go.ConcR.Gen Go.ConcN.Gen
open Go.ConcN (WgLive PayAt Has AtR0 RW AsideCell)
open Go.ConcR (KK WgAt stA smA rd wr mk Payload DC0)
noncomputable def cbody : Code := Tryz.f68.body.getD .skip
noncomputable def cloop : Code := match cbody with | .seq _ (.seq _ (.seq _ (.seq _ (.seq (.seq _ (.block _ (.loop c))) _)))) => c | _ => .skip
noncomputable def ctail : Code := match cbody with | .seq _ (.seq _ (.seq _ (.seq _ (.seq _ x)))) => x | _ => .skip
noncomputable def cend : Code := match ctail with | .seq _ x => x | _ => .skip
theorem array55 (T : Array Value) (h : T.size = 55) : ∃ v0 v1 v2 v3 v4 v5 v6 v7 v8 v9 v10 v11 v12 v13 v14 v15 v16 v17 v18 v19 v20 v21 v22 v23 v24 v25 v26 v27 v28 v29 v30 v31 v32 v33 v34 v35 v36 v37 v38 v39 v40 v41 v42 v43 v44 v45 v46 v47 v48 v49 v50 v51 v52 v53 v54, T = #[v0, v1, v2, v3, v4, v5, v6, v7, v8, v9, v10, v11, v12, v13, v14, v15, v16, v17, v18, v19, v20, v21, v22, v23, v24, v25, v26, v27, v28, v29, v30, v31, v32, v33, v34, v35, v36, v37, v38, v39, v40, v41, v42, v43, v44, v45, v46, v47, v48, v49, v50, v51, v52, v53, v54] := by
 obtain ⟨l⟩ := T
 simp only [List.size_toArray] at h
 rcases l with _ | ⟨v0, l⟩
 ·simp at h
 rcases l with _ | ⟨v1, l⟩
 ·simp at h
 rcases l with _ | ⟨v2, l⟩
 ·simp at h
 rcases l with _ | ⟨v3, l⟩
 ·simp at h
 rcases l with _ | ⟨v4, l⟩
 ·simp at h
 rcases l with _ | ⟨v5, l⟩
 ·simp at h
 rcases l with _ | ⟨v6, l⟩
 ·simp at h
 rcases l with _ | ⟨v7, l⟩
 ·simp at h
 rcases l with _ | ⟨v8, l⟩
 ·simp at h
 rcases l with _ | ⟨v9, l⟩
 ·simp at h
 rcases l with _ | ⟨v10, l⟩
 ·simp at h
 rcases l with _ | ⟨v11, l⟩
 ·simp at h
 rcases l with _ | ⟨v12, l⟩
 ·simp at h
 rcases l with _ | ⟨v13, l⟩
 ·simp at h
 rcases l with _ | ⟨v14, l⟩
 ·simp at h
 rcases l with _ | ⟨v15, l⟩
 ·simp at h
 rcases l with _ | ⟨v16, l⟩
 ·simp at h
 rcases l with _ | ⟨v17, l⟩
 ·simp at h
 rcases l with _ | ⟨v18, l⟩
 ·simp at h
 rcases l with _ | ⟨v19, l⟩
 ·simp at h
 rcases l with _ | ⟨v20, l⟩
 ·simp at h
 rcases l with _ | ⟨v21, l⟩
 ·simp at h
 rcases l with _ | ⟨v22, l⟩
 ·simp at h
 rcases l with _ | ⟨v23, l⟩
 ·simp at h
 rcases l with _ | ⟨v24, l⟩
 ·simp at h
 rcases l with _ | ⟨v25, l⟩
 ·simp at h
 rcases l with _ | ⟨v26, l⟩
 ·simp at h
 rcases l with _ | ⟨v27, l⟩
 ·simp at h
 rcases l with _ | ⟨v28, l⟩
 ·simp at h
 rcases l with _ | ⟨v29, l⟩
 ·simp at h
 rcases l with _ | ⟨v30, l⟩
 ·simp at h
 rcases l with _ | ⟨v31, l⟩
 ·simp at h
 rcases l with _ | ⟨v32, l⟩
 ·simp at h
 rcases l with _ | ⟨v33, l⟩
 ·simp at h
 rcases l with _ | ⟨v34, l⟩
 ·simp at h
 rcases l with _ | ⟨v35, l⟩
 ·simp at h
 rcases l with _ | ⟨v36, l⟩
 ·simp at h
 rcases l with _ | ⟨v37, l⟩
 ·simp at h
 rcases l with _ | ⟨v38, l⟩
 ·simp at h
 rcases l with _ | ⟨v39, l⟩
 ·simp at h
 rcases l with _ | ⟨v40, l⟩
 ·simp at h
 rcases l with _ | ⟨v41, l⟩
 ·simp at h
 rcases l with _ | ⟨v42, l⟩
 ·simp at h
 rcases l with _ | ⟨v43, l⟩
 ·simp at h
 rcases l with _ | ⟨v44, l⟩
 ·simp at h
 rcases l with _ | ⟨v45, l⟩
 ·simp at h
 rcases l with _ | ⟨v46, l⟩
 ·simp at h
 rcases l with _ | ⟨v47, l⟩
 ·simp at h
 rcases l with _ | ⟨v48, l⟩
 ·simp at h
 rcases l with _ | ⟨v49, l⟩
 ·simp at h
 rcases l with _ | ⟨v50, l⟩
 ·simp at h
 rcases l with _ | ⟨v51, l⟩
 ·simp at h
 rcases l with _ | ⟨v52, l⟩
 ·simp at h
 rcases l with _ | ⟨v53, l⟩
 ·simp at h
 rcases l with _ | ⟨v54, l⟩
 ·simp at h
 rcases l with _ | ⟨x, l⟩
 ·exact ⟨v0, v1, v2, v3, v4, v5, v6, v7, v8, v9, v10, v11, v12, v13, v14, v15, v16, v17, v18, v19, v20, v21, v22, v23, v24, v25, v26, v27, v28, v29, v30, v31, v32, v33, v34, v35, v36, v37, v38, v39, v40, v41, v42, v43, v44, v45, v46, v47, v48, v49, v50, v51, v52, v53, v54, rfl⟩
 ·simp at h
structure TC (T : Array Value) (rb fb wg n : Nat) : Prop where
 size : T.size = 55
 s1 : T[1]? = some (.pointer (some ⟨rb, 0, none⟩))
 s3 : T[3]? = some (.pointer (some ⟨fb, 0, none⟩))
 s4 : T[4]? = some (.pointer (some ⟨wg, 0, none⟩))
 fresh : Fresh T
structure FC (Q : Ph) (n c : Nat) (xs : List Int) (rb fb blk off : Nat) (w : World) : Prop where
 b0 : Q.B0 ≤ w.heap.size
 rbx : w.cell? ⟨rb, 0, none⟩ = some (.slice (some ⟨blk, off, none⟩) n c)
 fbx : w.cell? ⟨fb, 0, none⟩ = some (.slice (some ⟨Q.C, 0, none⟩) n n)
 rows : ∀ k, k < 4 * n → w.cell? ⟨blk, off + k, none⟩ = some (.int .i64 (nth xs k))
structure GC (Q : Ph) (rb fb blk : Nat) : Prop where
 rb : St0 Q rb ∧ ¬ Q.SB rb
 fb : St0 Q fb ∧ ¬ Q.SB fb
 blk : St0 Q blk ∧ ¬ Q.SB blk
section
variable {Q : Ph} {n c : Nat} {xs : List Int} {rb fb blk off : Nat}
theorem FC.keeps (g : GC Q rb fb blk) (own : Bl) : Keeps Q own (FC Q n c xs rb fb blk off) := fun w w' s h => by
 have hb0 := h.b0
 have k : ∀ b, St0 Q b → w'.heap[b]? = w.heap[b]? := fun b hb => s.block b (by have := hb.1; omega) (.inr hb)
 exact ⟨Nat.le_trans h.b0 s.size, (cell_blk (k _ g.rb.1) 0).trans h.rbx, (cell_blk (k _ g.fb.1) 0).trans h.fbx, fun j hj => (cell_blk (k _ g.blk.1) _).trans (h.rows j hj)⟩
structure FX (Q : Ph) (n c : Nat) (xs : List Int) (rb fb blk off x : Nat) (v : Value) (w : World) : Prop where
 fc : FC Q n c xs rb fb blk off w
 lt : x < w.heap.size
 ge : Q.B0 ≤ x
 obj : w.heap[x]? = some (.cells #[v] 3)
theorem FX.keeps {x : Nat} {v : Value} (g : GC Q rb fb blk) : Keeps Q (fun b => b = x) (FX Q n c xs rb fb blk off x v) := fun w w' s h =>
 ⟨FC.keeps g _ w w' s h.fc, Nat.lt_of_lt_of_le h.lt s.size, h.ge, (s.block x h.lt (.inl rfl)).trans h.obj⟩
theorem FX.cell {x : Nat} {v : Value} {w : World} (h : FX Q n c xs rb fb blk off x v w) : w.cell? ⟨x, 0, none⟩ = some v := by simp [World.cell?, h.obj]
theorem FX.thaw {x : Nat} {v : Value} {w : World} (h : FX Q n c xs rb fb blk off x v w) : w.frozen? ⟨x, 0, none⟩ = false := by simp [World.frozen?, h.obj]
theorem nextG {P : Program} {main : Bool} {R : Bl → World → World → Prop} {D : Bl → World → World → Array Event → Prop} {Stop : Bl → Goroutine → World → Prop} {own : Bl} {g : Goroutine} {w : World} (hg : g.status = .running)
  (h : ∀ w1, R own w w1 → (stepG P main g w1).goes fun g' w' es => D own w1 w' es ∧ WayG P main R D Stop (Plus own w1 w') g' w') : WayG P main R D Stop own g w :=
 .next hg fun w1 h1 => by
  obtain ⟨g', w', es, e, d, k⟩ := goes_elim (h w1 h1)
  exact ⟨g', w', es, e, d, k⟩
theorem SW.mono {K K' : Bl → Goroutine → World → Prop} (hk : ∀ o g w, K o g w → K' o g w) {own : Bl} {g : Goroutine} {w : World} (h : SW Q K own g w) : SW Q K' own g w :=
 WayG.bind' (fun _ _ _ x => x) (fun _ _ _ _ x => x) (fun o g w x => .stop fun w1 h1 => hk _ _ _ (x w1 h1)) h
theorem SKd.mono {K K' : Bl → Goroutine → World → Prop} (hk : ∀ o g w, K o g w → K' o g w) {own : Bl} {g : Goroutine} {w : World} (h : SKd Q K own g w) : SKd Q K' own g w := by
 obtain ⟨h1, g', h2, h3⟩ := h
 exact ⟨h1, g', h2, h3.mono hk⟩
theorem SW2.mono {K K' Out : Bl → Goroutine → World → Prop} (hk : ∀ o g w, K o g w → K' o g w) {vs : Nat} {own : Bl} {g : Goroutine} {w : World} (h : SW2 Q K Out vs own g w) : SW2 Q K' Out vs own g w :=
 ⟨h.1, fun v hv hw => ⟨(h.2 v hv hw).1, fun e => by
  obtain ⟨g', h2, h3⟩ := (h.2 v hv hw).2 e
  exact ⟨g', h2, h3.mono hk⟩⟩⟩
theorem SW1.mono {K K' Out : Bl → Goroutine → World → Prop} (hk : ∀ o g w, K o g w → K' o g w) {own : Bl} {g : Goroutine} {w : World} (h : SW1 Q K Out own g w) : SW1 Q K' Out own g w :=
 ⟨h.1, fun v hv hw => by
  obtain ⟨g', h1, h2, h3⟩ := h.2 v hv hw
  exact ⟨g', h1, h2, fun e => (h3 e).mono fun _ _ _ x => x.mono hk⟩⟩
theorem none_own (x : Nat) : (fun b : Nat => b = x ∧ b ≠ x) = (fun _ => False) := by
 funext b
 simp
def AnchC (Q : Ph) (n c : Nat) (xs : List Int) (rb fb blk off : Nat) (cs : List Frame) (o : Bl) (g : Goroutine) (w : World) : Prop :=
 ∃ T ops, TC T rb fb Q.Wg n ∧ ctail = .seq (.region 11 ops false) cend ∧ Anch wgLink Q (FC Q n c xs rb fb blk off) (fun _ => False) ((base 68).at ⟨T, []⟩ [.inRegion ops [0], .code cend]) cs o g w
def ZC (Q : Ph) (n c : Nat) (xs : List Int) (rb fb blk off : Nat) (cs : List Frame) (g : Goroutine) (w : World) : Prop :=
 ∃ T, TC T rb fb Q.Wg n ∧ g = G ((base 68).at ⟨T, []⟩ [.code cend]) cs ∧ FC Q n c xs rb fb blk off w
def OutC (Q : Ph) (n c : Nat) (xs : List Int) (rb fb blk off : Nat) (cs : List Frame) (o : Bl) (g : Goroutine) (w : World) : Prop :=
 o = (fun _ => False) ∧ Goes Q.P true (RelyS Q (fun _ => False)) DC0 (ZC Q n c xs rb fb blk off cs) (2 + 30) g w
theorem ctail_eq : ∃ o, ctail = .seq (.region 11 #[o] false) cend ∧ o.dst = some 31 ∧ o.op = .call { callee := .value (.func 118), args := #[.tmp 4], argTypes := #[144] } ∧ o.guard = none := by
 refine ⟨_, rfl, rfl, rfl, rfl⟩
section
variable {P : Program} {own : Bl} {K : Bl → Goroutine → World → Prop} {w : World}
theorem sw_goesP (hP : Q.P = P) {n : Nat} {g : Goroutine} (h : Goes P true (RelyS Q own) DC0 (fun g w => SW Q K own g w) n g w) : SW Q K own g w := by
 subst hP
 exact sw_goes h
theorem nextS (hP : Q.P = P) {g : Goroutine} (hg : g.status = .running) (h : ∀ w1, RelyS Q own w w1 → ∃ g' w' es, stepG P true g w1 = .go g' w' es ∧ DidS Q own w1 w' es ∧ SW Q K (Plus own w1 w') g' w') : SW Q K own g w := by
 subst hP
 exact WayG.next hg h
theorem nextGS (hP : Q.P = P) {g : Goroutine} (hg : g.status = .running) (h : ∀ w1, RelyS Q own w w1 → (stepG P true g w1).goes fun g' w' es => DidS Q own w1 w' es ∧ SW Q K (Plus own w1 w') g' w') : SW Q K own g w := by
 subst hP
 exact nextG hg h
theorem callS (hP : Q.P = P) {b : Frame} {a : Act} {k : List Item} {cs : List Frame} {ops : Array Oper} {i : Nat} {rest : List Nat} {o : Oper} {f : FuncId} {fn : Func} {c : Code} {args : Array Operand} {ats : Array TypeId} {xs : Array Value}
  (ho : ops[i]? = some o) (hw : Region.wanted o (yielded ops a.tmps) = true) (hk : b.kind ≠ .early) (hop : o.op = .call { callee := .value (.func f), args, argTypes := ats })
  (hf : P.funcs[f]? = some fn) (hname : (fn.name == "runtime.NumGoroutine") = false) (hb : fn.body = some c) (hx : args.map a.eval = xs)
  (h : ∀ w1, RelyS Q own w w1 → SW Q K own (G (Frame.enter P f xs .normal) (b.at a (.inRegion ops (i :: rest) :: k) :: cs)) w1) : SW Q K own (G (b.at a (.inRegion ops (i :: rest) :: k)) cs) w :=
 nextS hP rfl fun w1 h1 => ⟨_, _, _, stepG_callE ho hw hk hop hf hname hb hx, DidS.quiet Q own w1, by rw [Plus.same rfl]; exact h w1 h1⟩
theorem addE {F : World → Prop} {b₀ : Frame} {a₀ : Act} {ops₀ : Array Oper} {i₀ : Nat} {rest₀ : List Nat} {k₀ : List Item} {cs : List Frame} (H : WgLib Q.P wgLink) (hF2 : Keeps Q own F) (ho : ¬ own Q.Wg)
  (hT : ∀ w, F w → WgLive Q.ty Q.Wg w → SW Q K own (G (b₀.at (a₀.put ((ops₀[i₀]?).bind (·.dst)) (.tuple #[])) (.inRegion ops₀ rest₀ :: k₀)) cs) w) (hF : F w ∧ WgLive Q.ty Q.Wg w) :
  SW Q (Ev1 Q #[mk .disable] (SA1 Q (Ev1 Q #[mk .enable] K))) own (G (Frame.enter Q.P 114 #[.pointer (some ⟨Q.Wg, 0, none⟩), .int .i64 1] .normal) (b₀.at a₀ (.inRegion ops₀ (i₀ :: rest₀) :: k₀) :: cs)) w := by
 rw [enter_at (P := Q.P) (f := 114) _ H.f_add rfl]
 exact addS H hF2 ho hT w hF
theorem waitE {F : World → Prop} {b₀ : Frame} {a₀ : Act} {ops₀ : Array Oper} {i₀ : Nat} {rest₀ : List Nat} {k₀ : List Item} {cs : List Frame} (H : WgLib Q.P wgLink) (hF2 : Keeps Q own F) (hF : F w ∧ WgLive Q.ty Q.Wg w) :
  SW Q (SKd Q (Anch wgLink Q F own (b₀.at a₀ (.inRegion ops₀ (i₀ :: rest₀) :: k₀)) cs)) own (G (Frame.enter Q.P 118 #[.pointer (some ⟨Q.Wg, 0, none⟩)] .normal) (b₀.at a₀ (.inRegion ops₀ (i₀ :: rest₀) :: k₀) :: cs)) w := by
 rw [enter_at (P := Q.P) (f := 118) _ H.f_wait rfl]
 exact waitS H hF2 w hF
end
theorem fc_rely (gc : GC Q rb fb blk) {own : Bl} {w w1 : World} (h : FC Q n c xs rb fb blk off w ∧ WgLive Q.ty Q.Wg w) (r : RelyS Q own w w1) : FC Q n c xs rb fb blk off w1 ∧ WgLive Q.ty Q.Wg w1 := fs_rely (FC.keeps gc own) h r
theorem fx_rely (gc : GC Q rb fb blk) {x : Nat} {v : Value} {w w1 : World} (h : FX Q n c xs rb fb blk off x v w ∧ WgLive Q.ty Q.Wg w) (r : RelyS Q (fun b => b = x) w w1) : FX Q n c xs rb fb blk off x v w1 ∧ WgLive Q.ty Q.Wg w1 := fs_rely (FX.keeps gc) h r
theorem plus_alloc (w : World) (o : Obj) : Plus (fun _ => False) w (w.alloc o) = fun b => b = w.heap.size := by
 funext b
 simp only [Plus, Made, World.size_alloc, false_or, eq_iff_iff]
 omega
theorem fx_alloc {w : World} (gc : GC Q rb fb blk) (gq : Geo Q) (h : FC Q n c xs rb fb blk off w ∧ WgLive Q.ty Q.Wg w) : FX Q n c xs rb fb blk off w.heap.size (.int .i64 0) (w.alloc (.cells #[.int .i64 0] 3)) ∧ WgLive Q.ty Q.Wg (w.alloc (.cells #[.int .i64 0] 3)) := by
 have hs : Stays (fun b => (fun _ => False) b ∨ St0 Q b) w (w.alloc (.cells #[.int .i64 0] 3)) := ⟨rfl, rfl, rfl, by simp, fun b hb _ => by show (w.heap.push _)[b]? = _; rw [Array.getElem?_push, if_neg (by omega)]⟩
 refine ⟨⟨FC.keeps gc _ _ _ hs h.1, by simp, h.1.b0, by show (w.heap.push _)[w.heap.size]? = _; simp⟩, ?_⟩
 obtain ⟨st, sm, hl⟩ := h.2
 have hlt := (Array.getElem?_eq_some_iff.1 hl).1
 refine ⟨st, sm, ?_⟩
 show (w.heap.push _)[Q.Wg]? = _
 rw [Array.getElem?_push, if_neg (by omega)]
 exact hl
theorem fx_store {w : World} {x : Nat} {v v' : Value} (gq : Geo Q) (h : FX Q n c xs rb fb blk off x v w ∧ WgLive Q.ty Q.Wg w) (gc : GC Q rb fb blk) : FX Q n c xs rb fb blk off x v' (w.setCell ⟨x, 0, none⟩ v') ∧ WgLive Q.ty Q.Wg (w.setCell ⟨x, 0, none⟩ v') := by
 have hA := aside_setCell w ⟨x, 0, none⟩ v'
 have hge := h.1.ge
 have hs : Stays (fun b => (fun _ => False) b ∨ St0 Q b) w (w.setCell ⟨x, 0, none⟩ v') := ⟨hA.tape, hA.os, hA.output, Nat.le_of_eq hA.size.symm, fun b hb hk => hA.block b (by rintro rfl; have := (hk.resolve_left id).1; omega)⟩
 refine ⟨⟨FC.keeps gc _ _ _ hs h.1.fc, by rw [hA.size]; exact h.1.lt, hge, ?_⟩, ?_⟩
 ·rw [setCell_get]
  simp [h.1.obj, putO]
 ·obtain ⟨st, sm, hl⟩ := h.2
  exact ⟨st, sm, (hA.block _ (by have := gq.wg; simp only; omega)).trans hl⟩
theorem spawns_goes {P : Program} {own : Bl} {w : World} (hP : Q.P = P) {A : Bl → Goroutine → World → Prop} {r m : Nat} {g : Goroutine} (h : Goes P true (RelyS Q own) DC0 (fun g w => Spawns Q A r own g w) m g w) : Spawns Q A r own g w := by
 cases r with
 | zero => exact sw_goesP hP h
 | succ r => exact sw_goesP hP h
theorem wk_start {w : World} {x k : Nat} (gq : Geo Q) (gc : GC Q rb fb blk) (hX : FX Q n c xs rb fb blk off x (.int .i64 k) w) (hl : WgLive Q.ty Q.Wg w) (hp : PayAt Q.C Q.n w) : WK Q (RoX Q x) n c xs rb x fb blk off k (fun _ => False) w where
 dis b hb := by
  have hb0 := hX.fc.b0
  refine ⟨?_, id⟩
  rcases hb with (⟨h1, _⟩ | rfl) | rfl | rfl
  ·omega
  ·exact hX.lt
  ·have := gq.wg; omega
  ·have := gq.c; omega
 roC b hb := by
  rcases hb with ⟨_, _, h3, _⟩ | rfl
  ·exact h3
  ·have := hX.ge; have := gq.c; omega
 ne := Ne.symm gq.ne
 rrb := .inl ⟨gc.rb.1.1, gc.rb.1.2.1, gc.rb.1.2.2, gc.rb.2⟩
 rib := .inr rfl
 rfb := .inl ⟨gc.fb.1.1, gc.fb.1.2.1, gc.fb.1.2.2, gc.fb.2⟩
 rblk := .inl ⟨gc.blk.1.1, gc.blk.1.2.1, gc.blk.1.2.2, gc.blk.2⟩
 live := hl
 pay := hp
 rbx := hX.fc.rbx
 ibx := hX.cell
 fbx := hX.fc.fbx
 rows := hX.fc.rows
set_option maxRecDepth 100000 in
set_option maxHeartbeats 8000000 in
theorem spawnsC {zs : Nat → List Int} {noT : TypeId} (hno : Tryz.prog.toTables.info? noT = none) (gq : Geo Q) (gc : GC Q rb fb blk) (hP : Q.P = Tryz.prog) (hty : Q.ty = wgLink.tWg) (hfin : Q.fin = FinT zs) (hn : Q.n = n) (hG : Tryz.prog.globals.size ≤ Q.Wg) (hn20 : n ≤ 20)
  (hlone : ∀ i, i < n → ∀ w t d, Calls Tryz.prog 117 #[.slice (some ⟨Tryz.prog.globals.size, 0, none⟩) n c, .int .i64 i] ((winW w n xs noT).tp t d) fun e w' => ∃ v, e = .returned v ∧ ∃ A m c', v = .slice A m c' ∧ m * 4 = (zs i).length ∧ ((m = 0 ∧ A = none) ∨ 0 < m ∧ ∃ b off, A = some ⟨b, off, none⟩ ∧ b ≠ Tryz.prog.globals.size ∧ ∀ k, k < 4 * m → w'.cell? ⟨b, off + k, none⟩ = some (.int .i64 (nth (zs i) k))))
  (cs : List Frame) : ∀ (r k : Nat), k + r = n → ∀ (T : Array Value) (w : World), TC T rb fb Q.Wg n → T[24]? = some (.int .i64 n) → T[25]? = some (.int .i64 k) → FC Q n c xs rb fb blk off w ∧ WgLive Q.ty Q.Wg w →
   Spawns Q (AnchC Q n c xs rb fb blk off cs) r (fun _ => False) (G ((base 68).at ⟨T, []⟩ [.code cloop, .inLoop cloop, .inBlock 0, .code ctail]) cs) w := by
 have hL : WgLib Q.P wgLink := by rw [hP]; exact wgLib
 intro r
 induction r with
 | zero =>
  intro k hk T w hT h24 h25 hF
  obtain ⟨v0, v1, v2, v3, v4, v5, v6, v7, v8, v9, v10, v11, v12, v13, v14, v15, v16, v17, v18, v19, v20, v21, v22, v23, v24, v25, v26, v27, v28, v29, v30, v31, v32, v33, v34, v35, v36, v37, v38, v39, v40, v41, v42, v43, v44, v45, v46, v47, v48, v49, v50, v51, v52, v53, v54, rfl⟩ := array55 T hT.size
  have hfr := hT.fresh
  simp [Fresh, freshL] at hfr
  obtain ⟨rfl, rfl, rfl, rfl, rfl, rfl, rfl, rfl, rfl, rfl, rfl, rfl, rfl, rfl, rfl, rfl, rfl, rfl, rfl, rfl, rfl, rfl, rfl, rfl, rfl, rfl, rfl⟩ := hfr
  have t1 := hT.s1
  have t3 := hT.s3
  have t4 := hT.s4
  simp at t1 t3 t4 h24 h25
  subst t1; subst t3; subst t4; subst h24; subst h25
  obtain rfl : k = n := by omega
  have e26 : decide ((k : Int) < (k : Int)) = false := by simp
  unfold Spawns
  refine sw_goesP hP (n := 12) ?_
  simp only [cloop, ctail, cend, cbody, Tryz.f68, Option.getD_some]
  u_c stepG_seq (fc_rely gc) hF
  u_reg (fc_rely gc) hF
  u_op (fc_rely gc) hF
  u_c stepG_region_end (fc_rely gc) hF
  u_c stepG_seq (fc_rely gc) hF
  u_cnd false (fc_rely gc) hF
  u_exit (fc_rely gc) hF
  u_c stepG_seq (fc_rely gc) hF
  u_reg (fc_rely gc) hF
  refine Goes.stop fun w1 h1 => ?_
  replace hF := fc_rely gc hF h1
  refine callS hP rfl rfl (by k_ne) rfl Tryz.func118 (nm_wait wgLink) rfl (xs := #[.pointer (some ⟨Q.Wg, 0, none⟩)]) (by simp [Act.eval]) fun w2 h2 => ?_
  replace hF := fc_rely gc hF h2
  rw [← hP]
  exact (waitE hL (FC.keeps gc _) hF).mono fun o g w x => x.mono fun o g w y => ⟨_, _, ⟨rfl, rfl, rfl, rfl, ⟨rfl, List.forall_mem_cons.2 ⟨rfl, List.forall_mem_cons.2 ⟨rfl, List.forall_mem_cons.2 ⟨rfl, List.forall_mem_cons.2 ⟨rfl, List.forall_mem_cons.2 ⟨rfl, List.forall_mem_cons.2 ⟨rfl, List.forall_mem_cons.2 ⟨rfl, List.forall_mem_cons.2 ⟨rfl, List.forall_mem_cons.2 ⟨rfl, List.forall_mem_cons.2 ⟨rfl, List.forall_mem_cons.2 ⟨rfl, List.forall_mem_cons.2 ⟨rfl, List.forall_mem_cons.2 ⟨rfl, List.forall_mem_cons.2 ⟨rfl, List.forall_mem_cons.2 ⟨rfl, List.forall_mem_cons.2 ⟨rfl, List.forall_mem_cons.2 ⟨rfl, List.forall_mem_cons.2 ⟨rfl, List.forall_mem_cons.2 ⟨rfl, List.forall_mem_cons.2 ⟨rfl, List.forall_mem_cons.2 ⟨rfl, List.forall_mem_cons.2 ⟨rfl, List.forall_mem_cons.2 ⟨rfl, List.forall_mem_cons.2 ⟨rfl, List.forall_mem_cons.2 ⟨rfl, List.forall_mem_cons.2 ⟨rfl, List.forall_mem_nil _⟩⟩⟩⟩⟩⟩⟩⟩⟩⟩⟩⟩⟩⟩⟩⟩⟩⟩⟩⟩⟩⟩⟩⟩⟩⟩⟩⟩, rfl, y⟩
 | succ r ih =>
  intro k hk T w hT h24 h25 hF
  obtain ⟨v0, v1, v2, v3, v4, v5, v6, v7, v8, v9, v10, v11, v12, v13, v14, v15, v16, v17, v18, v19, v20, v21, v22, v23, v24, v25, v26, v27, v28, v29, v30, v31, v32, v33, v34, v35, v36, v37, v38, v39, v40, v41, v42, v43, v44, v45, v46, v47, v48, v49, v50, v51, v52, v53, v54, rfl⟩ := array55 T hT.size
  have hfr := hT.fresh
  simp [Fresh, freshL] at hfr
  obtain ⟨rfl, rfl, rfl, rfl, rfl, rfl, rfl, rfl, rfl, rfl, rfl, rfl, rfl, rfl, rfl, rfl, rfl, rfl, rfl, rfl, rfl, rfl, rfl, rfl, rfl, rfl, rfl⟩ := hfr
  have t1 := hT.s1
  have t3 := hT.s3
  have t4 := hT.s4
  simp at t1 t3 t4 h24 h25
  subst t1; subst t3; subst t4; subst h24; subst h25
  have hkn : (k : Int) < (n : Int) := by omega
  unfold Spawns
  refine sw_goesP hP (n := 12) ?_
  simp only [cloop, ctail, cend, cbody, Tryz.f68, Option.getD_some]
  u_c stepG_seq (fc_rely gc) hF
  u_reg (fc_rely gc) hF
  u_op (fc_rely gc) hF
  u_c stepG_region_end (fc_rely gc) hF
  u_c stepG_seq (fc_rely gc) hF
  u_cnd true (fc_rely gc) hF
  u_c stepG_skip (fc_rely gc) hF
  u_c stepG_seq (fc_rely gc) hF
  u_c stepG_block (fc_rely gc) hF
  u_c stepG_seq (fc_rely gc) hF
  u_reg (fc_rely gc) hF
  u_op (fc_rely gc) hF
  refine Goes.stop fun w1 h1 => ?_
  replace hF := fc_rely gc hF h1
  refine nextGS hP rfl fun w2 h2 => ?_
  replace hF := fc_rely gc hF h2
  refine goes_oper_k rfl rfl (by k_ne) (fun K hK => ?_)
  go_simp
  refine hK _ _ ⟨⟨rfl, rfl, rfl, by simp, fun b hb _ => by show (w2.heap.push _)[b]? = _; rw [Array.getElem?_push, if_neg (by omega)], fun e he => by have hm := mem_listed he; simp [go_sem, *] at hm⟩, ?_⟩
  clear hK K
  rw [plus_alloc]
  have hX := fx_alloc gc gq hF
  clear hF
  try walk_nrm
  generalize w2.alloc (.cells #[.int .i64 0] 3) = w3 at hX ⊢
  generalize w2.heap.size = x at hX ⊢
  refine nextGS hP rfl fun w4 h4 => ?_
  replace hX := fx_rely gc hX h4
  refine goes_oper_k rfl rfl (by k_ne) (fun K hK => ?_)
  have hc1 := hX.1.cell
  have hc2 := hX.1.thaw
  go_simp
  have hA := aside_setCell w4 ⟨x, 0, none⟩ (.int .i64 k)
  refine hK _ _ ⟨⟨hA.tape, hA.os, hA.output, Nat.le_of_eq hA.size.symm, fun b hb ho => hA.block b ho, fun e he => ?_⟩, ?_⟩
  ·have hm := mem_listed he
   simp [go_sem, storedEv, *] at hm
   subst hm
   refine ⟨fun y hy => ?_, by simp, by simp, by simp⟩
   simp [MemAct.ofEvent, MemAct.touch?] at hy
   subst hy
   exact .inr ⟨x, rfl, .inl (.inl rfl)⟩
  clear hK K hc1 hc2
  rw [Plus.same hA.size]
  replace hX := fx_store (v' := .int .i64 k) gq hX gc
  try walk_nrm
  refine sw_goesP hP (n := 3) ?_
  u_c stepG_region_end (fx_rely gc) hX
  u_c stepG_seq (fx_rely gc) hX
  u_reg (fx_rely gc) hX
  refine Goes.stop fun w1 h1 => ?_
  replace hX := fx_rely gc hX h1
  refine callS hP rfl rfl (by k_ne) rfl Tryz.func114 (nm_add wgLink) rfl (xs := #[.pointer (some ⟨Q.Wg, 0, none⟩), .int .i64 1]) (by simp [Act.eval]) fun w2 h2 => ?_
  replace hX := fx_rely gc hX h2
  rw [← hP]
  refine addE hL (FX.keeps gc) (by have := hX.1.ge; have := gq.wg; omega) (fun w hx hl => ?_) hX
  replace hX := And.intro hx hl
  clear hx hl
  try walk_nrm
  refine sw_goesP hP (n := 4) ?_
  u_c stepG_region_end (fx_rely gc) hX
  u_reg (fx_rely gc) hX
  u_op (fx_rely gc) hX
  refine Goes.stop fun w1 h1 => WayG.stop fun w2 h2 => ?_
  replace hX := fx_rely gc (fx_rely gc hX h1) h2
  rw [show Q.n - (r + 1) = k by omega]
  refine ⟨rfl, ?_⟩
  rw [hP, stepG_spawn (d := wcall Q.Wg rb x fb) (w' := w2) (f := .func 115) (c := #[.pointer (some ⟨Q.Wg, 0, none⟩), .pointer (some ⟨rb, 0, none⟩), .pointer (some ⟨x, 0, none⟩), .pointer (some ⟨fb, 0, none⟩)]) rfl rfl (by k_ne) (by simp [go_sem, wcall, Deferred.ofValue]) rfl]
  generalize hLx : listed _ _ _ _ _ = Lx
  have hL0 : Lx = #[] := by
   rw [← hLx]
   simp [listed, go_sem, seen, Deferred.ofValue]
   rfl
  subst hL0
  clear hLx
  refine ⟨_, _, x, rfl, rfl, fun hpay hlive => worker_way hno hP hty hfin hn (by omega) (hlone k (by omega)) (wk_start gq gc hX.1 hlive hpay) hG, ?next⟩
  case next =>
   have hF : FC Q n c xs rb fb blk off w2 ∧ WgLive Q.ty Q.Wg w2 := ⟨hX.1.fc, hX.2⟩
   rw [none_own]
   try walk_nrm
   refine spawns_goes hP (m := 12) ?_
   u_c stepG_region_end (fc_rely gc) hF
   u_c stepG_inBlock (fc_rely gc) hF
   u_reg (fc_rely gc) hF
   u_op (fc_rely gc) hF
   u_op (fc_rely gc) hF
   u_c stepG_region_end (fc_rely gc) hF
   u_c stepG_inLoop (fc_rely gc) hF
   refine Goes.stop fun w3 h3 => ?_
   replace hF := fc_rely gc hF h3
   refine ih (k + 1) (by omega) _ w3 ⟨rfl, rfl, rfl, rfl, ⟨rfl, List.forall_mem_cons.2 ⟨rfl, List.forall_mem_cons.2 ⟨rfl, List.forall_mem_cons.2 ⟨rfl, List.forall_mem_cons.2 ⟨rfl, List.forall_mem_cons.2 ⟨rfl, List.forall_mem_cons.2 ⟨rfl, List.forall_mem_cons.2 ⟨rfl, List.forall_mem_cons.2 ⟨rfl, List.forall_mem_cons.2 ⟨rfl, List.forall_mem_cons.2 ⟨rfl, List.forall_mem_cons.2 ⟨rfl, List.forall_mem_cons.2 ⟨rfl, List.forall_mem_cons.2 ⟨rfl, List.forall_mem_cons.2 ⟨rfl, List.forall_mem_cons.2 ⟨rfl, List.forall_mem_cons.2 ⟨rfl, List.forall_mem_cons.2 ⟨rfl, List.forall_mem_cons.2 ⟨rfl, List.forall_mem_cons.2 ⟨rfl, List.forall_mem_cons.2 ⟨rfl, List.forall_mem_cons.2 ⟨rfl, List.forall_mem_cons.2 ⟨rfl, List.forall_mem_cons.2 ⟨rfl, List.forall_mem_cons.2 ⟨rfl, List.forall_mem_cons.2 ⟨rfl, List.forall_mem_cons.2 ⟨rfl, List.forall_mem_nil _⟩⟩⟩⟩⟩⟩⟩⟩⟩⟩⟩⟩⟩⟩⟩⟩⟩⟩⟩⟩⟩⟩⟩⟩⟩⟩⟩⟩ rfl ?_ hF
   have hwr : IntKind.i64.wrap ((k : Int) + 1) = (k : Int) + 1 := by simp [IntKind.wrap, IntKind.min, IntKind.max, IntKind.signed, IntKind.bits] <;> omega
   simp [hwr]
theorem anchC_way (gq : Geo Q) (gc : GC Q rb fb blk) (hP : Q.P = Tryz.prog) (cs : List Frame) (o : Bl) (g : Goroutine) (w : World) (h : AnchC Q n c xs rb fb blk off cs o g w) : SW Q (SW1 Q (AnchC Q n c xs rb fb blk off cs) (OutC Q n c xs rb fb blk off cs)) o g w := by
 have hL : WgLib Q.P wgLink := by rw [hP]; exact wgLib
 obtain ⟨T, ops, hT, heq, h⟩ := h
 obtain ⟨op, e, hd, _⟩ := ctail_eq
 rw [e] at heq
 simp only [Code.seq.injEq, Code.region.injEq, true_and, and_true] at heq
 subst heq
 refine (waitR (Z := ZC Q n c xs rb fb blk off cs) (mT := 2) hL (FC.keeps gc _) (fun x => x) (fun w hx hl => ?_) o g w h).mono fun o g w x => x.mono fun o g w y => ⟨T, _, hT, e, y⟩
 have hF := And.intro hx hl
 refine Goes.step rfl fun w1 h1 => ?_
 replace hF := fc_rely gc hF h1
 rw [stepG_region_end]
 simp only [goes_go]
 have hd' : ((#[op] : Array Oper)[0]?).bind (·.dst) = some 31 := hd
 rw [hd']
 refine ⟨⟨rfl, rfl⟩, Goes.stop fun w2 h2 => ⟨T.setIfInBounds 31 (.tuple #[]), ?_, rfl, (fc_rely gc hF h2).1⟩⟩
 exact ⟨by simp [hT.size], by simp [hT.s1], by simp [hT.s3], by simp [hT.s4], by simp [hT.fresh.1], fun i hi => by rw [Array.getElem?_setIfInBounds_ne (by rintro rfl; revert hi; decide)]; exact hT.fresh.2 i hi⟩
theorem outC_run (cs : List Frame) (o : Bl) (g : Goroutine) (w : World) (h : OutC Q n c xs rb fb blk off cs o g w) : g.status = .running :=
 Goes.running (fun _ _ ⟨_, _, e, _⟩ => by rw [e]; rfl) w (RelyS.refl Q _ w) h.2
theorem anchC_run (cs : List Frame) (o : Bl) (g : Goroutine) (w : World) (h : AnchC Q n c xs rb fb blk off cs o g w) : g.status = .running := by
 obtain ⟨_, _, _, _, h⟩ := h
 exact Anch.running _ _ _ h
end
end Rn
end Go.Proofs.YtbpnbhemdbgmjaaGreat
