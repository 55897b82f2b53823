/-
  Contracts: ShareWeight, in the program and in the reference.
-/
import Derived.Test.YtdjhiegolojoaaaWVCopy
import Derived.Test.YtdjhiegolojoaaaWUnder
namespace Go.Proofs.Ytdjhiegolojoaaa
open Go.RowKit
set_option linter.unusedSimpArgs false
set_option linter.unusedVariables false

theorem rowF_new3S (w : World) (a b c : Int) (T : TypeId) : RowF (w.alloc (.cells #[.int .i64 a, .int .i64 b, .int .i64 c] T)) w.heap.size T 3 (ints [a, b, c]) :=
  RowF.of_row (World.rowIs_alloc w #[.int .i64 a, .int .i64 b, .int .i64 c] T _ (fun j hj => by simp at hj; match j, hj with | 0, _ => rfl | 1, _ => rfl | 2, _ => rfl))
def shOk (L : List (Nat × List Int)) (n : Nat) (M : List (Nat × List Int)) (q : Nat) (wt : Int) : Bool := vaultB L n M q && inB wt 0 50000
def shNew (L M : List (Nat × List Int)) (n : Nat) (wt x : Int) : List (Nat × List Int) := shTo L M n (Int.tdiv wt n) x n
def shB (L : List (Nat × List Int)) (n : Nat) (M : List (Nat × List Int)) (q : Nat) (wt x : Int) : Bool := shOk L n M q wt && vaultB L n (shNew L M n wt x) n
def shM (L : List (Nat × List Int)) (n : Nat) (M : List (Nat × List Int)) (q : Nat) (wt x : Int) : List (Nat × List Int) := if shB L n M q wt x = true then shNew L M n wt x else M
section
variable {L : List (Nat × List Int)} {n : Nat} {M : List (Nat × List Int)} {q : Nat} {wt : Int} (x : Int)
theorem sh_1 (h : vaultB L n M q = false) : shB L n M q wt x = false ∧ shM L n M q wt x = M := by simp [shM, shB, shOk, h]
theorem sh_2 (h : inB wt 0 50000 = false) : shB L n M q wt x = false ∧ shM L n M q wt x = M := by simp [shM, shB, shOk, h]
theorem sh_3 (h1 : vaultB L n M q = true) (h2 : inB wt 0 50000 = true) (h : vaultB L n (shNew L M n wt x) n = false) : shB L n M q wt x = false ∧ shM L n M q wt x = M := by simp [shM, shB, shOk, h1, h2, h]
theorem sh_t (h1 : vaultB L n M q = true) (h2 : inB wt 0 50000 = true) (h : vaultB L n (shNew L M n wt x) n = true) : shB L n M q wt x = true ∧ shM L n M q wt x = shNew L M n wt x := by simp [shM, shB, shOk, h1, h2, h]
end
def ShPost (w : World) (n : Nat) (L : List (Nat × List Int)) (q : Nat) (M : List (Nat × List Int)) (wt x : Int) (e : Ending) (w' : World) : Prop :=
  ∃ vR vL csR csL, e = .returned (.tuple #[.agg #[vR, vL], .bool (shB L n M q wt x)]) ∧ GN w' w.heap.size 41 67 4 vR n csR L ∧ GN w' w.heap.size 42 69 3 vL q csL (shM L n M q wt x) ∧ Below w.heap.size w w'
/-- What ShareWeight knows: the argument's box, the result's, the copy's (in block X), the copy's nests. -/
structure ShSt (w wr : World) (X gA n cA gB q cB : Nat) (L M : List (Nat × List Int)) (vR vL : Value) (csR csL : List Value) : Prop where
  arg : RowF wr w.heap.size 30 2 (pairV (.slice (some ⟨gA, 0, none⟩) n cA) (.slice (some ⟨gB, 0, none⟩) q cB))
  res : RowF wr (w.heap.size + 1) 30 2 (pairV (.slice none 0 0) (.slice none 0 0))
  out : RowF wr X 30 2 (pairV vR vL)
  ribs : GN wr (w.heap.size + 2) 41 67 4 vR n csR L
  loads : GN wr (w.heap.size + 2) 42 69 3 vL q csL M
  far : w.heap.size + 1 < X
  below : Below w.heap.size w wr
section
variable {w wr w' : World} {X gA n cA gB q cB : Nat} {L M M' : List (Nat × List Int)} {vR vL : Value} {csR csL : List Value}
theorem ShSt.after (h : ShSt w wr X gA n cA gB q cB L M vR vL csR csL) (hb : Below wr.heap.size wr w') : ShSt w w' X gA n cA gB q cB L M vR vL csR csL :=
  ⟨h.arg.after hb, h.res.after hb, h.out.after hb, h.ribs.after hb, h.loads.after hb, h.far, h.below.trans (hb.mono h.below.size)⟩
theorem ShSt.step {wy wz : World} {gL c k : Nat} {u : Value} {g' m' c' : Nat} {zs' : List Int} (h : ShSt w wr X gA n cA gB q cB L M vR (.slice (some ⟨gL, 0, none⟩) q c) csR csL) (hb : Below wr.heap.size wr wy) (hk : k < q) (hu : csL[k]? = some u)
    (ho : OwnR wz (w.heap.size + 2) 69 3 (.slice (some ⟨g', 0, none⟩) m' c') m' zs') (ha : AppRes wy wz (w.heap.size + 2) u (.slice (some ⟨g', 0, none⟩) m' c'))
    (e1 : rowN M' k = m' ∧ rowZ M' k = zs') (e2 : ∀ i, i < q → i ≠ k → rowN M' i = rowN M i ∧ rowZ M' i = rowZ M i) :
    ShSt w (wz.setCell ⟨gL, k, none⟩ (.slice (some ⟨g', 0, none⟩) m' c')) X gA n cA gB q cB L M' vR (.slice (some ⟨gL, 0, none⟩) q c) csR (csL.set k (.slice (some ⟨g', 0, none⟩) m' c')) := by
  have hy := h.after hb
  obtain ⟨gu, cu, hu1, hur⟩ := hy.loads.row k hk
  rw [hu] at hu1
  simp at hu1
  subst hu1
  obtain ⟨cc, hcT⟩ := hy.loads.cells.typeAt gL rfl
  obtain ⟨c2, hcU⟩ := hur.typeAt gu rfl
  obtain ⟨c3, hcX, _⟩ := hy.out
  have hgL2 := hy.loads.cells.ownLt gL rfl
  have hXlt := RowF.lt hy.out
  have hXu : X ≠ gu := fun e => by
    subst e
    rw [hcU] at hcX
    simp at hcX
  have hXL : X ≠ gL := fun e => by
    subst e
    rw [hcT] at hcX
    simp at hcX
  have hgz : wz.heap[gL]? = some (.cells cc 42) := by
    rw [ha.stay gL (Array.getElem?_eq_some_iff.1 hcT).1 (fun e => by
      simp [Value.ownBlock] at e
      subst e
      rw [hcU] at hcT
      simp at hcT)]
    exact hcT
  have hz : w.heap.size + 2 ≤ wy.heap.size := by have := hb.size; have := RowF.lt h.out; have := h.far; omega
  refine ⟨(RowF.below hy.arg ha.below (by omega)).set_other (by simp; omega) _, (RowF.below hy.res ha.below (by omega)).set_other (by simp; omega) _, (RowF.of_block hy.out (ha.stay X hXlt (fun e => by simp [Value.ownBlock] at e; exact hXu e.symm))).set_other (by simpa using hXL) _, ?_, ?_, h.far, (hy.below.trans (ha.below.mono (by omega))).setCell (by simp; omega) _⟩
  · exact (hy.ribs.beside ha (X := 69) (fun g hg => hur.typeAt g hg) (by decide) (by decide)).setCell (p := ⟨gL, k, none⟩) hgz (by decide) (by decide) _
  · exact GN.replace hy.loads (by decide) hk hu ho ha e1 e2
theorem GN.cellAt {w : World} {base : Nat} {T E : TypeId} {K n : Nat} {cs : List Value} {L : List (Nat × List Int)} {g c : Nat} (h : GN w base T E K (.slice (some ⟨g, 0, none⟩) n c) n cs L) {i : Nat} (hi : i < n) : w.cell? ⟨g, i, none⟩ = cs[i]? := by
  rcases h.cells.form with ⟨e, _, _⟩ | ⟨g0, cap, e, _, _, _, hc⟩
  · simp at e
  · simp at e
    obtain ⟨rfl, rfl⟩ := e
    exact hc i hi
theorem GN.some {w : World} {base : Nat} {T E : TypeId} {K n : Nat} {A : Option Addr} {cs : List Value} {L : List (Nat × List Int)} {c : Nat} (h : GN w base T E K (.slice A n c) n cs L) (hn : 0 < n) : ∃ g, A = some ⟨g, 0, none⟩ := by
  rcases h.cells.form with ⟨_, e, _⟩ | ⟨g0, cap, e, _, _, _, hc⟩
  · omega
  · simp at e
    exact ⟨g0, e.1⟩
/-- The blocks behind the loads, the copy's block and a row of loads are three. -/
theorem ShSt.three {gL c k gu cu : Nat} (h : ShSt w wr X gA n cA gB q cB L M vR (.slice (some ⟨gL, 0, none⟩) q c) csR csL) (hk : k < q) (hu : csL[k]? = some (.slice (some ⟨gu, 0, none⟩) (rowN M k) cu)) : gu ≠ X ∧ gL ≠ X ∧ gu ≠ gL ∧ gu < wr.heap.size ∧ gL < wr.heap.size ∧ X < wr.heap.size := by
  obtain ⟨g2, c2, hu1, hur⟩ := h.loads.row k hk
  rw [hu] at hu1
  simp at hu1
  obtain ⟨rfl, rfl⟩ := hu1
  obtain ⟨cc, hcT⟩ := h.loads.cells.typeAt gL rfl
  obtain ⟨c3, hcU⟩ := hur.typeAt gu rfl
  obtain ⟨c4, hcX, _⟩ := h.out
  refine ⟨fun e => ?_, fun e => ?_, fun e => ?_, (Array.getElem?_eq_some_iff.1 hcU).1, (Array.getElem?_eq_some_iff.1 hcT).1, RowF.lt h.out⟩
  · subst e
    rw [hcU] at hcX
    simp at hcX
  · subst e
    rw [hcT] at hcX
    simp at hcX
  · subst e
    rw [hcU] at hcT
    simp at hcT
end

set_option maxRecDepth 100000 in
set_option maxHeartbeats 6400000 in
theorem iShare_any (gA n cA gB q cB : Nat) (L M : List (Nat × List Int)) (wt x : Int) (w : World) (hA : NestRow w gA 41 67 4 n L) (hn : n ≤ 1048576) (hr : ∀ i, i < n → rowN L i ≤ 1048576) (hlA : ∀ i, i < n → (rowZ L i).length = rowN L i * 4) (hL : L.length = n)
    (hB : NestRow w gB 42 69 3 q M) (hq : q ≤ 1048576) (hs : ∀ i, i < q → rowN M i ≤ 1048576) (hlB : ∀ i, i < q → (rowZ M i).length = rowN M i * 3) (hM : M.length = q) :
    Calls Try.prog 8 #[.agg #[.slice (some ⟨gA, 0, none⟩) n cA, .slice (some ⟨gB, 0, none⟩) q cB], .int .i64 wt, .int .i64 x] w (ShPost w n L q M wt x) := by
  have b0 : Below w.heap.size w ((w.alloc (.cells #[.slice (some ⟨gA, 0, none⟩) n cA, .slice (some ⟨gB, 0, none⟩) q cB] 30)).alloc (.cells #[.slice none 0 0, .slice none 0 0] 30)) := ((Below.refl _ _).alloc (Nat.le_refl _) _).alloc (by simp) _
  have HA0 := Lib.hid (hA.after b0)
  have HN0 := Lib.hid (hB.after b0)
  have HA := Lib.hid hA
  have HB := Lib.hid hB
  have HR := Lib.hid (And.intro (And.intro hr hlA) hL)
  have HT := Lib.hid (And.intro (And.intro hs hlB) hM)
  have HG0 : Hid (RowF ((w.alloc (.cells #[.slice (some ⟨gA, 0, none⟩) n cA, .slice (some ⟨gB, 0, none⟩) q cB] 30)).alloc (.cells #[.slice none 0 0, .slice none 0 0] 30)) w.heap.size 30 2 (pairV (.slice (some ⟨gA, 0, none⟩) n cA) (.slice (some ⟨gB, 0, none⟩) q cB))) := Lib.hid ((RowF.of_row (row_pair w _ _ _)).alloc _)
  have HV0 : Hid (RowF ((w.alloc (.cells #[.slice (some ⟨gA, 0, none⟩) n cA, .slice (some ⟨gB, 0, none⟩) q cB] 30)).alloc (.cells #[.slice none 0 0, .slice none 0 0] 30)) (w.heap.size + 1) 30 2 (pairV (.slice none 0 0) (.slice none 0 0))) := Lib.hid (by
    have h := RowF.of_row (row_pair (w.alloc (.cells #[.slice (some ⟨gA, 0, none⟩) n cA, .slice (some ⟨gB, 0, none⟩) q cB] 30)) (.slice none 0 0) (.slice none 0 0) 30)
    simp only [World.size_alloc] at h
    exact h)
  have HB0 := Lib.hid b0
  have HZ0 : Hid (((w.alloc (.cells #[.slice (some ⟨gA, 0, none⟩) n cA, .slice (some ⟨gB, 0, none⟩) q cB] 30)).alloc (.cells #[.slice none 0 0, .slice none 0 0] 30)).heap.size = w.heap.size + 2) := Lib.hid (by simp)
  clear b0 hA hB hr hlA hs hlB hL hM
  go_enter Try.func8, Try.ntmps8
  go_wp2_with fail
  refine (iCopyVault_any gA n cA gB q cB L M _ HA0.out hn HR.out.1.1 HR.out.1.2 HN0.out hq HT.out.1.1 HT.out.1.2).mono ?_
  rintro e w1 ⟨vR, vL, csR, csL, rfl, hgr, hgl, hb1⟩
  have HS2 : Hid (ShSt w (w1.alloc (.cells #[vR, vL] 30)) w1.heap.size gA n cA gB q cB L M vR vL csR csL) := Lib.hid (by
    have ba : Below w1.heap.size w1 (w1.alloc (.cells #[vR, vL] 30)) := (Below.refl _ _).alloc (Nat.le_refl _) _
    have hz := hb1.size
    rw [HZ0.out] at hz hgr hgl
    exact ⟨(HG0.out.after hb1).after ba, (HV0.out.after hb1).after ba, RowF.of_row (row_pair w1 vR vL _), hgr.after ba, hgl.after ba, by omega, below_then (below_then HB0.out hb1) ba⟩)
  obtain ⟨X, hX⟩ : ∃ X, w1.heap.size = X := ⟨_, rfl⟩
  rw [hX] at HS2
  have HXE := Lib.hid hX
  obtain ⟨A1, c1, rfl, _⟩ := hgr.cells.slice
  obtain ⟨A2, c2, rfl, _⟩ := hgl.cells.slice
  have HN2 : Hid (NestRow (w1.alloc (.cells #[.slice A1 n c1, .slice A2 q c2] 30)) gA 41 67 4 n L ∧ NestRow (w1.alloc (.cells #[.slice A1 n c1, .slice A2 q c2] 30)) gB 42 69 3 q M) := Lib.hid ⟨HA.out.after HS2.out.below, HB.out.after HS2.out.below⟩
  have HD2 : Hid (NestAt (w1.alloc (.cells #[.slice A1 n c1, .slice A2 q c2] 30)) (w1.alloc (.cells #[.slice A1 n c1, .slice A2 q c2] 30)).heap.size 4 (some ⟨gA, 0, none⟩) n L ∧ NestAt (w1.alloc (.cells #[.slice A1 n c1, .slice A2 q c2] 30)) (w1.alloc (.cells #[.slice A1 n c1, .slice A2 q c2] 30)).heap.size 3 (some ⟨gB, 0, none⟩) q M) := Lib.hid ⟨HN2.out.1.nestAt HR.out.2 HR.out.1.2 HR.out.1.1, HN2.out.2.nestAt HT.out.2 HT.out.1.2 HT.out.1.1⟩
  clear hgr hgl hb1 HA0 HN0 HG0 HV0 HB0 HZ0 hX
  have a0 : (w1.alloc (.cells #[.slice A1 n c1, .slice A2 q c2] 30)).cell? ⟨w.heap.size, 0, none⟩ = some (.slice (some ⟨gA, 0, none⟩) n cA) := HS2.out.arg.cell (i := 0) (by omega)
  have a1 : (w1.alloc (.cells #[.slice A1 n c1, .slice A2 q c2] 30)).cell? ⟨w.heap.size, 1, none⟩ = some (.slice (some ⟨gB, 0, none⟩) q cB) := HS2.out.arg.cell (i := 1) (by omega)
  go_wp2_with fail
  refine (iVaultOk_any _ _ _ L _ _ _ M _ HD2.out.1 (by omega) HR.out.1.1 HD2.out.2 (by omega) HT.out.1.1).mono ?_
  clear a0 a1
  cases hV : vaultB L n M q
  · have HF := Lib.hid (sh_1 (wt := wt) x hV)
    rintro e w3 ⟨rfl, hb3⟩
    have HS3 := Lib.hid (HS2.out.after hb3)
    clear hb3 HS2 HN2 HD2
    have d0 : w3.cell? ⟨w1.heap.size, 0, none⟩ = some (.slice A1 n c1) := by rw [HXE.out]; exact HS3.out.out.cell (i := 0) (by omega)
    have d1 : w3.cell? ⟨w1.heap.size, 1, none⟩ = some (.slice A2 q c2) := by rw [HXE.out]; exact HS3.out.out.cell (i := 1) (by omega)
    have r0 : w3.cell? ⟨w.heap.size + 1, 0, none⟩ = some (.slice none 0 0) := HS3.out.res.cell (i := 0) (by omega)
    have r1 : w3.cell? ⟨w.heap.size + 1, 1, none⟩ = some (.slice none 0 0) := HS3.out.res.cell (i := 1) (by omega)
    have f0 := HS3.out.res.frozen 0
    have f1 := HS3.out.res.frozen 1
    have hs := RowF.lt HS3.out.res
    go_wp2
    refine bodyPost_ret (v := .tuple #[.agg #[.slice A1 n c1, .slice A2 q c2], .bool false]) (by simp [results, Try.results8, go_sem, *]) rfl ?_
    exact ⟨.slice A1 n c1, .slice A2 q c2, csR, csL, by rw [HF.out.1], ((HS3.out.ribs.setLow (by simp) _).setLow (by simp) _).mono (by omega), by rw [HF.out.2]; exact ((HS3.out.loads.setLow (by simp) _).setLow (by simp) _).mono (by omega), (HS3.out.below.setCell (by simp) _).setCell (by simp) _⟩
  cases hI : inB wt 0 50000
  · have HF := Lib.hid (sh_2 (L := L) (n := n) (M := M) (q := q) x hI)
    rintro e w3 ⟨rfl, hb3⟩
    have HS3 := Lib.hid (HS2.out.after hb3)
    clear hb3 HS2 HN2 HD2
    have d0 : w3.cell? ⟨w1.heap.size, 0, none⟩ = some (.slice A1 n c1) := by rw [HXE.out]; exact HS3.out.out.cell (i := 0) (by omega)
    have d1 : w3.cell? ⟨w1.heap.size, 1, none⟩ = some (.slice A2 q c2) := by rw [HXE.out]; exact HS3.out.out.cell (i := 1) (by omega)
    have r0 : w3.cell? ⟨w.heap.size + 1, 0, none⟩ = some (.slice none 0 0) := HS3.out.res.cell (i := 0) (by omega)
    have r1 : w3.cell? ⟨w.heap.size + 1, 1, none⟩ = some (.slice none 0 0) := HS3.out.res.cell (i := 1) (by omega)
    have f0 := HS3.out.res.frozen 0
    have f1 := HS3.out.res.frozen 1
    have hs := RowF.lt HS3.out.res
    go_wp2_with (go_at_call 31; refine (within_any _ _ _ _).mono ?_; rw [hI]; rintro e w' ⟨rfl, rfl⟩)
    refine bodyPost_ret (v := .tuple #[.agg #[.slice A1 n c1, .slice A2 q c2], .bool false]) (by simp [results, Try.results8, go_sem, *]) rfl ?_
    exact ⟨.slice A1 n c1, .slice A2 q c2, csR, csL, by rw [HF.out.1], ((HS3.out.ribs.setLow (by simp) _).setLow (by simp) _).mono (by omega), by rw [HF.out.2]; exact ((HS3.out.loads.setLow (by simp) _).setLow (by simp) _).mono (by omega), (HS3.out.below.setCell (by simp) _).setCell (by simp) _⟩
  obtain ⟨hn5, hqn, hrib⟩ := vaultB_out hV
  obtain rfl : n = q := hqn.symm
  obtain ⟨gR, rfl⟩ := HS2.out.ribs.some (by omega)
  obtain ⟨gL, rfl⟩ := HS2.out.loads.some (by omega)
  obtain ⟨wq, ewq⟩ : ∃ wq, Int.tdiv wt (n : Int) = wq := ⟨_, rfl⟩
  have hwt := inB_iff.1 hI
  have hwq : 0 ≤ wq ∧ wq ≤ 50000 := by
    rw [← ewq]
    have h1 : Int.tdiv wt (n : Int) = wt / (n : Int) := Int.tdiv_eq_ediv_of_nonneg hwt.1
    rw [h1]
    exact ⟨Int.ediv_nonneg hwt.1 (by omega), Int.le_trans (Int.ediv_le_self _ hwt.1) hwt.2⟩
  have e5 : IntKind.i64.wrap (Int.tdiv wt (n : Int)) = wq := by rw [ewq]; exact IntWalk.i64_in _ (by omega)
  have nz : ¬ (n : Int) = 0 := by omega
  have nz2 : ¬ n = 0 := by omega
  have HNEW : Hid (shNew L M n wt x = shTo L M n wq x n) := Lib.hid (by rw [shNew, ewq])
  have HF3 := Lib.hid (fun h => sh_3 (L := L) (n := n) (M := M) (q := n) x hV hI h)
  have HFT := Lib.hid (fun h => sh_t (L := L) (n := n) (M := M) (q := n) x hV hI h)
  rw [HNEW.out] at HF3 HFT
  have HRIB := Lib.hid hrib
  clear ewq hrib HD2 HN2
  rintro e w3 ⟨rfl, hb3⟩
  have HS3 : Hid (ShSt w w3 X gA n cA gB n cB L (shTo L M n wq x 0) (.slice (some ⟨gR, 0, none⟩) n c1) (.slice (some ⟨gL, 0, none⟩) n c2) csR csL) := Lib.hid (by
    have h := HS2.out.after hb3
    exact ⟨h.arg, h.res, h.out, h.ribs, h.loads.congr (fun i hi => shTo_ge hi (by omega)), h.far, h.below⟩)
  clear hb3 HS2
  have d0 : w3.cell? ⟨w1.heap.size, 0, none⟩ = some (.slice (some ⟨gR, 0, none⟩) n c1) := by rw [HXE.out]; exact HS3.out.out.cell (i := 0) (by omega)
  go_wp2_with (go_at_call 31; refine (within_any _ _ _ _).mono ?_; rw [hI]; rintro e w' ⟨rfl, rfl⟩)
  have hX := HXE.out
  rw [hX]
  clear hX HXE d0
  go_loopw [25] (fun v25 wr => ∃ (k : Nat) (csL : List Value), v25 = .int .i64 k ∧ k ≤ n ∧ Hid (ShSt w wr X gA n cA gB n cB L (shTo L M n wq x k) (.slice (some ⟨gR, 0, none⟩) n c1) (.slice (some ⟨gL, 0, none⟩) n c2) csR csL)) (fun v25 _ => n - (intOf v25).toNat)
  case atStart => exact ⟨0, csL, rfl, Nat.zero_le _, HS3⟩
  case round =>
    clear HS3 csL
    obtain ⟨k, csL, rfl, hk, HS⟩ := hrel
    have hX2 := HS.out.far
    have hXl := RowF.lt HS.out.out
    have o0 : wr.cell? ⟨X, 0, none⟩ = some (.slice (some ⟨gR, 0, none⟩) n c1) := HS.out.out.cell (i := 0) (by omega)
    have o1 : wr.cell? ⟨X, 1, none⟩ = some (.slice (some ⟨gL, 0, none⟩) n c2) := HS.out.out.cell (i := 1) (by omega)
    by_cases hlt : k < n
    · have kn : (k : Int) < (n : Int) := by omega
      have k0 : (0 : Int) ≤ (k : Int) := by omega
      have ek : IntKind.i64.wrap ((k : Int) + 1) = (k : Int) + 1 := IntWalk.i64_in _ (by omega)
      obtain ⟨gi, ci, hci, hori⟩ := HS.out.ribs.row k hlt
      obtain ⟨gu, cu, hcu, horu⟩ := HS.out.loads.row k hlt
      have x0 : wr.cell? ⟨gR, k, none⟩ = some (.slice (some ⟨gi, 0, none⟩) (rowN L k) ci) := (HS.out.ribs.cellAt hlt).trans hci
      have u0 : wr.cell? ⟨gL, k, none⟩ = some (.slice (some ⟨gu, 0, none⟩) (rowN (shTo L M n wq x k) k) cu) := (HS.out.loads.cellAt hlt).trans hcu
      obtain ⟨t1, t2, t3, t4, t5, t6⟩ := HS.out.three hlt hcu
      have hRl : gR < wr.heap.size := HS.out.ribs.cells.blockLt gR rfl
      have hMk := shTo_ge (L := L) (M := M) (wq := wq) (x := x) hlt (Nat.lt_irrefl k)
      have hNk := shTo_lt (L := L) (M := M) (wq := wq) (x := x) (k := k + 1) hlt (Nat.lt_succ_self k)
      obtain ⟨hza, hq6, _⟩ := loadsB_out (HRIB.out k hlt)
      have hz3 := (archB_out hza).1
      have hbx : Below wr.heap.size wr (wr.alloc (.cells #[.slice (some ⟨gi, 0, none⟩) (rowN L k) ci] 41)).drew := below_dr2 ((Below.refl _ _).alloc (Nat.le_refl _) _)
      have HBX := Lib.hid hbx
      have HSX := Lib.hid (HS.out.after hbx)
      have HRX := Lib.hid (hori.recs.after hbx)
      have HCU := Lib.hid hcu
      have HMK := Lib.hid hMk
      have HNK := Lib.hid hNk
      have p0 : (wr.alloc (.cells #[.slice (some ⟨gi, 0, none⟩) (rowN L k) ci] 41)).drew.cell? ⟨X, 0, none⟩ = some (.slice (some ⟨gR, 0, none⟩) n c1) := (hbx.cell (p := ⟨X, 0, none⟩) (by exact t6)).trans o0
      have p1 : (wr.alloc (.cells #[.slice (some ⟨gi, 0, none⟩) (rowN L k) ci] 41)).drew.cell? ⟨X, 1, none⟩ = some (.slice (some ⟨gL, 0, none⟩) n c2) := (hbx.cell (p := ⟨X, 1, none⟩) (by exact t6)).trans o1
      have pb : (wr.alloc (.cells #[.slice (some ⟨gi, 0, none⟩) (rowN L k) ci] 41)).drew.cell? ⟨wr.heap.size, 0, none⟩ = some (.slice (some ⟨gi, 0, none⟩) (rowN L k) ci) := (rowF_new1S wr _ _).cell (i := 0) (by omega)
      have pu : (wr.alloc (.cells #[.slice (some ⟨gi, 0, none⟩) (rowN L k) ci] 41)).drew.cell? ⟨gL, k, none⟩ = some (.slice (some ⟨gu, 0, none⟩) (rowN (shTo L M n wq x k) k) cu) := (hbx.cell (p := ⟨gL, k, none⟩) (by exact t5)).trans u0
      have HWZ : Hid ((wr.alloc (.cells #[.slice (some ⟨gi, 0, none⟩) (rowN L k) ci] 41)).drew.heap.size = wr.heap.size + 1) := Lib.hid (by simp)
      have hrm : rowN (shTo L M n wq x k) k ≤ 6 := by rw [hMk.1]; exact hq6
      clear hbx hori horu hcu hci u0 hMk hNk hza hq6
      go_wp2
      refine wp_region_held_drew (S := fun w' => (w'.cell? ⟨X, 0, none⟩ = some (.slice (some ⟨gR, 0, none⟩) n c1) ∧ w'.cell? ⟨X, 1, none⟩ = some (.slice (some ⟨gL, 0, none⟩) n c2)) ∧ w'.cell? ⟨wr.heap.size, 0, none⟩ = some (.slice (some ⟨gi, 0, none⟩) (rowN L k) ci)) (by kernel_rfl) (by exact ⟨⟨p0, p1⟩, pb⟩) (fun hHeld => ?_)
      refine take_heldS (i := 0) (d := 30) rfl rfl (by kernel_rfl) (by kernel_rfl) (by kernel_rfl) (fun _ _ _ h => h) (by kernel_rfl) (fun w hSw => by (try dsimp only at hSw); go_simp; try rfl) (by assumption) ?_
      try simp only [Act.put, List.setIfInBounds_toArray, List.set_cons_zero, List.set_cons_succ]
      refine take_heldS (i := 1) (d := 31) rfl rfl (by kernel_rfl) (by kernel_rfl) (by kernel_rfl) (fun _ _ _ h => h) (by kernel_rfl) (fun w hSw => by (try dsimp only at hSw); go_simp; try rfl) (by assumption) ?_
      try simp only [Act.put, List.setIfInBounds_toArray, List.set_cons_zero, List.set_cons_succ]
      refine take_heldS (i := 2) (d := 32) rfl rfl (by kernel_rfl) (by kernel_rfl) (by kernel_rfl) (fun _ _ _ h => h) (by kernel_rfl) (fun w hSw => by (try dsimp only at hSw); go_simp; try rfl) (by assumption) ?_
      try simp only [Act.put, List.setIfInBounds_toArray, List.set_cons_zero, List.set_cons_succ]
      refine take_heldS (i := 3) (d := 33) rfl rfl (by kernel_rfl) (by kernel_rfl) (by kernel_rfl) (fun _ _ _ h => h) (by kernel_rfl) (fun w hSw => by (try dsimp only at hSw); go_simp; try rfl) (by assumption) ?_
      try simp only [Act.put, List.setIfInBounds_toArray, List.set_cons_zero, List.set_cons_succ]
      refine take_heldS (i := 4) (d := 34) rfl rfl (by kernel_rfl) (by kernel_rfl) (by kernel_rfl) (fun _ _ _ h => h) (by kernel_rfl) (fun w hSw => by (try dsimp only at hSw); go_simp; try rfl) (by assumption) ?_
      try simp only [Act.put, List.setIfInBounds_toArray, List.set_cons_zero, List.set_cons_succ]
      refine take_heldS (i := 5) (d := 35) rfl rfl (by kernel_rfl) (by kernel_rfl) (by kernel_rfl) (fun _ _ _ h => h) (by kernel_rfl) (fun w hSw => by (try dsimp only at hSw); go_simp; try rfl) (by assumption) ?_
      try simp only [Act.put, List.setIfInBounds_toArray, List.set_cons_zero, List.set_cons_succ]
      refine take_heldS (i := 6) (d := 36) rfl rfl (by kernel_rfl) (by kernel_rfl) (by kernel_rfl) (fun _ _ _ h => h) (by kernel_rfl) (fun w hSw => by (try dsimp only at hSw); go_simp; try rfl) (by assumption) ?_
      try simp only [Act.put, List.setIfInBounds_toArray, List.set_cons_zero, List.set_cons_succ]
      refine take_heldS (i := 8) (d := 38) rfl rfl (by kernel_rfl) (by kernel_rfl) (by kernel_rfl) (fun _ _ _ h => h) (by kernel_rfl) (fun w hSw => by (try dsimp only at hSw); go_simp; try rfl) (by assumption) ?_
      try simp only [Act.put, List.setIfInBounds_toArray, List.set_cons_zero, List.set_cons_succ]
      refine take_heldS (i := 9) (d := 39) rfl rfl (by kernel_rfl) (by kernel_rfl) (by kernel_rfl) (fun _ _ _ h => h) (by kernel_rfl) (fun w hSw => by (try dsimp only at hSw); go_simp; try rfl) (by assumption) ?_
      try simp only [Act.put, List.setIfInBounds_toArray, List.set_cons_zero, List.set_cons_succ]
      refine take_heldS (i := 11) (d := 41) rfl rfl (by kernel_rfl) (by kernel_rfl) (by kernel_rfl) (fun _ _ _ h => h) (by kernel_rfl) (fun w hSw => by (try dsimp only at hSw); go_simp; try rfl) (by assumption) ?_
      try simp only [Act.put, List.setIfInBounds_toArray, List.set_cons_zero, List.set_cons_succ]
      refine take_heldS (i := 12) (d := 42) rfl rfl (by kernel_rfl) (by kernel_rfl) (by kernel_rfl) (fun _ _ _ h => h) (by kernel_rfl) (fun w hSw => by (try dsimp only at hSw); go_simp; try rfl) (by assumption) ?_
      try simp only [Act.put, List.setIfInBounds_toArray, List.set_cons_zero, List.set_cons_succ]
      refine take_heldS (i := 13) (d := 43) rfl rfl (by kernel_rfl) (by kernel_rfl) (by kernel_rfl) (fun _ _ _ h => h) (by kernel_rfl) (fun w hSw => by (try dsimp only at hSw); go_simp; try rfl) (by assumption) ?_
      try simp only [Act.put, List.setIfInBounds_toArray, List.set_cons_zero, List.set_cons_succ]
      refine take_heldS (i := 14) (d := 44) rfl rfl (by kernel_rfl) (by kernel_rfl) (by kernel_rfl) (fun _ _ _ h => h) (by kernel_rfl) (fun w hSw => by (try dsimp only at hSw); go_simp; try rfl) (by assumption) ?_
      try simp only [Act.put, List.setIfInBounds_toArray, List.set_cons_zero, List.set_cons_succ]
      refine take_heldS (i := 15) (d := 45) rfl rfl (by kernel_rfl) (by kernel_rfl) (by kernel_rfl) (fun _ _ _ h => h) (by kernel_rfl) (fun w hSw => by (try dsimp only at hSw); go_simp; try rfl) (by assumption) ?_
      try simp only [Act.put, List.setIfInBounds_toArray, List.set_cons_zero, List.set_cons_succ]
      refine take_heldS (i := 16) (d := 46) rfl rfl (by kernel_rfl) (by kernel_rfl) (by kernel_rfl) (fun _ _ _ h => h) (by kernel_rfl) (fun w hSw => by (try dsimp only at hSw); go_simp; try rfl) (by assumption) ?_
      try simp only [Act.put, List.setIfInBounds_toArray, List.set_cons_zero, List.set_cons_succ]
      refine wpAnyH_ready (rs := [7, 10]) (by kernel_rfl) (by simp) ?_
      refine AllReadyH.cons rfl (fun K hK => ?_) (AllReadyH.cons rfl (fun K hK => ?_) AllReadyH.nil)
      · go_simp
        refine hK.out _ _ (by exact ⟨⟨p0, p1⟩, pb⟩) (fun hHeld => ?_)
        clear hK K
        try simp only [Act.put, List.setIfInBounds_toArray, List.set_cons_zero, List.set_cons_succ]
        refine wpAnyH_ready (rs := [10]) (by kernel_rfl) (by simp) ?_
        refine AllReadyH.cons rfl (fun K hK => ?_) AllReadyH.nil
        go_simp
        (with_reducible refine (stoneUnder_any _ _ _ (rowZ L k) _ _ HRX.out (by omega) (by omega)).mono ?_)
        rintro e w4 ⟨rfl, hb4⟩
        have HB4 := Lib.hid hb4
        have HS4 := Lib.hid (HSX.out.after hb4)
        have hz4 : wr.heap.size + 1 ≤ w4.heap.size := by have := hb4.size; rw [HWZ.out] at this; exact this
        have u4 : w4.cell? ⟨gL, k, none⟩ = some (.slice (some ⟨gu, 0, none⟩) (rowN (shTo L M n wq x k) k) cu) := (hb4.cell (p := ⟨gL, k, none⟩) (by rw [HWZ.out]; simp; omega)).trans pu
        have q4 : (w4.cell? ⟨X, 0, none⟩ = some (.slice (some ⟨gR, 0, none⟩) n c1) ∧ w4.cell? ⟨X, 1, none⟩ = some (.slice (some ⟨gL, 0, none⟩) n c2)) ∧ w4.cell? ⟨wr.heap.size, 0, none⟩ = some (.slice (some ⟨gi, 0, none⟩) (rowN L k) ci) := ⟨⟨(hb4.cell (p := ⟨X, 0, none⟩) (by rw [HWZ.out]; simp; omega)).trans p0, (hb4.cell (p := ⟨X, 1, none⟩) (by rw [HWZ.out]; simp; omega)).trans p1⟩, (hb4.cell (p := ⟨wr.heap.size, 0, none⟩) (by rw [HWZ.out]; simp)).trans pb⟩
        refine hK.out _ _ (by exact q4) (fun hHeld => ?_)
        clear hK K
        try simp only [Act.put, List.setIfInBounds_toArray, List.set_cons_zero, List.set_cons_succ]
        refine take_heldS (i := 17) (d := 47) rfl rfl (by kernel_rfl) (by kernel_rfl) (by kernel_rfl) (fun _ _ _ h => h) (by kernel_rfl) (fun w hSw => by (try dsimp only at hSw); go_simp; try rfl) (by assumption) ?_
        try simp only [Act.put, List.setIfInBounds_toArray, List.set_cons_zero, List.set_cons_succ]
        refine wpAnyH_ready (rs := [18]) (by kernel_rfl) (by simp) ?_
        refine AllReadyH.cons rfl (fun K hK => ?_) AllReadyH.nil
        go_simp
        have u5 : (w4.alloc (.cells #[.int .i64 (stoneU (rowZ L k) (rowN L k) x : Int), .int .i64 wq, .int .i64 x] 69)).cell? ⟨gL, k, none⟩ = some (.slice (some ⟨gu, 0, none⟩) (rowN (shTo L M n wq x k) k) cu) := (World.cell?_alloc_lt w4 _ ⟨gL, k, none⟩ (show gL < w4.heap.size from by omega)).trans u4
        have q5 : ((w4.alloc (.cells #[.int .i64 (stoneU (rowZ L k) (rowN L k) x : Int), .int .i64 wq, .int .i64 x] 69)).cell? ⟨X, 0, none⟩ = some (.slice (some ⟨gR, 0, none⟩) n c1) ∧ (w4.alloc (.cells #[.int .i64 (stoneU (rowZ L k) (rowN L k) x : Int), .int .i64 wq, .int .i64 x] 69)).cell? ⟨X, 1, none⟩ = some (.slice (some ⟨gL, 0, none⟩) n c2)) ∧ (w4.alloc (.cells #[.int .i64 (stoneU (rowZ L k) (rowN L k) x : Int), .int .i64 wq, .int .i64 x] 69)).cell? ⟨wr.heap.size, 0, none⟩ = some (.slice (some ⟨gi, 0, none⟩) (rowN L k) ci) := ⟨⟨(World.cell?_alloc_lt w4 _ ⟨X, 0, none⟩ (show X < w4.heap.size from by omega)).trans q4.1.1, (World.cell?_alloc_lt w4 _ ⟨X, 1, none⟩ (show X < w4.heap.size from by omega)).trans q4.1.2⟩, (World.cell?_alloc_lt w4 _ ⟨wr.heap.size, 0, none⟩ (show wr.heap.size < w4.heap.size from by omega)).trans q4.2⟩
        refine hK.out _ _ (by exact q5) (fun hHeld => ?_)
        clear hK K
        try simp only [Act.put, List.setIfInBounds_toArray, List.set_cons_zero, List.set_cons_succ]
        refine wpAnyH_ready (rs := [19]) (by kernel_rfl) (by simp) ?_
        refine AllReadyH.cons rfl (fun K hK => ?_) AllReadyH.nil
        obtain ⟨gu2, cu2, hcu2, hou2⟩ := HS4.out.loads.row k hlt
        rw [HCU.out] at hcu2
        simp only [Option.some.injEq, Value.slice.injEq, Addr.mk.injEq, and_true, true_and] at hcu2
        obtain ⟨rfl, rfl⟩ := hcu2
        refine step_appRX rfl (.tmp 37) (.tmp 48) 42 rfl (w.heap.size + 2) 69 3 24 #[.int .i64 0, .int .i64 0, .int .i64 0] Try.underlying42 infoLoad rfl (by decide) (by decide) (.slice (some ⟨gu, 0, none⟩) (rowN (shTo L M n wq x k) k) cu) (rowN (shTo L M n wq x k) k) (rowZ (shTo L M n wq x k) k) rfl (by exact hou2.alloc _) w4.heap.size 1 1 [(stoneU (rowZ L k) (rowN L k) x : Int), wq, x] rfl rfl (by exact fun j hj => (rowF_new3S w4 _ _ _ _).cell hj) (by omega) (by simp; omega) (by simp) ?_
        intro g' cap' w5 hown5 har5
        have HN5 := Lib.hid (HS.out.step (M' := shTo L M n wq x (k + 1)) (wy := (w4.alloc (.cells #[.int .i64 (stoneU (rowZ L k) (rowN L k) x : Int), .int .i64 wq, .int .i64 x] 69))) ((HBX.out.trans (HB4.out.mono (by rw [HWZ.out]; omega))).alloc (by omega) _) hlt HCU.out hown5 har5 ⟨by rw [HNK.out.1, HMK.out.1], by rw [HNK.out.2, HMK.out.2]⟩ (fun i hi hik => by
          by_cases hik2 : i < k
          · have e1 := shTo_lt (L := L) (M := M) (wq := wq) (x := x) (k := k + 1) hi (by omega)
            have e2 := shTo_lt (L := L) (M := M) (wq := wq) (x := x) (k := k) hi hik2
            rw [e1.1, e1.2, e2.1, e2.2]
            exact ⟨rfl, rfl⟩
          · have e1 := shTo_ge (L := L) (M := M) (wq := wq) (x := x) (k := k + 1) hi (by omega)
            have e2 := shTo_ge (L := L) (M := M) (wq := wq) (x := x) (k := k) hi hik2
            rw [e1.1, e1.2, e2.1, e2.2]
            exact ⟨rfl, rfl⟩))
        have hne : ∀ (b : Nat), b ≠ gu → ∀ g, ((.slice (some ⟨gu, 0, none⟩) (rowN (shTo L M n wq x k) k) cu) : Value).ownBlock = some g → g ≠ b := fun b hb g hg e => by simp [Value.ownBlock] at hg; omega
        have q6 : (w5.cell? ⟨X, 0, none⟩ = some (.slice (some ⟨gR, 0, none⟩) n c1) ∧ w5.cell? ⟨X, 1, none⟩ = some (.slice (some ⟨gL, 0, none⟩) n c2)) ∧ w5.cell? ⟨wr.heap.size, 0, none⟩ = some (.slice (some ⟨gi, 0, none⟩) (rowN L k) ci) := ⟨⟨(har5.cellStay (p := ⟨X, 0, none⟩) (by simp; omega) (hne X (fun e => t1 e.symm))).trans q5.1.1, (har5.cellStay (p := ⟨X, 1, none⟩) (by simp; omega) (hne X (fun e => t1 e.symm))).trans q5.1.2⟩, (har5.cellStay (p := ⟨wr.heap.size, 0, none⟩) (by simp; omega) (hne wr.heap.size (by omega))).trans q5.2⟩
        have u6 : w5.cell? ⟨gL, k, none⟩ = some (.slice (some ⟨gu, 0, none⟩) (rowN (shTo L M n wq x k) k) cu) := (har5.cellStay (p := ⟨gL, k, none⟩) (by simp; omega) (hne gL (fun e => t3 e.symm))).trans u5
        have f0 : w5.frozen? ⟨gL, k, none⟩ = false := by have := World.ownsRow.frozenAt HN5.out.loads.cells.1 k; rwa [World.frozen?_setCell] at this
        refine hK.out _ _ (by exact q6) (fun hHeld => ?_)
        clear hK K
        try simp only [Act.put, List.setIfInBounds_toArray, List.set_cons_zero, List.set_cons_succ]
        refine take_heldS (i := 20) (d := 50) rfl rfl (by kernel_rfl) (by kernel_rfl) (by kernel_rfl) (fun _ _ _ h => h) (by kernel_rfl) (fun w hSw => by (try dsimp only at hSw); go_simp; try rfl) (by assumption) ?_
        try simp only [Act.put, List.setIfInBounds_toArray, List.set_cons_zero, List.set_cons_succ]
        refine wpAnyH_ready (rs := [21]) (by kernel_rfl) (by simp) ?_
        refine AllReadyH.cons rfl (fun K hK => ?_) AllReadyH.nil
        go_simp
        refine hK.out _ _ (by exact ⟨⟨HN5.out.out.cell (i := 0) (by omega), HN5.out.out.cell (i := 1) (by omega)⟩, (World.cell?_setCell_far _ _ _ _ (by simp; omega)).trans q6.2⟩) (fun hHeld => ?_)
        clear hK K
        try simp only [Act.put, List.setIfInBounds_toArray, List.set_cons_zero, List.set_cons_succ]
        refine wpAnyH_done (by kernel_rfl) ?_ _
        clear hHeld
        go_wp2
        go_roundw
        case rel => exact ⟨k + 1, _, by go_num, by omega, HN5⟩
        case measure => simp [intOf]; omega
      · go_simp
        (with_reducible refine (stoneUnder_any _ _ _ (rowZ L k) _ _ HRX.out (by omega) (by omega)).mono ?_)
        rintro e w4 ⟨rfl, hb4⟩
        have HB4 := Lib.hid hb4
        have HS4 := Lib.hid (HSX.out.after hb4)
        have hz4 : wr.heap.size + 1 ≤ w4.heap.size := by have := hb4.size; rw [HWZ.out] at this; exact this
        have u4 : w4.cell? ⟨gL, k, none⟩ = some (.slice (some ⟨gu, 0, none⟩) (rowN (shTo L M n wq x k) k) cu) := (hb4.cell (p := ⟨gL, k, none⟩) (by rw [HWZ.out]; simp; omega)).trans pu
        have q4 : (w4.cell? ⟨X, 0, none⟩ = some (.slice (some ⟨gR, 0, none⟩) n c1) ∧ w4.cell? ⟨X, 1, none⟩ = some (.slice (some ⟨gL, 0, none⟩) n c2)) ∧ w4.cell? ⟨wr.heap.size, 0, none⟩ = some (.slice (some ⟨gi, 0, none⟩) (rowN L k) ci) := ⟨⟨(hb4.cell (p := ⟨X, 0, none⟩) (by rw [HWZ.out]; simp; omega)).trans p0, (hb4.cell (p := ⟨X, 1, none⟩) (by rw [HWZ.out]; simp; omega)).trans p1⟩, (hb4.cell (p := ⟨wr.heap.size, 0, none⟩) (by rw [HWZ.out]; simp)).trans pb⟩
        refine hK.out _ _ (by exact q4) (fun hHeld => ?_)
        clear hK K
        try simp only [Act.put, List.setIfInBounds_toArray, List.set_cons_zero, List.set_cons_succ]
        refine take_heldS (i := 17) (d := 47) rfl rfl (by kernel_rfl) (by kernel_rfl) (by kernel_rfl) (fun _ _ _ h => h) (by kernel_rfl) (fun w hSw => by (try dsimp only at hSw); go_simp; try rfl) (by assumption) ?_
        try simp only [Act.put, List.setIfInBounds_toArray, List.set_cons_zero, List.set_cons_succ]
        refine wpAnyH_ready (rs := [7, 18]) (by kernel_rfl) (by simp) ?_
        refine AllReadyH.cons rfl (fun K hK => ?_) (AllReadyH.cons rfl (fun K hK => ?_) AllReadyH.nil)
        · go_simp
          refine hK.out _ _ (by exact q4) (fun hHeld => ?_)
          clear hK K
          try simp only [Act.put, List.setIfInBounds_toArray, List.set_cons_zero, List.set_cons_succ]
          refine wpAnyH_ready (rs := [18]) (by kernel_rfl) (by simp) ?_
          refine AllReadyH.cons rfl (fun K hK => ?_) AllReadyH.nil
          go_simp
          have u5 : (w4.alloc (.cells #[.int .i64 (stoneU (rowZ L k) (rowN L k) x : Int), .int .i64 wq, .int .i64 x] 69)).cell? ⟨gL, k, none⟩ = some (.slice (some ⟨gu, 0, none⟩) (rowN (shTo L M n wq x k) k) cu) := (World.cell?_alloc_lt w4 _ ⟨gL, k, none⟩ (show gL < w4.heap.size from by omega)).trans u4
          have q5 : ((w4.alloc (.cells #[.int .i64 (stoneU (rowZ L k) (rowN L k) x : Int), .int .i64 wq, .int .i64 x] 69)).cell? ⟨X, 0, none⟩ = some (.slice (some ⟨gR, 0, none⟩) n c1) ∧ (w4.alloc (.cells #[.int .i64 (stoneU (rowZ L k) (rowN L k) x : Int), .int .i64 wq, .int .i64 x] 69)).cell? ⟨X, 1, none⟩ = some (.slice (some ⟨gL, 0, none⟩) n c2)) ∧ (w4.alloc (.cells #[.int .i64 (stoneU (rowZ L k) (rowN L k) x : Int), .int .i64 wq, .int .i64 x] 69)).cell? ⟨wr.heap.size, 0, none⟩ = some (.slice (some ⟨gi, 0, none⟩) (rowN L k) ci) := ⟨⟨(World.cell?_alloc_lt w4 _ ⟨X, 0, none⟩ (show X < w4.heap.size from by omega)).trans q4.1.1, (World.cell?_alloc_lt w4 _ ⟨X, 1, none⟩ (show X < w4.heap.size from by omega)).trans q4.1.2⟩, (World.cell?_alloc_lt w4 _ ⟨wr.heap.size, 0, none⟩ (show wr.heap.size < w4.heap.size from by omega)).trans q4.2⟩
          refine hK.out _ _ (by exact q5) (fun hHeld => ?_)
          clear hK K
          try simp only [Act.put, List.setIfInBounds_toArray, List.set_cons_zero, List.set_cons_succ]
          refine wpAnyH_ready (rs := [19]) (by kernel_rfl) (by simp) ?_
          refine AllReadyH.cons rfl (fun K hK => ?_) AllReadyH.nil
          obtain ⟨gu2, cu2, hcu2, hou2⟩ := HS4.out.loads.row k hlt
          rw [HCU.out] at hcu2
          simp only [Option.some.injEq, Value.slice.injEq, Addr.mk.injEq, and_true, true_and] at hcu2
          obtain ⟨rfl, rfl⟩ := hcu2
          refine step_appRX rfl (.tmp 37) (.tmp 48) 42 rfl (w.heap.size + 2) 69 3 24 #[.int .i64 0, .int .i64 0, .int .i64 0] Try.underlying42 infoLoad rfl (by decide) (by decide) (.slice (some ⟨gu, 0, none⟩) (rowN (shTo L M n wq x k) k) cu) (rowN (shTo L M n wq x k) k) (rowZ (shTo L M n wq x k) k) rfl (by exact hou2.alloc _) w4.heap.size 1 1 [(stoneU (rowZ L k) (rowN L k) x : Int), wq, x] rfl rfl (by exact fun j hj => (rowF_new3S w4 _ _ _ _).cell hj) (by omega) (by simp; omega) (by simp) ?_
          intro g' cap' w5 hown5 har5
          have HN5 := Lib.hid (HS.out.step (M' := shTo L M n wq x (k + 1)) (wy := (w4.alloc (.cells #[.int .i64 (stoneU (rowZ L k) (rowN L k) x : Int), .int .i64 wq, .int .i64 x] 69))) ((HBX.out.trans (HB4.out.mono (by rw [HWZ.out]; omega))).alloc (by omega) _) hlt HCU.out hown5 har5 ⟨by rw [HNK.out.1, HMK.out.1], by rw [HNK.out.2, HMK.out.2]⟩ (fun i hi hik => by
            by_cases hik2 : i < k
            · have e1 := shTo_lt (L := L) (M := M) (wq := wq) (x := x) (k := k + 1) hi (by omega)
              have e2 := shTo_lt (L := L) (M := M) (wq := wq) (x := x) (k := k) hi hik2
              rw [e1.1, e1.2, e2.1, e2.2]
              exact ⟨rfl, rfl⟩
            · have e1 := shTo_ge (L := L) (M := M) (wq := wq) (x := x) (k := k + 1) hi (by omega)
              have e2 := shTo_ge (L := L) (M := M) (wq := wq) (x := x) (k := k) hi hik2
              rw [e1.1, e1.2, e2.1, e2.2]
              exact ⟨rfl, rfl⟩))
          have hne : ∀ (b : Nat), b ≠ gu → ∀ g, ((.slice (some ⟨gu, 0, none⟩) (rowN (shTo L M n wq x k) k) cu) : Value).ownBlock = some g → g ≠ b := fun b hb g hg e => by simp [Value.ownBlock] at hg; omega
          have q6 : (w5.cell? ⟨X, 0, none⟩ = some (.slice (some ⟨gR, 0, none⟩) n c1) ∧ w5.cell? ⟨X, 1, none⟩ = some (.slice (some ⟨gL, 0, none⟩) n c2)) ∧ w5.cell? ⟨wr.heap.size, 0, none⟩ = some (.slice (some ⟨gi, 0, none⟩) (rowN L k) ci) := ⟨⟨(har5.cellStay (p := ⟨X, 0, none⟩) (by simp; omega) (hne X (fun e => t1 e.symm))).trans q5.1.1, (har5.cellStay (p := ⟨X, 1, none⟩) (by simp; omega) (hne X (fun e => t1 e.symm))).trans q5.1.2⟩, (har5.cellStay (p := ⟨wr.heap.size, 0, none⟩) (by simp; omega) (hne wr.heap.size (by omega))).trans q5.2⟩
          have u6 : w5.cell? ⟨gL, k, none⟩ = some (.slice (some ⟨gu, 0, none⟩) (rowN (shTo L M n wq x k) k) cu) := (har5.cellStay (p := ⟨gL, k, none⟩) (by simp; omega) (hne gL (fun e => t3 e.symm))).trans u5
          have f0 : w5.frozen? ⟨gL, k, none⟩ = false := by have := World.ownsRow.frozenAt HN5.out.loads.cells.1 k; rwa [World.frozen?_setCell] at this
          refine hK.out _ _ (by exact q6) (fun hHeld => ?_)
          clear hK K
          try simp only [Act.put, List.setIfInBounds_toArray, List.set_cons_zero, List.set_cons_succ]
          refine take_heldS (i := 20) (d := 50) rfl rfl (by kernel_rfl) (by kernel_rfl) (by kernel_rfl) (fun _ _ _ h => h) (by kernel_rfl) (fun w hSw => by (try dsimp only at hSw); go_simp; try rfl) (by assumption) ?_
          try simp only [Act.put, List.setIfInBounds_toArray, List.set_cons_zero, List.set_cons_succ]
          refine wpAnyH_ready (rs := [21]) (by kernel_rfl) (by simp) ?_
          refine AllReadyH.cons rfl (fun K hK => ?_) AllReadyH.nil
          go_simp
          refine hK.out _ _ (by exact ⟨⟨HN5.out.out.cell (i := 0) (by omega), HN5.out.out.cell (i := 1) (by omega)⟩, (World.cell?_setCell_far _ _ _ _ (by simp; omega)).trans q6.2⟩) (fun hHeld => ?_)
          clear hK K
          try simp only [Act.put, List.setIfInBounds_toArray, List.set_cons_zero, List.set_cons_succ]
          refine wpAnyH_done (by kernel_rfl) ?_ _
          clear hHeld
          go_wp2
          go_roundw
          case rel => exact ⟨k + 1, _, by go_num, by omega, HN5⟩
          case measure => simp [intOf]; omega
        · go_simp
          have u5 : (w4.alloc (.cells #[.int .i64 (stoneU (rowZ L k) (rowN L k) x : Int), .int .i64 wq, .int .i64 x] 69)).cell? ⟨gL, k, none⟩ = some (.slice (some ⟨gu, 0, none⟩) (rowN (shTo L M n wq x k) k) cu) := (World.cell?_alloc_lt w4 _ ⟨gL, k, none⟩ (show gL < w4.heap.size from by omega)).trans u4
          have q5 : ((w4.alloc (.cells #[.int .i64 (stoneU (rowZ L k) (rowN L k) x : Int), .int .i64 wq, .int .i64 x] 69)).cell? ⟨X, 0, none⟩ = some (.slice (some ⟨gR, 0, none⟩) n c1) ∧ (w4.alloc (.cells #[.int .i64 (stoneU (rowZ L k) (rowN L k) x : Int), .int .i64 wq, .int .i64 x] 69)).cell? ⟨X, 1, none⟩ = some (.slice (some ⟨gL, 0, none⟩) n c2)) ∧ (w4.alloc (.cells #[.int .i64 (stoneU (rowZ L k) (rowN L k) x : Int), .int .i64 wq, .int .i64 x] 69)).cell? ⟨wr.heap.size, 0, none⟩ = some (.slice (some ⟨gi, 0, none⟩) (rowN L k) ci) := ⟨⟨(World.cell?_alloc_lt w4 _ ⟨X, 0, none⟩ (show X < w4.heap.size from by omega)).trans q4.1.1, (World.cell?_alloc_lt w4 _ ⟨X, 1, none⟩ (show X < w4.heap.size from by omega)).trans q4.1.2⟩, (World.cell?_alloc_lt w4 _ ⟨wr.heap.size, 0, none⟩ (show wr.heap.size < w4.heap.size from by omega)).trans q4.2⟩
          refine hK.out _ _ (by exact q5) (fun hHeld => ?_)
          clear hK K
          try simp only [Act.put, List.setIfInBounds_toArray, List.set_cons_zero, List.set_cons_succ]
          refine wpAnyH_ready (rs := [7]) (by kernel_rfl) (by simp) ?_
          refine AllReadyH.cons rfl (fun K hK => ?_) AllReadyH.nil
          go_simp
          refine hK.out _ _ (by exact q5) (fun hHeld => ?_)
          clear hK K
          try simp only [Act.put, List.setIfInBounds_toArray, List.set_cons_zero, List.set_cons_succ]
          refine wpAnyH_ready (rs := [19]) (by kernel_rfl) (by simp) ?_
          refine AllReadyH.cons rfl (fun K hK => ?_) AllReadyH.nil
          obtain ⟨gu2, cu2, hcu2, hou2⟩ := HS4.out.loads.row k hlt
          rw [HCU.out] at hcu2
          simp only [Option.some.injEq, Value.slice.injEq, Addr.mk.injEq, and_true, true_and] at hcu2
          obtain ⟨rfl, rfl⟩ := hcu2
          refine step_appRX rfl (.tmp 37) (.tmp 48) 42 rfl (w.heap.size + 2) 69 3 24 #[.int .i64 0, .int .i64 0, .int .i64 0] Try.underlying42 infoLoad rfl (by decide) (by decide) (.slice (some ⟨gu, 0, none⟩) (rowN (shTo L M n wq x k) k) cu) (rowN (shTo L M n wq x k) k) (rowZ (shTo L M n wq x k) k) rfl (by exact hou2.alloc _) w4.heap.size 1 1 [(stoneU (rowZ L k) (rowN L k) x : Int), wq, x] rfl rfl (by exact fun j hj => (rowF_new3S w4 _ _ _ _).cell hj) (by omega) (by simp; omega) (by simp) ?_
          intro g' cap' w5 hown5 har5
          have HN5 := Lib.hid (HS.out.step (M' := shTo L M n wq x (k + 1)) (wy := (w4.alloc (.cells #[.int .i64 (stoneU (rowZ L k) (rowN L k) x : Int), .int .i64 wq, .int .i64 x] 69))) ((HBX.out.trans (HB4.out.mono (by rw [HWZ.out]; omega))).alloc (by omega) _) hlt HCU.out hown5 har5 ⟨by rw [HNK.out.1, HMK.out.1], by rw [HNK.out.2, HMK.out.2]⟩ (fun i hi hik => by
            by_cases hik2 : i < k
            · have e1 := shTo_lt (L := L) (M := M) (wq := wq) (x := x) (k := k + 1) hi (by omega)
              have e2 := shTo_lt (L := L) (M := M) (wq := wq) (x := x) (k := k) hi hik2
              rw [e1.1, e1.2, e2.1, e2.2]
              exact ⟨rfl, rfl⟩
            · have e1 := shTo_ge (L := L) (M := M) (wq := wq) (x := x) (k := k + 1) hi (by omega)
              have e2 := shTo_ge (L := L) (M := M) (wq := wq) (x := x) (k := k) hi hik2
              rw [e1.1, e1.2, e2.1, e2.2]
              exact ⟨rfl, rfl⟩))
          have hne : ∀ (b : Nat), b ≠ gu → ∀ g, ((.slice (some ⟨gu, 0, none⟩) (rowN (shTo L M n wq x k) k) cu) : Value).ownBlock = some g → g ≠ b := fun b hb g hg e => by simp [Value.ownBlock] at hg; omega
          have q6 : (w5.cell? ⟨X, 0, none⟩ = some (.slice (some ⟨gR, 0, none⟩) n c1) ∧ w5.cell? ⟨X, 1, none⟩ = some (.slice (some ⟨gL, 0, none⟩) n c2)) ∧ w5.cell? ⟨wr.heap.size, 0, none⟩ = some (.slice (some ⟨gi, 0, none⟩) (rowN L k) ci) := ⟨⟨(har5.cellStay (p := ⟨X, 0, none⟩) (by simp; omega) (hne X (fun e => t1 e.symm))).trans q5.1.1, (har5.cellStay (p := ⟨X, 1, none⟩) (by simp; omega) (hne X (fun e => t1 e.symm))).trans q5.1.2⟩, (har5.cellStay (p := ⟨wr.heap.size, 0, none⟩) (by simp; omega) (hne wr.heap.size (by omega))).trans q5.2⟩
          have u6 : w5.cell? ⟨gL, k, none⟩ = some (.slice (some ⟨gu, 0, none⟩) (rowN (shTo L M n wq x k) k) cu) := (har5.cellStay (p := ⟨gL, k, none⟩) (by simp; omega) (hne gL (fun e => t3 e.symm))).trans u5
          have f0 : w5.frozen? ⟨gL, k, none⟩ = false := by have := World.ownsRow.frozenAt HN5.out.loads.cells.1 k; rwa [World.frozen?_setCell] at this
          refine hK.out _ _ (by exact q6) (fun hHeld => ?_)
          clear hK K
          try simp only [Act.put, List.setIfInBounds_toArray, List.set_cons_zero, List.set_cons_succ]
          refine take_heldS (i := 20) (d := 50) rfl rfl (by kernel_rfl) (by kernel_rfl) (by kernel_rfl) (fun _ _ _ h => h) (by kernel_rfl) (fun w hSw => by (try dsimp only at hSw); go_simp; try rfl) (by assumption) ?_
          try simp only [Act.put, List.setIfInBounds_toArray, List.set_cons_zero, List.set_cons_succ]
          refine wpAnyH_ready (rs := [21]) (by kernel_rfl) (by simp) ?_
          refine AllReadyH.cons rfl (fun K hK => ?_) AllReadyH.nil
          go_simp
          refine hK.out _ _ (by exact ⟨⟨HN5.out.out.cell (i := 0) (by omega), HN5.out.out.cell (i := 1) (by omega)⟩, (World.cell?_setCell_far _ _ _ _ (by simp; omega)).trans q6.2⟩) (fun hHeld => ?_)
          clear hK K
          try simp only [Act.put, List.setIfInBounds_toArray, List.set_cons_zero, List.set_cons_succ]
          refine wpAnyH_done (by kernel_rfl) ?_ _
          clear hHeld
          go_wp2
          go_roundw
          case rel => exact ⟨k + 1, _, by go_num, by omega, HN5⟩
          case measure => simp [intOf]; omega
    · obtain rfl : n = k := by omega
      clear hlt hk
      have HNT : Hid (NestAt wr wr.heap.size 4 (some ⟨gR, 0, none⟩) n L ∧ NestAt wr wr.heap.size 3 (some ⟨gL, 0, none⟩) n (shTo L M n wq x n)) := Lib.hid ⟨HS.out.ribs.nestAt HR.out.2, HS.out.loads.nestAt (by simp [shTo])⟩
      have HRM : Hid (∀ i, i < n → rowN (shTo L M n wq x n) i ≤ 1048576) := Lib.hid (fun i hi => by
        have e := shTo_lt (L := L) (M := M) (wq := wq) (x := x) (k := n) hi hi
        obtain ⟨_, hq6, _⟩ := loadsB_out (HRIB.out i hi)
        rw [e.1]; omega)
      go_wp2_with fail
      refine (iVaultOk_any _ _ _ L _ _ _ (shTo L M n wq x n) _ HNT.out.1 (by omega) HR.out.1.1 HNT.out.2 (by omega) HRM.out).mono ?_
      clear o0 o1
      cases hV2 : vaultB L n (shTo L M n wq x n) n
      · have HF := Lib.hid (HF3.out hV2)
        rintro e w4 ⟨rfl, hb4⟩
        have HS4 := Lib.hid (HS.out.after hb4)
        have a0 : w4.cell? ⟨w.heap.size, 0, none⟩ = some (.slice (some ⟨gA, 0, none⟩) n cA) := HS4.out.arg.cell (i := 0) (by omega)
        have a1 : w4.cell? ⟨w.heap.size, 1, none⟩ = some (.slice (some ⟨gB, 0, none⟩) n cB) := HS4.out.arg.cell (i := 1) (by omega)
        clear hb4 HS HNT HRM hV2
        go_wp2_with fail
        refine (iCopyVault_any gA n cA gB n cB L M _ (HA.out.after HS4.out.below) hn HR.out.1.1 HR.out.1.2 (HB.out.after HS4.out.below) hq HT.out.1.1 HT.out.1.2).mono ?_
        rintro e w5 ⟨vR5, vL5, csR5, csL5, rfl, hgr5, hgl5, hb5⟩
        have HS5 := Lib.hid (HS4.out.after hb5)
        have HG5 := Lib.hid (And.intro hgr5 hgl5)
        have hz4 := HS4.out.res.lt
        have HZ4 := Lib.hid hb5.size
        obtain ⟨A5, c5, rfl, _⟩ := hgr5.cells.slice
        obtain ⟨B5, d5, rfl, _⟩ := hgl5.cells.slice
        clear hgr5 hgl5 hb5 a0 a1
        have r0 : w5.cell? ⟨w.heap.size + 1, 0, none⟩ = some (.slice none 0 0) := HS5.out.res.cell (i := 0) (by omega)
        have r1 : w5.cell? ⟨w.heap.size + 1, 1, none⟩ = some (.slice none 0 0) := HS5.out.res.cell (i := 1) (by omega)
        have f0 := HS5.out.res.frozen 0
        have f1 := HS5.out.res.frozen 1
        have hs := RowF.lt HS5.out.res
        go_wp2
        refine bodyPost_ret (v := .tuple #[.agg #[.slice A5 n c5, .slice B5 n d5], .bool false]) (by simp [results, Try.results8, go_sem, *]) rfl ?_
        exact ⟨.slice A5 n c5, .slice B5 n d5, csR5, csL5, by rw [HF.out.1], ((HG5.out.1.setLow (by simp; omega) _).setLow (by simp; omega) _).mono (by omega), by rw [HF.out.2]; exact ((HG5.out.2.setLow (by simp; omega) _).setLow (by simp; omega) _).mono (by omega), (HS5.out.below.setCell (by simp) _).setCell (by simp) _⟩
      · have HF := Lib.hid (HFT.out hV2)
        rintro e w4 ⟨rfl, hb4⟩
        have HS4 := Lib.hid (HS.out.after hb4)
        clear hb4 HS HNT HRM hV2
        have d0 : w4.cell? ⟨X, 0, none⟩ = some (.slice (some ⟨gR, 0, none⟩) n c1) := HS4.out.out.cell (i := 0) (by omega)
        have d1 : w4.cell? ⟨X, 1, none⟩ = some (.slice (some ⟨gL, 0, none⟩) n c2) := HS4.out.out.cell (i := 1) (by omega)
        have r0 : w4.cell? ⟨w.heap.size + 1, 0, none⟩ = some (.slice none 0 0) := HS4.out.res.cell (i := 0) (by omega)
        have r1 : w4.cell? ⟨w.heap.size + 1, 1, none⟩ = some (.slice none 0 0) := HS4.out.res.cell (i := 1) (by omega)
        have f0 := HS4.out.res.frozen 0
        have f1 := HS4.out.res.frozen 1
        have hs := RowF.lt HS4.out.res
        go_wp2
        refine bodyPost_ret (v := .tuple #[.agg #[.slice (some ⟨gR, 0, none⟩) n c1, .slice (some ⟨gL, 0, none⟩) n c2], .bool true]) (by simp [results, Try.results8, go_sem, *]) rfl ?_
        exact ⟨.slice (some ⟨gR, 0, none⟩) n c1, .slice (some ⟨gL, 0, none⟩) n c2, csR, csL, by rw [HF.out.1], ((HS4.out.ribs.setLow (by simp) _).setLow (by simp) _).mono (by omega), by rw [HF.out.2]; exact ((HS4.out.loads.setLow (by simp) _).setLow (by simp) _).mono (by omega), (HS4.out.below.setCell (by simp) _).setCell (by simp) _⟩
end Go.Proofs.Ytdjhiegolojoaaa
