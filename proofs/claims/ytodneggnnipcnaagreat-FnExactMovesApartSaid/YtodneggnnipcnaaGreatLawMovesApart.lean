/-
  FnExactMovesApart: whatever the input, the Go function returns true on every schedule of its goroutines, no two of them race, and each argument reads afterwards as it read before.
  Conditions: none beyond the given row's own.
-/
import Derived.Test.YtodneggnnipcnaaGreatRows
import Derived.Lib.SmallJoins
import Derived.Conc.LeavingOf
import Derived.Conc.Holds
import Derived.Test.YtodneggnnipcnaaGreatMovesApartP4
import Derived.Test.YtodneggnnipcnaaGreatH1
import Derived.Test.YtodneggnnipcnaaGreatH20
namespace Go.Proofs.YtodneggnnipcnaaGreat.fnExactMovesApart
open Go.ChangeShapes Go.WideShapes Go.ChangeAt Go.RowKit Go.Conc
set_option linter.unusedVariables false

theorem own : ownKnob Tryz.prog.godebug = none := by kernel_rfl
theorem laidOut : laidOutB Tryz.prog = true := by kernel_rfl
theorem cellsInt : Tryz.prog.cellsOf 3 = 1 := by kernel_rfl
theorem noT : Tryz.prog.toTables.info? 329 = none := by kernel_rfl
theorem glob : Tryz.prog.globals.size = 0 := by kernel_rfl
theorem start : Rn.lawF 8 = true ∧ Tryz.prog.inits.idxOf? 8 = none := ⟨by decide +kernel, by kernel_rfl⟩
theorem flatPoint : Flat Tryz.prog 102 2 := flat_ints Tryz.underlying102 Tryz.underlying3 cellsInt (fun j hj => by match j, hj with | 0, _ => exact ⟨_, rfl, rfl, rfl⟩ | 1, _ => exact ⟨_, rfl, rfl, rfl⟩) rfl (by kernel_rfl)
theorem flatJoint : Flat Tryz.prog 104 4 := flat_struct2 (k0 := 2) (k1 := 2) Tryz.underlying104 flatPoint flatPoint rfl rfl (by kernel_rfl)
theorem holdArch : Holds1 Tryz.prog 24 4 := holds1_struct Tryz.underlying24 (holds1_slice Tryz.underlying22 flatJoint (by decide) (by kernel_rfl)) rfl (by kernel_rfl)
theorem flatLoad : Flat Tryz.prog 77 3 := flat_ints Tryz.underlying77 Tryz.underlying3 cellsInt (fun j hj => by match j, hj with | 0, _ => exact ⟨_, rfl, rfl, rfl⟩ | 1, _ => exact ⟨_, rfl, rfl, rfl⟩ | 2, _ => exact ⟨_, rfl, rfl, rfl⟩) rfl (by kernel_rfl)

set_option maxRecDepth 100000 in
theorem lifted (os : Os) (started : os.Started) (H : Type) (enc : TypeId × Value → H) :
    ReturnsInLeavingWide {} Tryz.checked os 8 .any (Rows.fnExactMovesApartSpec.pre6 enc Tryz.prog Tryz.f8 Rows.fnExactMovesApartRow.domain false) (Rows.fnExactMovesApartSpec.post enc Tryz.prog Tryz.f8 false true false false) := by
  refine returnsInLeavingWide_of_change_sized (C := Tryz.checked) own started Tryz.func8
    (ChangeSpec.witness6 (enc := enc) (C := Tryz.checked) false ⟨#[], #[.agg #[.slice none 0 0], .slice none 0 0], []⟩ 8 (by kernel_rfl) (by kernel_rfl) (by kernel_rfl) (by kernel_rfl)) ?_
  intro W base args ds gs before hval0 hW hcnd _ _
  have hval : ∀ (j : Nat) t v, Tryz.f8.params[j]? = some t → args[j]? = some v → Value.okWide Tryz.prog W .any base t v := hval0
  have hW' := hW
  have hlt : ∀ x ∈ before, x.block < W.heap.size := fun x hx => hW.lt x hx
  obtain ⟨p, q, hA0, hV, rfl, hfz, hnd⟩ := hW
  have hA : DataW.TrodAll enc Tryz.prog W 0 (fun _ => true) true Tryz.f8.params.toList args.toList ds p := hA0
  rw [Tryz.params8] at hA hval
  obtain ⟨v0, vs0, d0, ds0, p0, q0, hargs, rfl, rfl, h0, r0⟩ := trodAll_cons hA
  obtain ⟨v1, vs1, d1, ds1, p1, q1, rfl, rfl, rfl, h1, r1⟩ := trodAll_cons r0
  obtain ⟨rfl, rfl, rfl⟩ := trodAll_nil r1
  obtain rfl : args = #[v0, v1] := by cases args; simp_all
  obtain ⟨rfl, rfl⟩ := trodVars_none hV
  obtain ⟨A0, n0, c0, zs0, rfl, hi0, hm0, hc0, hb0⟩ := open_hold_arg Tryz.underlying24 holdArch (hval 0 24 v0 rfl rfl) h0 (fun x hx => hlt x (by simp [hx]))
  obtain ⟨A1, n1, c1, zs1, rfl, hi1, hm1, hc1, hb1⟩ := open_recs_arg Tryz.underlying25 flatLoad (by decide) (hval 1 25 v1 rfl rfl) h1 (fun x hx => hlt x (by simp [hx]))
  have at0 := Rn.hold_atCells Tryz.underlying24 (u := 22) (by kernel_rfl) Tryz.underlying22 (hval 0 24 _ rfl rfl)
  have at1 := Rn.slice_atCells Tryz.underlying25 (hval 1 25 _ rfl rfl)
  clear hA0 hval0
  have hwin : Rn.WinsOk 329 [Rn.winOf .i64 A0 (n0 * 4) zs0, Rn.winOf .i64 A1 (n1 * 3) zs1] W := Rn.winsOk_nil.2 (by simp only [List.forall_mem_cons]; exact ⟨Rn.winOf_ok at0 hi0, Rn.winOf_ok at1 hi1, fun _ h => absurd h (List.not_mem_nil)⟩)
  obtain ⟨M, last, o, w', t', k1, k2, k3, k4⟩ := Rn.engine (noT := 329) (ws := [Rn.winOf .i64 A0 (n0 * 4) zs0, Rn.winOf .i64 A1 (n1 * 3) zs1]) (v := W) noT start.1 start.2 (largs := #[.agg #[.slice (Rn.lA A0 0) n0 c0], .slice (Rn.lA A1 1) n1 c1]) (args := #[.agg #[.slice A0 n0 c0], .slice A1 n1 c1]) (by rw [glob]; exact Nat.zero_le _) hwin
    ((Rn.VAll.push Rn.VAll.nil (Rn.vr_hold (Rn.vr_slice at0 (i := 0) (k := .i64) (m := n0 * 4) (zs := zs0) rfl))).push (Rn.vr_slice at1 (i := 1) (k := .i64) (m := n1 * 3) (zs := zs1) rfl))
    (fun t d => (X.fnExactMovesApart.walk (Rn.lA A0 0) n0 c0 zs0 (Nat.le_trans hm0 hc0) (Rn.lA A1 1) n1 c1 zs1 (Nat.le_trans hm1 hc1) _ (Rn.lone_recs hi0 (i := 0) rfl t d) (Rn.lone_recs hi1 (i := 1) rfl t d)).mono fun _ _ h => h.1)
  refine ⟨M, last, o, w', t', k1, k2, k3, k4.mono fun v hF => ?_⟩
  obtain ⟨rfl, hst⟩ := hF
  exact law_post laidOut (by kernel_rfl) hW' rfl rfl Tryz.underlying4 rfl rfl rfl (Rn.stays_below hst)

theorem c1 : Tryz.pinned.checked.prog.funcNamed Rows.fnExactMovesApartRow.func = some 8 := by kernel_rfl
theorem c2 : joinedFacts Tryz.pinned.checked.prog 8 Tryz.f8 Rows.fnExactMovesApartSpec Rows.fnExactMovesApartRow = true := by kernel_rfl
theorem c3 : Tryz.f8.isInstance Tryz.pinned.checked.prog Rows.fnExactMovesApartRow.origin Rows.fnExactMovesApartRow.targs := of_decide_eq_true (by kernel_rfl)
theorem c4 : Tryz.f8.isWrapper Tryz.pinned.checked.prog Rows.fnExactMovesApartRow.wrapper Rows.fnExactMovesApartRow.mainSum := by unfold Func.isWrapper; first | (rw [if_pos (by decide +kernel)]; kernel_rfl) | (rw [if_neg (by decide +kernel)]; exact ⟨rfl, rfl⟩)
theorem over : Rows.fnExactMovesApartRow.holds Tryz.pinned (OpenSpec.ofChange Rows.fnExactMovesApartSpec) :=
  OpenClaim.holds_of_wide_leaving 8 Tryz.f8 rfl rfl rfl rfl rfl rfl rfl ⟨rfl, rfl, rfl, rfl, rfl⟩ rfl rfl rfl rfl rfl c1 Tryz.func8 c2
    c3 c4
    (fun os started H enc _ => lifted os started H enc)

theorem proved : Rows.FnExactMovesApartSaid :=
  over
#print axioms proved
end Go.Proofs.YtodneggnnipcnaaGreat.fnExactMovesApart
