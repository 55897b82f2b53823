/-
  FnExactShareWeight: whatever the input, the Go function returns true and each argument reads afterwards as it read before.
  Conditions: none beyond the given row's own.
-/
import Derived.Test.YtdjhiegolojoaaaRows
import Derived.Test.YtdjhiegolojoaaaBase
import Derived.Lib.SmallJoins
import Derived.Test.YtdjhiegolojoaaaNest
import Derived.Test.YtdjhiegolojoaaaWLawShare
namespace Go.Proofs.Ytdjhiegolojoaaa.fnExactShareWeight
open Go.ChangeShapes Go.WideShapes Go.ChangeAt Go.RowKit
set_option linter.unusedVariables false

theorem own : ownKnob Try.prog.godebug = none := by kernel_rfl
theorem laidOut : laidOutB Try.prog = true := by kernel_rfl
theorem cellsInt : Try.prog.cellsOf 3 = 1 := by kernel_rfl
theorem flatPoint : Flat Try.prog 152 2 := flat_ints Try.underlying152 Try.underlying3 cellsInt (fun j hj => by match j, hj with | 0, _ => exact ⟨_, rfl, rfl, rfl⟩ | 1, _ => exact ⟨_, rfl, rfl, rfl⟩) rfl (by kernel_rfl)
theorem flatJoint : Flat Try.prog 154 4 := flat_struct2 (k0 := 2) (k1 := 2) Try.underlying154 flatPoint flatPoint rfl rfl (by kernel_rfl)
theorem holdArch : Holds1 Try.prog 96 4 := holds1_struct Try.underlying96 (holds1_slice Try.underlying94 flatJoint (by decide) (by kernel_rfl)) rfl (by kernel_rfl)
theorem flatLoad : Flat Try.prog 130 3 := flat_ints Try.underlying130 Try.underlying3 cellsInt (fun j hj => by match j, hj with | 0, _ => exact ⟨_, rfl, rfl, rfl⟩ | 1, _ => exact ⟨_, rfl, rfl, rfl⟩ | 2, _ => exact ⟨_, rfl, rfl, rfl⟩) rfl (by kernel_rfl)
theorem holdLoads : Holds1 Try.prog 98 3 := holds1_slice Try.underlying98 flatLoad (by decide) (by kernel_rfl)

set_option maxRecDepth 100000 in
theorem lifted (os : Os) (started : os.Started) (H : Type) (enc : TypeId × Value → H) :
    ReturnsInHanded {} Try.checked os 3 .any (Rows.fnExactShareWeightSpec.pre6 enc Try.prog Try.f3 Rows.fnExactShareWeightRow.domain false) (Rows.fnExactShareWeightSpec.post enc Try.prog Try.f3 false true false false) := by
  refine returnsInHanded_of_change (C := Try.checked) own started (by kernel_rfl) Try.func3
    (ChangeSpec.witness6 (enc := enc) (C := Try.checked) false ⟨#[], #[.agg #[.slice none 0 0, .slice none 0 0], .int .i64 0, .int .i64 0], []⟩ 8 (by kernel_rfl) (by kernel_rfl) (by kernel_rfl) (by kernel_rfl)) ?_
  intro W base args ds gs before hval0 hW hcnd _
  have hval : ∀ (j : Nat) t v, Try.f3.params[j]? = some t → args[j]? = some v → Value.okWide Try.prog W .any base t v := hval0
  have hW' := hW
  have hlt : ∀ x ∈ before, x.block < W.heap.size := fun x hx => hW.lt x hx
  obtain ⟨p, q, hA0, hV, rfl, hfz, hnd⟩ := hW
  have hA : DataW.TrodAll enc Try.prog W 0 (fun _ => true) true Try.f3.params.toList args.toList ds p := hA0
  rw [Try.params3] at hA hval
  obtain ⟨v0, vs0, d0, ds0, p0, q0, hargs, rfl, rfl, h0, r0⟩ := trodAll_cons hA
  obtain ⟨v1, vs1, d1, ds1, p1, q1, rfl, rfl, rfl, h1, r1⟩ := trodAll_cons r0
  obtain ⟨v2, vs2, d2, ds2, p2, q2, rfl, rfl, rfl, h2, r2⟩ := trodAll_cons r1
  obtain ⟨rfl, rfl, rfl⟩ := trodAll_nil r2
  obtain rfl : args = #[v0, v1, v2] := by cases args; simp_all
  obtain ⟨rfl, rfl⟩ := trodVars_none hV
  obtain ⟨u00, u01, y00, y01, m0, rfl, rfl, hp0, s00, s01⟩ := Joins.open_agg2 Try.underlying25 (by kernel_rfl) (by kernel_rfl) (hval 0 25 v0 rfl rfl) h0
  subst hp0
  obtain ⟨A0, n0, c0, L0, rfl, hi0, hm0, hc0, hb0⟩ := open_nest_cell Try.underlying22 holdArch s00 (fun x hx => hlt x (by simp [hx]))
  obtain ⟨B0, k0, d0, M0, rfl, hj0, hl0, he0, hf0⟩ := open_nest_cell Try.underlying23 holdLoads s01 (fun x hx => hlt x (by simp [hx]))
  obtain ⟨a1, rfl, rfl, rfl, wf1⟩ := open_int Try.underlying3 (hval 1 3 v1 rfl rfl) h1
  have b1 := i64_bounds wf1
  obtain ⟨a2, rfl, rfl, rfl, wf2⟩ := open_int Try.underlying3 (hval 2 3 v2 rfl rfl) h2
  have b2 := i64_bounds wf2
  clear hA0 hval0
  refine (walk A0 n0 c0 L0 (Nat.le_trans hm0 hc0) B0 k0 d0 M0 (Nat.le_trans hl0 he0) a1 a2 W hi0 hj0).mono fun e W' ⟨he, hg⟩ => ?_
  subst he
  exact ⟨_, rfl, law_post laidOut (by kernel_rfl) hW' rfl rfl Try.underlying4 rfl rfl rfl hg⟩

theorem over : Rows.fnExactShareWeightRow.holds Try.pinned (OpenSpec.ofChange Rows.fnExactShareWeightSpec) :=
  OpenClaim.holds_of_wide 3 Try.f3 rfl rfl rfl rfl rfl rfl rfl ⟨rfl, rfl, rfl, rfl, rfl⟩ rfl rfl rfl rfl rfl (by kernel_rfl) Try.func3 (by kernel_rfl)
    (of_decide_eq_true (by kernel_rfl)) (by unfold Func.isWrapper; first | (rw [if_pos (by decide +kernel)]; kernel_rfl) | (rw [if_neg (by decide +kernel)]; exact ⟨rfl, rfl⟩))
    (fun os started H enc _ => lifted os started H enc)

theorem proved : Rows.FnExactShareWeightSaid :=
  over
#print axioms proved
end Go.Proofs.Ytdjhiegolojoaaa.fnExactShareWeight
