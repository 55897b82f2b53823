/-
  FnExactCracksOf: whatever the input, the Go function returns true and each argument reads afterwards as it read before.
  Conditions: none beyond the given row's own.
-/
import Derived.Test.YtbcgckdjbabdjaaRows
import Derived.Test.YtbcgckdjbabdjaaBase
import Derived.Lib.SmallJoins
import Derived.Test.YtbcgckdjbabdjaaNest
import Derived.Test.YtbcgckdjbabdjaaWLawCrOf
namespace Go.Proofs.Ytbcgckdjbabdjaa.fnExactCracksOf
open Go.ChangeShapes Go.WideShapes Go.ChangeAt Go.RowKit
set_option linter.unusedVariables false

theorem own : ownKnob Try.prog.godebug = none := by kernel_rfl
theorem laidOut : laidOutB Try.prog = true := by kernel_rfl
theorem cellsInt : Try.prog.cellsOf 3 = 1 := by kernel_rfl
theorem flatPoint : Flat Try.prog 151 2 := flat_ints Try.underlying151 Try.underlying3 cellsInt (fun j hj => by match j, hj with | 0, _ => exact ⟨_, rfl, rfl, rfl⟩ | 1, _ => exact ⟨_, rfl, rfl, rfl⟩) rfl (by kernel_rfl)
theorem flatJoint : Flat Try.prog 153 4 := flat_struct2 (k0 := 2) (k1 := 2) Try.underlying153 flatPoint flatPoint rfl rfl (by kernel_rfl)
theorem holdArch : Holds1 Try.prog 24 4 := holds1_struct Try.underlying24 (holds1_slice Try.underlying22 flatJoint (by decide) (by kernel_rfl)) rfl (by kernel_rfl)
theorem flatLoad : Flat Try.prog 120 3 := flat_ints Try.underlying120 Try.underlying3 cellsInt (fun j hj => by match j, hj with | 0, _ => exact ⟨_, rfl, rfl, rfl⟩ | 1, _ => exact ⟨_, rfl, rfl, rfl⟩ | 2, _ => exact ⟨_, rfl, rfl, rfl⟩) rfl (by kernel_rfl)

set_option maxRecDepth 100000 in
theorem lifted (os : Os) (started : os.Started) (H : Type) (enc : TypeId × Value → H) :
    ReturnsInHanded {} Try.checked os 9 .any (Rows.fnExactCracksOfSpec.pre6 enc Try.prog Try.f9 Rows.fnExactCracksOfRow.domain false) (Rows.fnExactCracksOfSpec.post enc Try.prog Try.f9 false true false false) := by
  refine returnsInHanded_of_change (C := Try.checked) own started (by kernel_rfl) Try.func9
    (ChangeSpec.witness6 (enc := enc) (C := Try.checked) false ⟨#[], #[.agg #[.slice none 0 0], .slice none 0 0, .agg #[.int .i64 0, .int .i64 0, .int .i64 0, .int .i64 0]], []⟩ 8 (by kernel_rfl) (by kernel_rfl) (by kernel_rfl) (by kernel_rfl)) ?_
  intro W base args ds gs before hval0 hW hcnd _
  have hval : ∀ (j : Nat) t v, Try.f9.params[j]? = some t → args[j]? = some v → Value.okWide Try.prog W .any base t v := hval0
  have hW' := hW
  have hlt : ∀ x ∈ before, x.block < W.heap.size := fun x hx => hW.lt x hx
  obtain ⟨p, q, hA0, hV, rfl, hfz, hnd⟩ := hW
  have hA : DataW.TrodAll enc Try.prog W 0 (fun _ => true) true Try.f9.params.toList args.toList ds p := hA0
  rw [Try.params9] at hA hval
  obtain ⟨v0, vs0, d0, ds0, p0, q0, hargs, rfl, rfl, h0, r0⟩ := trodAll_cons hA
  obtain ⟨v1, vs1, d1, ds1, p1, q1, rfl, rfl, rfl, h1, r1⟩ := trodAll_cons r0
  obtain ⟨v2, vs2, d2, ds2, p2, q2, rfl, rfl, rfl, h2, r2⟩ := trodAll_cons r1
  obtain ⟨rfl, rfl, rfl⟩ := trodAll_nil r2
  obtain rfl : args = #[v0, v1, v2] := by cases args; simp_all
  obtain ⟨rfl, rfl⟩ := trodVars_none hV
  obtain ⟨A0, n0, c0, zs0, rfl, hi0, hm0, hc0, hb0⟩ := open_hold_arg Try.underlying24 holdArch (hval 0 24 v0 rfl rfl) h0 (fun x hx => hlt x (by simp [hx]))
  obtain ⟨A1, n1, c1, zs1, rfl, hi1, hm1, hc1, hb1⟩ := open_recs_arg Try.underlying54 flatLoad (by decide) (hval 1 54 v1 rfl rfl) h1 (fun x hx => hlt x (by simp [hx]))
  obtain ⟨u20, u21, u22, u23, y20, y21, y22, y23, m2, rfl, rfl, hp2, s20, s21, s22, s23⟩ := Joins.open_agg4 Try.underlying56 (by kernel_rfl) (by kernel_rfl) (hval 2 56 v2 rfl rfl) h2
  obtain ⟨a20, rfl, b20⟩ := open_int_cell Try.underlying3 s20
  obtain ⟨a21, rfl, b21⟩ := open_int_cell Try.underlying3 s21
  obtain ⟨a22, rfl, b22⟩ := open_int_cell Try.underlying3 s22
  obtain ⟨a23, rfl, b23⟩ := open_int_cell Try.underlying3 s23
  clear hA0 hval0
  refine (walk A0 n0 c0 zs0 (Nat.le_trans hm0 hc0) A1 n1 c1 zs1 (Nat.le_trans hm1 hc1) a20 b20.1 b20.2 a21 b21.1 b21.2 a22 b22.1 b22.2 a23 b23.1 b23.2 W hi0 hi1).mono fun e W' ⟨he, hg⟩ => ?_
  subst he
  exact ⟨_, rfl, law_post laidOut (by kernel_rfl) hW' rfl rfl Try.underlying4 rfl rfl rfl hg⟩

theorem over : Rows.fnExactCracksOfRow.holds Try.pinned (OpenSpec.ofChange Rows.fnExactCracksOfSpec) :=
  OpenClaim.holds_of_wide 9 Try.f9 rfl rfl rfl rfl rfl rfl rfl ⟨rfl, rfl, rfl, rfl, rfl⟩ rfl rfl rfl rfl rfl (by kernel_rfl) Try.func9 (by kernel_rfl)
    (of_decide_eq_true (by kernel_rfl)) (by unfold Func.isWrapper; first | (rw [if_pos (by decide +kernel)]; kernel_rfl) | (rw [if_neg (by decide +kernel)]; exact ⟨rfl, rfl⟩))
    (fun os started H enc _ => lifted os started H enc)

theorem proved : Rows.FnExactCracksOfSaid :=
  over
#print axioms proved
end Go.Proofs.Ytbcgckdjbabdjaa.fnExactCracksOf
