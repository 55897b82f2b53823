/-
  FnExactFailingRibs: whatever the input, the Go function returns true on every schedule of its goroutines, no two of them race, and each argument reads afterwards as it read before.
  Conditions: none beyond the given row's own.
-/
import Derived.Test.YtjcgklifabcfkaaGreatRows
import Derived.Lib.SmallJoins
import Derived.Conc.LeavingOf
import Derived.Conc.Holds
import Derived.Test.YtjcgklifabcfkaaGreatFailingRibsP1
import Derived.Test.YtjcgklifabcfkaaGreatFailingRibsP3
import Derived.Test.YtjcgklifabcfkaaGreatN1
namespace Go.Proofs.YtjcgklifabcfkaaGreat.fnExactFailingRibs
open Go.ChangeShapes Go.WideShapes Go.ChangeAt Go.RowKit Go.Conc
set_option linter.unusedVariables false

theorem own : ownKnob Tryz.prog.godebug = none := by kernel_rfl
theorem laidOut : laidOutB Tryz.prog = true := by kernel_rfl
theorem cellsInt : Tryz.prog.cellsOf 3 = 1 := by kernel_rfl
theorem noT : Tryz.prog.toTables.info? 326 = none := by kernel_rfl
theorem glob : Tryz.prog.globals.size = 0 := by kernel_rfl
theorem start : Rn.lawF 5 = true ∧ Tryz.prog.inits.idxOf? 5 = none := ⟨by decide +kernel, by kernel_rfl⟩
theorem flatPoint : Flat Tryz.prog 142 2 := flat_ints Tryz.underlying142 Tryz.underlying3 cellsInt (fun j hj => by match j, hj with | 0, _ => exact ⟨_, rfl, rfl, rfl⟩ | 1, _ => exact ⟨_, rfl, rfl, rfl⟩) rfl (by kernel_rfl)
theorem flatJoint : Flat Tryz.prog 144 4 := flat_struct2 (k0 := 2) (k1 := 2) Tryz.underlying144 flatPoint flatPoint rfl rfl (by kernel_rfl)
theorem holdArch : Holds1 Tryz.prog 83 4 := holds1_struct Tryz.underlying83 (holds1_slice Tryz.underlying81 flatJoint (by decide) (by kernel_rfl)) rfl (by kernel_rfl)
theorem flatLoad : Flat Tryz.prog 119 3 := flat_ints Tryz.underlying119 Tryz.underlying3 cellsInt (fun j hj => by match j, hj with | 0, _ => exact ⟨_, rfl, rfl, rfl⟩ | 1, _ => exact ⟨_, rfl, rfl, rfl⟩ | 2, _ => exact ⟨_, rfl, rfl, rfl⟩) rfl (by kernel_rfl)
theorem holdLoads : Holds1 Tryz.prog 85 3 := holds1_slice Tryz.underlying85 flatLoad (by decide) (by kernel_rfl)
theorem roomArch : Rn.Room1 Tryz.prog 83 := Rn.room1_struct Tryz.underlying83 (Rn.room1_slice Tryz.underlying81 flatJoint (by decide) (by kernel_rfl)) rfl (by kernel_rfl)
theorem roomLoads : Rn.Room1 Tryz.prog 85 := Rn.room1_slice Tryz.underlying85 flatLoad (by decide) (by kernel_rfl)

set_option maxRecDepth 100000 in
theorem lifted (os : Os) (started : os.Started) (H : Type) (enc : TypeId × Value → H) :
    ReturnsInLeavingWide {} Tryz.checked os 5 .any (Rows.fnExactFailingRibsSpec.pre6 enc Tryz.prog Tryz.f5 Rows.fnExactFailingRibsRow.domain false) (Rows.fnExactFailingRibsSpec.post enc Tryz.prog Tryz.f5 false true false false) := by
  refine returnsInLeavingWide_of_change_sized (C := Tryz.checked) own started Tryz.func5
    (ChangeSpec.witness6 (enc := enc) (C := Tryz.checked) false ⟨#[], #[.agg #[.slice none 0 0, .slice none 0 0]], []⟩ 8 (by kernel_rfl) (by kernel_rfl) (by kernel_rfl) (by kernel_rfl)) ?_
  intro W base args ds gs before hval0 hW hcnd _ _
  have hval : ∀ (j : Nat) t v, Tryz.f5.params[j]? = some t → args[j]? = some v → Value.okWide Tryz.prog W .any base t v := hval0
  have hW' := hW
  have hlt : ∀ x ∈ before, x.block < W.heap.size := fun x hx => hW.lt x hx
  obtain ⟨p, q, hA0, hV, rfl, hfz, hnd⟩ := hW
  have hA : DataW.TrodAll enc Tryz.prog W 0 (fun _ => true) true Tryz.f5.params.toList args.toList ds p := hA0
  rw [Tryz.params5] at hA hval
  obtain ⟨v0, vs0, d0, ds0, p0, q0, hargs, rfl, rfl, h0, r0⟩ := trodAll_cons hA
  obtain ⟨rfl, rfl, rfl⟩ := trodAll_nil r0
  obtain rfl : args = #[v0] := by cases args; simp_all
  obtain ⟨rfl, rfl⟩ := trodVars_none hV
  obtain ⟨u00, u01, y00, y01, m0, rfl, rfl, hp0, s00, s01⟩ := Joins.open_agg2 Tryz.underlying25 (by kernel_rfl) (by kernel_rfl) (hval 0 25 v0 rfl rfl) h0
  subst hp0
  obtain ⟨A0, n0, c0, L0, rfl, hi0, hm0, hc0, hb0⟩ := open_nest_cell Tryz.underlying22 holdArch s00 (fun x hx => hlt x (by simp [hx]))
  obtain ⟨B0, k0, d0, M0, rfl, hj0, hl0, he0, hf0⟩ := open_nest_cell Tryz.underlying23 holdLoads s01 (fun x hx => hlt x (by simp [hx]))
  have in0 := Rn.open_inner Tryz.underlying22 roomArch s00
  have in1 := Rn.open_inner Tryz.underlying23 roomLoads s01
  have at0 := Rn.pair_atCells Tryz.underlying25 (u := 22) (u' := 23) (by kernel_rfl) Tryz.underlying22 Tryz.underlying23 (hval 0 25 _ rfl rfl)
  clear hA0 hval0
  have hwin : Rn.WinsOk 326 (Rn.vWins W A0 n0 L0 B0 k0 M0) W := Rn.vWins_ok at0.1 at0.2 hi0 in0 hj0 in1
  obtain ⟨M, last, o, w', t', k1, k2, k3, k4⟩ := Rn.engine (noT := 326) (ws := Rn.vWins W A0 n0 L0 B0 k0 M0) (v := W) noT start.1 start.2 (largs := #[.agg #[.slice (Rn.lA A0 0) n0 c0, .slice (Rn.lA B0 1) k0 d0]]) (args := #[.agg #[.slice A0 n0 c0, .slice B0 k0 d0]]) (by rw [glob]; exact Nat.zero_le _) hwin
    (Rn.VAll.push Rn.VAll.nil (Rn.VR.aggA ((Rn.VAll.nil.push (Rn.vr_out at0.1 rfl)).push (Rn.vr_out at0.2 rfl))))
    (fun t d => (X.fnExactFailingRibs.walk (Rn.lA A0 0) n0 c0 L0 (Nat.le_trans hm0 hc0) (Rn.lA B0 1) k0 d0 M0 (Nat.le_trans hl0 he0) _ (Rn.lone_nest hi0 in0 rfl (fun i h => Rn.vWins_in h) t d) (Rn.lone_nest hj0 in1 rfl (fun i h => Rn.vWins_in2 h) t d)).mono fun _ _ h => h.1)
  refine ⟨M, last, o, w', t', k1, k2, k3, k4.mono fun v hF => ?_⟩
  obtain ⟨rfl, hst⟩ := hF
  exact law_post laidOut (by kernel_rfl) hW' rfl rfl Tryz.underlying4 rfl rfl rfl (Rn.stays_below hst)

theorem c1 : Tryz.pinned.checked.prog.funcNamed Rows.fnExactFailingRibsRow.func = some 5 := by kernel_rfl
theorem c2 : joinedFacts Tryz.pinned.checked.prog 5 Tryz.f5 Rows.fnExactFailingRibsSpec Rows.fnExactFailingRibsRow = true := by kernel_rfl
theorem c3 : Tryz.f5.isInstance Tryz.pinned.checked.prog Rows.fnExactFailingRibsRow.origin Rows.fnExactFailingRibsRow.targs := of_decide_eq_true (by kernel_rfl)
theorem c4 : Tryz.f5.isWrapper Tryz.pinned.checked.prog Rows.fnExactFailingRibsRow.wrapper Rows.fnExactFailingRibsRow.mainSum := by unfold Func.isWrapper; first | (rw [if_pos (by decide +kernel)]; kernel_rfl) | (rw [if_neg (by decide +kernel)]; exact ⟨rfl, rfl⟩)
theorem over : Rows.fnExactFailingRibsRow.holds Tryz.pinned (OpenSpec.ofChange Rows.fnExactFailingRibsSpec) :=
  OpenClaim.holds_of_wide_leaving 5 Tryz.f5 rfl rfl rfl rfl rfl rfl rfl ⟨rfl, rfl, rfl, rfl, rfl⟩ rfl rfl rfl rfl rfl c1 Tryz.func5 c2
    c3 c4
    (fun os started H enc _ => lifted os started H enc)

theorem proved : Rows.FnExactFailingRibsSaid :=
  over
#print axioms proved
end Go.Proofs.YtjcgklifabcfkaaGreat.fnExactFailingRibs
