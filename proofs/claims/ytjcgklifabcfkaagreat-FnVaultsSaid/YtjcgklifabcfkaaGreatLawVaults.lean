/-
  FnVaults: whatever the input, the Go function returns true on every schedule of its goroutines, no two of them race, and each argument reads afterwards as it read before.
  Conditions: none beyond the given row's own.
-/
import Derived.Test.YtjcgklifabcfkaaGreatRows
import Derived.Lib.SmallJoins
import Derived.Conc.LeavingOf
import Derived.Conc.Holds
import Derived.Test.YtjcgklifabcfkaaGreatV1
import Derived.Test.YtjcgklifabcfkaaGreatV20
import Derived.Test.YtjcgklifabcfkaaGreatV29
namespace Go.Proofs.YtjcgklifabcfkaaGreat.fnVaults
open Go.ChangeShapes Go.WideShapes Go.ChangeAt Go.RowKit Go.Conc
set_option linter.unusedVariables false

theorem own : ownKnob Tryz.prog.godebug = none := by kernel_rfl
theorem laidOut : laidOutB Tryz.prog = true := by kernel_rfl
theorem cellsInt : Tryz.prog.cellsOf 3 = 1 := by kernel_rfl
theorem noT : Tryz.prog.toTables.info? 326 = none := by kernel_rfl
theorem glob : Tryz.prog.globals.size = 0 := by kernel_rfl
theorem start : Rn.lawF 4 = true ∧ Tryz.prog.inits.idxOf? 4 = none := ⟨by decide +kernel, by kernel_rfl⟩

set_option maxRecDepth 100000 in
theorem lifted (os : Os) (started : os.Started) (H : Type) (enc : TypeId × Value → H) :
    ReturnsInLeavingWide {} Tryz.checked os 4 .any (Rows.fnVaultsSpec.pre6 enc Tryz.prog Tryz.f4 Rows.fnVaultsRow.domain false) (Rows.fnVaultsSpec.post enc Tryz.prog Tryz.f4 false true false false) := by
  refine returnsInLeavingWide_of_change_sized (C := Tryz.checked) own started Tryz.func4
    (ChangeSpec.witness6 (enc := enc) (C := Tryz.checked) false ⟨#[], #[.slice none 0 0], []⟩ 8 (by kernel_rfl) (by kernel_rfl) (by kernel_rfl) (by kernel_rfl)) ?_
  intro W base args ds gs before hval0 hW hcnd _ _
  have hval : ∀ (j : Nat) t v, Tryz.f4.params[j]? = some t → args[j]? = some v → Value.okWide Tryz.prog W .any base t v := hval0
  have hW' := hW
  have hlt : ∀ x ∈ before, x.block < W.heap.size := fun x hx => hW.lt x hx
  obtain ⟨p, q, hA0, hV, rfl, hfz, hnd⟩ := hW
  have hA : DataW.TrodAll enc Tryz.prog W 0 (fun _ => true) true Tryz.f4.params.toList args.toList ds p := hA0
  rw [Tryz.params4] at hA hval
  obtain ⟨v0, vs0, d0, ds0, p0, q0, hargs, rfl, rfl, h0, r0⟩ := trodAll_cons hA
  obtain ⟨rfl, rfl, rfl⟩ := trodAll_nil r0
  obtain rfl : args = #[v0] := by cases args; simp_all
  obtain ⟨rfl, rfl⟩ := trodVars_none hV
  obtain ⟨A0, n0, c0, zs0, rfl, hi0, hm0, hc0⟩ := open_bytes_arg Tryz.underlying35 Tryz.underlying5 (by kernel_rfl) (hval 0 35 v0 rfl rfl) h0 (fun x hx => hlt x (by simp [hx]))
  have at0 := Rn.slice_atCells Tryz.underlying35 (hval 0 35 _ rfl rfl)
  clear hA0 hval0
  have hwin : Rn.WinsOk 326 [Rn.winOf .u8 A0 n0 zs0] W := Rn.winsOk_nil.2 (by simp only [List.forall_mem_cons]; exact ⟨Rn.winOf_okB at0 hi0, fun _ h => absurd h (List.not_mem_nil)⟩)
  obtain ⟨M, last, o, w', t', k1, k2, k3, k4⟩ := Rn.engine (noT := 326) (ws := [Rn.winOf .u8 A0 n0 zs0]) (v := W) noT start.1 start.2 (largs := #[.slice (Rn.lA A0 0) n0 c0]) (args := #[.slice A0 n0 c0]) (by rw [glob]; exact Nat.zero_le _) hwin
    (Rn.VAll.push Rn.VAll.nil (Rn.vr_slice at0 (i := 0) (k := .u8) (m := n0) (zs := zs0) rfl))
    (fun t d => (X.fnVaults.walk (Rn.lA A0 0) n0 c0 zs0 _ (Rn.lone_bytes hi0 (i := 0) rfl t d)).mono fun _ _ h => h.1)
  refine ⟨M, last, o, w', t', k1, k2, k3, k4.mono fun v hF => ?_⟩
  obtain ⟨rfl, hst⟩ := hF
  exact law_post laidOut (by kernel_rfl) hW' rfl rfl Tryz.underlying4 rfl rfl rfl (Rn.stays_below hst)

theorem c1 : Tryz.pinned.checked.prog.funcNamed Rows.fnVaultsRow.func = some 4 := by kernel_rfl
theorem c2 : joinedFacts Tryz.pinned.checked.prog 4 Tryz.f4 Rows.fnVaultsSpec Rows.fnVaultsRow = true := by kernel_rfl
theorem c3 : Tryz.f4.isInstance Tryz.pinned.checked.prog Rows.fnVaultsRow.origin Rows.fnVaultsRow.targs := of_decide_eq_true (by kernel_rfl)
theorem c4 : Tryz.f4.isWrapper Tryz.pinned.checked.prog Rows.fnVaultsRow.wrapper Rows.fnVaultsRow.mainSum := by unfold Func.isWrapper; first | (rw [if_pos (by decide +kernel)]; kernel_rfl) | (rw [if_neg (by decide +kernel)]; exact ⟨rfl, rfl⟩)
theorem over : Rows.fnVaultsRow.holds Tryz.pinned (OpenSpec.ofChange Rows.fnVaultsSpec) :=
  OpenClaim.holds_of_wide_leaving 4 Tryz.f4 rfl rfl rfl rfl rfl rfl rfl ⟨rfl, rfl, rfl, rfl, rfl⟩ rfl rfl rfl rfl rfl c1 Tryz.func4 c2
    c3 c4
    (fun os started H enc _ => lifted os started H enc)

theorem proved : Rows.FnVaultsSaid :=
  over
#print axioms proved
end Go.Proofs.YtjcgklifabcfkaaGreat.fnVaults
