/-
  FnLifts: whatever the input, the Go function returns true and each argument reads afterwards as it read before.
  Conditions: those of the given row (the package's variable holds the error that the program's text lays; the card ties it to the text).
-/
import Derived.Test.YtplabaneihjcoaaDoorRows
import Derived.Test.YtplabaneihjcoaaDoorCards
import Derived.Test.YtplabaneihjcoaaDoorTie
import Derived.Test.YtplabaneihjcoaaDoorErrRow
import Derived.LaidLaws
import Derived.SevenTiedAt
import Derived.Lib.SmallJoins
import Derived.Test.YtplabaneihjcoaaDoorNest
import Derived.Test.YtplabaneihjcoaaDoorWLifts
namespace Go.Proofs.YtplabaneihjcoaaDoor.fnLifts
open Go.ChangeShapes Go.WideShapes Go.ChangeAt Go.RowKit
set_option linter.unusedVariables false

theorem own : ownKnob Tryd.prog.godebug = none := by kernel_rfl
theorem gErr : Tryd.prog.globalNamed "loop.example/g03301/impl.errTooHeavy" = some 0 := by kernel_rfl
theorem tErr : (Tryd.prog.globals[0]?).map (·.type) = some 50 := by kernel_rfl
theorem cellsE : Tryd.prog.cellsOf 126 = 1 := by kernel_rfl
theorem cellsS : Tryd.prog.cellsOf 9 = 1 := by kernel_rfl
theorem star : "*" ++ "errors.errorString" = "*errors.errorString" := by decide
theorem rowP (u : TypeId) (h : Tryd.prog.typeName? 3 u = some "*errors.errorString") : u = 100 :=
  typeName_ptr_named (nm := "errors.errorString") (by rw [star]; kernel_rfl) (by kernel_rfl) (by decide) u (by rw [star]; exact h)

theorem door_met (os : Os) (args : Array Value) : laidMetH Tryd.prog Rows.fnLiftsRow.laid ((World.doorLaid Tryd.prog 400 os).forCall (fun _ _ => 0) ⟨#[], args, []⟩).memory :=
  laidMetH_of_parts3 (fuel := 8) (laidMet_of_run' 8 (by kernel_rfl) (by kernel_rfl)) (by kernel_rfl) (by kernel_rfl)

theorem of_laid {W : World} (h : laidMetH Tryd.prog Rows.fnLiftsRow.laid W) : ∃ a : Addr, W.var? Tryd.prog "loop.example/g03301/impl.errTooHeavy" = some #[.iface 100 (.pointer (some a))] := by
  rw [MakeChecks.laidMetH_plain _ _ _ (by kernel_rfl)] at h
  obtain ⟨a, s, hv, _⟩ := laid_sentinel h gErr tErr Tryd.underlying50 rowP Tryd.underlying100 Tryd.underlying126 rfl rfl Tryd.underlying9 cellsE cellsS
  exact ⟨a, hv⟩

theorem laidOut : laidOutB Tryd.prog = true := by kernel_rfl
theorem cellsInt : Tryd.prog.cellsOf 3 = 1 := by kernel_rfl

set_option maxRecDepth 100000 in
theorem lifted (os : Os) (started : os.Started) (H : Type) (enc : TypeId × Value → H) :
    ReturnsInHanded {} Tryd.checked os 5 .any (fun w args => (Rows.fnLiftsSpec.pre enc Tryd.prog Tryd.f5 [] false w args ∧ laidMetH Tryd.prog Rows.fnLiftsRow.laid w) ∧ sizedMet enc Tryd.prog Tryd.f5 (OpenSpec.ofChange Rows.fnLiftsSpec) false w args) (Rows.fnLiftsSpec.post enc Tryd.prog Tryd.f5 false true false false) := by
  refine returnsInHanded_of_change_and (C := Tryd.checked) (X := fun w _ => laidMetH Tryd.prog Rows.fnLiftsRow.laid w) (fun _ _ _ hh h => h.of_heap hh) own started (by kernel_rfl) Tryd.func5
    (ChangeSpec.witness_shaped (enc := enc) (C := Tryd.checked) (os := os) (X := fun w _ => laidMetH Tryd.prog Rows.fnLiftsRow.laid w) false (World.doorLaid Tryd.prog 400 os) #[.slice none 0 0] 8 rfl (World.shaped_of_RefB (by kernel_rfl) (by kernel_rfl)) (by kernel_rfl) (by kernel_rfl) (by kernel_rfl) (door_met os _)) ?_
  intro W base args ds gs before hval0 hW _ _ hL _
  have hval : ∀ (j : Nat) t v, Tryd.f5.params[j]? = some t → args[j]? = some v → Value.okWide Tryd.prog W .any base t v := hval0
  have hW' := hW
  have hlt : ∀ x ∈ before, x.block < W.heap.size := fun x hx => hW.lt x hx
  obtain ⟨p, q, hA0, hV0, rfl, hfz, hnd⟩ := hW
  have hV : DataW.TrodVars enc Tryd.prog W (fun _ => true) ["loop.example/g03301/impl.errTooHeavy"] gs q := hV0
  have hA : DataW.TrodAll enc Tryd.prog W 0 (fun _ => true) true Tryd.f5.params.toList args.toList ds p := hA0
  rw [Tryd.params5] at hA hval
  obtain ⟨v0, vs0, d0, ds0, p0, q0, hargs, rfl, rfl, h0, r0⟩ := trodAll_cons hA
  obtain ⟨rfl, rfl, rfl⟩ := trodAll_nil r0
  obtain rfl : args = #[v0] := by cases args; simp_all
  obtain ⟨a, hv⟩ := of_laid hL
  obtain ⟨rfl, rfl⟩ := hV.unique (vars_read1 enc gErr tErr Tryd.underlying50 hv trivial _)
  have hg0 : W.cell? ⟨0, 0, none⟩ = some (.iface 100 (.pointer (some a))) := by simpa using World.var?_cell gErr hv 0
  have hpos : 0 < W.heap.size := by
    rcases Nat.lt_or_ge 0 W.heap.size with h | h
    · exact h
    · simp [World.cell?, Array.getElem?_eq_none h] at hg0
  obtain ⟨A0, n0, c0, zs0, rfl, hi0, hm0, hc0⟩ := open_bytes_arg Tryd.underlying39 Tryd.underlying5 (by kernel_rfl) (hval 0 39 v0 rfl rfl) h0 (fun x hx => hlt x (by simp [hx]))
  clear hA0 hV0 hval0
  refine (walk A0 n0 c0 zs0 a W hi0 ⟨hpos, hg0⟩).mono fun e W' ⟨he, hg⟩ => ?_
  subst he
  exact ⟨_, rfl, law_post1 laidOut (by kernel_rfl) hW' rfl gErr tErr Tryd.underlying50 hpos hv trivial rfl Tryd.underlying4 rfl rfl rfl hg⟩

theorem over : Rows.fnLiftsRow.holds Tryd.pinned (OpenSpec.ofChange Rows.fnLiftsSpec) :=
  OpenClaim.holds_of_wide 5 Tryd.f5 rfl rfl rfl rfl rfl rfl rfl ⟨rfl, rfl, rfl, rfl, rfl⟩ rfl rfl rfl rfl rfl (by kernel_rfl) Tryd.func5 (by kernel_rfl)
    (of_decide_eq_true (by kernel_rfl)) (by unfold Func.isWrapper; first | (rw [if_pos (by decide +kernel)]; kernel_rfl) | (rw [if_neg (by decide +kernel)]; exact ⟨rfl, rfl⟩))
    (fun os started H enc _ => lifted os started H enc)

theorem proved : Rows.FnLiftsCardSaid :=
  Claim7.holds_tied_plain_at .later [] [.sentinel] true (true, "35253eb086c7da72238cc3b50745a1d713a8694b4c686ba23092f73bf5ce02c1") true
    over (fun _ h => by cases h) (by kernel_rfl) (fun _ h => by cases h) fnLifts_row_tie rfl ⟨rfl, rfl⟩ (by kernel_rfl) rfl
    (fun f fn hf hfn => by
      obtain rfl : f = 5 := Option.some.inj ((show Tryd.prog.funcNamed "loop.example/g03301/laws.FnLifts" = some 5 by kernel_rfl).symm.trans hf) |>.symm
      obtain rfl : fn = Tryd.f5 := (Option.some.inj (Tryd.func5.symm.trans hfn)).symm
      exact ⟨by kernel_rfl, fun j t ht => by
        rw [Tryd.params5] at ht
        have hm : t ∈ [39] := by
          have := Array.mem_of_getElem? ht
          simpa using this
        have hall : ([39].all fun u => !Tryd.prog.wantsStandIn u) = true := by kernel_rfl
        exact (show Tryd.prog.wantsStandIn t = false by simpa using List.all_eq_true.1 hall t hm)⟩)
    (by kernel_rfl)
#print axioms proved
end Go.Proofs.YtplabaneihjcoaaDoor.fnLifts
