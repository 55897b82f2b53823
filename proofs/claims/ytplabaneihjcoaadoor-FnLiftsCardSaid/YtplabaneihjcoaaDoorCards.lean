/-
  DERIVED. GIVEN WITH THE SEED: THE CARDS: each row of YtplabaneihjcoaaDoorRows.lean that lists a variable, with what it lists TIED to the program's text (the seventh form; the later family's looks); each row that meets fmt, with fmt's text TOLD by the authors' own Lean function (tested against real Go, not proved from fmt's source: count such statements apart). THE CARD IS WHAT COUNTS. Prove the row's statement (the work); the ties are given (YtplabaneihjcoaaDoorTie.lean); close each card by the builder's one call (the guide's Derived/Test/ToyasCard.lean, 'card_holds'). Laid BY PROGRAM, IN A SANDBOX (cutbox-door.mjs). By AI agents, Wed Nov 11 2026. No macro, syntax, notation, axiom, sorry.
-/
import Derived.Test.YtplabaneihjcoaaDoorRows
import GoSem.ClaimSeven
namespace Go.Proofs.YtplabaneihjcoaaDoor
namespace Rows

/-- THE TIED CARD OF 'laws.FnExactLeastArm'. -/
def fnExactLeastArmCard : Claim7 := { stood := { row := fnExactLeastArmRow, standIns := [], harness := (true, "35253eb086c7da72238cc3b50745a1d713a8694b4c686ba23092f73bf5ce02c1"), looks := true }, kinds := [], alts := [], laidByText := true, laidKinds := [.sentinel], laidTests := true, laidLooks := .later }
def FnExactLeastArmCardSaid : Prop := Claim7.holds Tryd.pinned (.plain (OpenSpec.ofChange fnExactLeastArmSpec)) fnExactLeastArmCard

/-- THE TIED CARD OF 'laws.FnExactCanLift'. -/
def fnExactCanLiftCard : Claim7 := { stood := { row := fnExactCanLiftRow, standIns := [], harness := (true, "35253eb086c7da72238cc3b50745a1d713a8694b4c686ba23092f73bf5ce02c1"), looks := true }, kinds := [], alts := [], laidByText := true, laidKinds := [.sentinel], laidTests := true, laidLooks := .later }
def FnExactCanLiftCardSaid : Prop := Claim7.holds Tryd.pinned (.plain (OpenSpec.ofChange fnExactCanLiftSpec)) fnExactCanLiftCard

/-- THE TIED CARD OF 'laws.FnLifts'. -/
def fnLiftsCard : Claim7 := { stood := { row := fnLiftsRow, standIns := [], harness := (true, "35253eb086c7da72238cc3b50745a1d713a8694b4c686ba23092f73bf5ce02c1"), looks := true }, kinds := [], alts := [], laidByText := true, laidKinds := [.sentinel], laidTests := true, laidLooks := .later }
def FnLiftsCardSaid : Prop := Claim7.holds Tryd.pinned (.plain (OpenSpec.ofChange fnLiftsSpec)) fnLiftsCard

/-- THE SECOND FORM's CARD OF 'laws.FnExactLeastArm'. -/
def fnExactLeastArmUptoCard : Claim7 := { stood := { row := fnExactLeastArmUptoRow, standIns := [], harness := (true, "35253eb086c7da72238cc3b50745a1d713a8694b4c686ba23092f73bf5ce02c1"), looks := true }, kinds := [], alts := [], laidByText := true, laidKinds := [.sentinel], laidTests := true, laidLooks := .later }
def FnExactLeastArmUptoCardSaid : Prop := Claim7.holds Tryd.pinned (.plain (OpenSpec.upto fnExactLeastArmSpec)) fnExactLeastArmUptoCard

/-- THE SECOND FORM's CARD OF 'laws.FnExactCanLift'. -/
def fnExactCanLiftUptoCard : Claim7 := { stood := { row := fnExactCanLiftUptoRow, standIns := [], harness := (true, "35253eb086c7da72238cc3b50745a1d713a8694b4c686ba23092f73bf5ce02c1"), looks := true }, kinds := [], alts := [], laidByText := true, laidKinds := [.sentinel], laidTests := true, laidLooks := .later }
def FnExactCanLiftUptoCardSaid : Prop := Claim7.holds Tryd.pinned (.plain (OpenSpec.upto fnExactCanLiftSpec)) fnExactCanLiftUptoCard

/-- THE SECOND FORM's CARD OF 'laws.FnLifts'. -/
def fnLiftsUptoCard : Claim7 := { stood := { row := fnLiftsUptoRow, standIns := [], harness := (true, "35253eb086c7da72238cc3b50745a1d713a8694b4c686ba23092f73bf5ce02c1"), looks := true }, kinds := [], alts := [], laidByText := true, laidKinds := [.sentinel], laidTests := true, laidLooks := .later }
def FnLiftsUptoCardSaid : Prop := Claim7.holds Tryd.pinned (.plain (OpenSpec.upto fnLiftsSpec)) fnLiftsUptoCard
end Rows
end Go.Proofs.YtplabaneihjcoaaDoor
