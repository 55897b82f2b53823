/-
  No cell of these rows narrows 'for every input' (looked for: loops, veiled, ifaces, maps, wideKeys, modest, calm, conditions, laid).
  DERIVED. THE GIVEN ROWS OF THIS SEAT. 7 by the template 'for every input the law returns true; each argument reads behind the call as it read before'; 0 by the template 'total and deterministic' (their statements: YtdphndjohhfgoaaTotals.lean).
  GIVEN WITH THE SEED: the statements are not yours to turn. If you find one false, say at which input.
  Laid BY PROGRAM, IN A SANDBOX (cutbox-rows.mjs): the forced cells as the released guide's own fill.sh prints them over the translation ee69080f39ffb6fa… (all of the seat's roots in one cut). By AI agents, Wed Nov 11 2026. No macro, syntax, notation, axiom, sorry.
-/
import Derived.Test.YtdphndjohhfgoaaChecked
import GoSem.Claim
import GoSem.ClaimJoined
import GoSem.ClaimMapViews
import Derived.JoinedTies
import Derived.KernelRfl
namespace Go.Proofs.Ytdphndjohhfgoaa
/- THE CELL 'sum', in the pinned program and in every row, IS THE sha256 OF THE DUMP (.gsa) THAT YtdphndjohhfgoaaProg.lean LOADS. Nothing in Lean hashes anything: it is a label: what it is worth is what the hold of that sum in a sandbox is worth. -/
noncomputable def Try.pinned : Pinned := { name := "ytdphndjohhfgoaa", sum := "ee69080f39ffb6fac1def19c4d8d300c4c83e69803da8dc857e3785b93447d56", checked := Try.checked }
namespace Rows
def none {H : Type} : Left H := { results := [], args := [] }

/-- 'laws.FnExactWasteOf': WHATEVER THE INPUT: true; the input reads as it did. -/
def fnExactWasteOfSpec : ChangeSpec := { name := "fnExactWasteOf", fn := fun _ => fun
  | [d1, d2] => { results := [.lit (.bool true)], args := [d1, d2] }
  | _ => none }
def fnExactWasteOfRow : OpenClaim := { program := "ytdphndjohhfgoaa", sum := "ee69080f39ffb6fac1def19c4d8d300c4c83e69803da8dc857e3785b93447d56", func := "loop.example/g03301/laws.FnExactWasteOf", spec := "fnExactWasteOf", apart := false }
def FnExactWasteOfSaid : Prop := fnExactWasteOfRow.holds Try.pinned (OpenSpec.ofChange fnExactWasteOfSpec)

/-- ITS FALSE NEIGHBOUR: 'it returns false'. Refute it at one input. -/
def fnExactWasteOfWrong : ChangeSpec := { name := "fnExactWasteOf", fn := fun _ => fun
  | [d1, d2] => { results := [.lit (.bool false)], args := [d1, d2] }
  | _ => none }
def FnExactWasteOfWrongFalsely : Prop := fnExactWasteOfRow.holds Try.pinned (OpenSpec.ofChange fnExactWasteOfWrong)

/-- 'laws.FnExactLoneSpans': WHATEVER THE INPUT: true; the input reads as it did. -/
def fnExactLoneSpansSpec : ChangeSpec := { name := "fnExactLoneSpans", fn := fun _ => fun
  | [d1, d2] => { results := [.lit (.bool true)], args := [d1, d2] }
  | _ => none }
def fnExactLoneSpansRow : OpenClaim := { program := "ytdphndjohhfgoaa", sum := "ee69080f39ffb6fac1def19c4d8d300c4c83e69803da8dc857e3785b93447d56", func := "loop.example/g03301/laws.FnExactLoneSpans", spec := "fnExactLoneSpans", apart := false }
def FnExactLoneSpansSaid : Prop := fnExactLoneSpansRow.holds Try.pinned (OpenSpec.ofChange fnExactLoneSpansSpec)

/-- ITS FALSE NEIGHBOUR: 'it returns false'. Refute it at one input. -/
def fnExactLoneSpansWrong : ChangeSpec := { name := "fnExactLoneSpans", fn := fun _ => fun
  | [d1, d2] => { results := [.lit (.bool false)], args := [d1, d2] }
  | _ => none }
def FnExactLoneSpansWrongFalsely : Prop := fnExactLoneSpansRow.holds Try.pinned (OpenSpec.ofChange fnExactLoneSpansWrong)

/-- 'laws.FnExactFewestTrips': WHATEVER THE INPUT: true; the input reads as it did. -/
def fnExactFewestTripsSpec : ChangeSpec := { name := "fnExactFewestTrips", fn := fun _ => fun
  | [d1, d2] => { results := [.lit (.bool true)], args := [d1, d2] }
  | _ => none }
def fnExactFewestTripsRow : OpenClaim := { program := "ytdphndjohhfgoaa", sum := "ee69080f39ffb6fac1def19c4d8d300c4c83e69803da8dc857e3785b93447d56", func := "loop.example/g03301/laws.FnExactFewestTrips", spec := "fnExactFewestTrips", apart := false }
def FnExactFewestTripsSaid : Prop := fnExactFewestTripsRow.holds Try.pinned (OpenSpec.ofChange fnExactFewestTripsSpec)

/-- ITS FALSE NEIGHBOUR: 'it returns false'. Refute it at one input. -/
def fnExactFewestTripsWrong : ChangeSpec := { name := "fnExactFewestTrips", fn := fun _ => fun
  | [d1, d2] => { results := [.lit (.bool false)], args := [d1, d2] }
  | _ => none }
def FnExactFewestTripsWrongFalsely : Prop := fnExactFewestTripsRow.holds Try.pinned (OpenSpec.ofChange fnExactFewestTripsWrong)

/-- 'laws.FnExactFairMarks': WHATEVER THE INPUT: true; the input reads as it did. -/
def fnExactFairMarksSpec : ChangeSpec := { name := "fnExactFairMarks", fn := fun _ => fun
  | [d1, d2] => { results := [.lit (.bool true)], args := [d1, d2] }
  | _ => none }
def fnExactFairMarksRow : OpenClaim := { program := "ytdphndjohhfgoaa", sum := "ee69080f39ffb6fac1def19c4d8d300c4c83e69803da8dc857e3785b93447d56", func := "loop.example/g03301/laws.FnExactFairMarks", spec := "fnExactFairMarks", unfollowed := true, recurses := true, apart := false }
def FnExactFairMarksSaid : Prop := fnExactFairMarksRow.holds Try.pinned (OpenSpec.ofChange fnExactFairMarksSpec)

/-- ITS FALSE NEIGHBOUR: 'it returns false'. Refute it at one input. -/
def fnExactFairMarksWrong : ChangeSpec := { name := "fnExactFairMarks", fn := fun _ => fun
  | [d1, d2] => { results := [.lit (.bool false)], args := [d1, d2] }
  | _ => none }
def FnExactFairMarksWrongFalsely : Prop := fnExactFairMarksRow.holds Try.pinned (OpenSpec.ofChange fnExactFairMarksWrong)

/-- 'laws.FnLayings': WHATEVER THE INPUT: true; the input reads as it did. -/
def fnLayingsSpec : ChangeSpec := { name := "fnLayings", fn := fun _ => fun
  | [d] => { results := [.lit (.bool true)], args := [d] }
  | _ => none }
def fnLayingsRow : OpenClaim := { program := "ytdphndjohhfgoaa", sum := "ee69080f39ffb6fac1def19c4d8d300c4c83e69803da8dc857e3785b93447d56", func := "loop.example/g03301/laws.FnLayings", spec := "fnLayings", unfollowed := true, recurses := true, apart := false }
def FnLayingsSaid : Prop := fnLayingsRow.holds Try.pinned (OpenSpec.ofChange fnLayingsSpec)

/-- ITS FALSE NEIGHBOUR: 'it returns false'. Refute it at one input. -/
def fnLayingsWrong : ChangeSpec := { name := "fnLayings", fn := fun _ => fun
  | [d] => { results := [.lit (.bool false)], args := [d] }
  | _ => none }
def FnLayingsWrongFalsely : Prop := fnLayingsRow.holds Try.pinned (OpenSpec.ofChange fnLayingsWrong)

/-- 'laws.FnExactBridgeForces': WHATEVER THE INPUT: true; the input reads as it did. -/
def fnExactBridgeForcesSpec : ChangeSpec := { name := "fnExactBridgeForces", fn := fun _ => fun
  | [d] => { results := [.lit (.bool true)], args := [d] }
  | _ => none }
def fnExactBridgeForcesRow : OpenClaim := { program := "ytdphndjohhfgoaa", sum := "ee69080f39ffb6fac1def19c4d8d300c4c83e69803da8dc857e3785b93447d56", func := "loop.example/g03301/laws.FnExactBridgeForces", spec := "fnExactBridgeForces", apart := false }
def FnExactBridgeForcesSaid : Prop := fnExactBridgeForcesRow.holds Try.pinned (OpenSpec.ofChange fnExactBridgeForcesSpec)

/-- ITS FALSE NEIGHBOUR: 'it returns false'. Refute it at one input. -/
def fnExactBridgeForcesWrong : ChangeSpec := { name := "fnExactBridgeForces", fn := fun _ => fun
  | [d] => { results := [.lit (.bool false)], args := [d] }
  | _ => none }
def FnExactBridgeForcesWrongFalsely : Prop := fnExactBridgeForcesRow.holds Try.pinned (OpenSpec.ofChange fnExactBridgeForcesWrong)

/-- 'laws.FnBlocks': WHATEVER THE INPUT: true; the input reads as it did. -/
def fnBlocksSpec : ChangeSpec := { name := "fnBlocks", fn := fun _ => fun
  | [d] => { results := [.lit (.bool true)], args := [d] }
  | _ => none }
def fnBlocksRow : OpenClaim := { program := "ytdphndjohhfgoaa", sum := "ee69080f39ffb6fac1def19c4d8d300c4c83e69803da8dc857e3785b93447d56", func := "loop.example/g03301/laws.FnBlocks", spec := "fnBlocks", unfollowed := true, recurses := true, apart := false }
def FnBlocksSaid : Prop := fnBlocksRow.holds Try.pinned (OpenSpec.ofChange fnBlocksSpec)

/-- ITS FALSE NEIGHBOUR: 'it returns false'. Refute it at one input. -/
def fnBlocksWrong : ChangeSpec := { name := "fnBlocks", fn := fun _ => fun
  | [d] => { results := [.lit (.bool false)], args := [d] }
  | _ => none }
def FnBlocksWrongFalsely : Prop := fnBlocksRow.holds Try.pinned (OpenSpec.ofChange fnBlocksWrong)

/- THE SECOND FORM. 'bulk': how many values and letters a reading holds, each counted each time it is reached (what is shared counts as often as it is met; a slice's spare places count too). A statement '..UptoSaid' is the law's where the arguments, and the package variables that the reading takes, are together of bulk at most 1048576: NARROWER than '..Said'. Prove '..Said' where nothing that the law and all that it calls make is longer than what came in: it says more and counts as full. Else prove '..UptoSaid'. A law counts once. -/
mutual
def uptoBulk {H : Type} : DataW H → Nat
  | .lit (.string bytes) => bytes.length + 1
  | .lit _ => 1
  | .nil => 1
  | .ptr d => uptoBulk d + 1
  | .slice elems spare => uptoBulkAll elems + uptoBulkAll spare + 1
  | .agg parts => uptoBulkAll parts + 1
  | .iface _ d => uptoBulk d + 1
  | .map entries => uptoBulkEntries entries + 1
  | .held _ => 1
def uptoBulkAll {H : Type} : List (DataW H) → Nat
  | [] => 0
  | d :: r => uptoBulk d + uptoBulkAll r
def uptoBulkEntries {H : Type} : List (Lit × DataW H) → Nat
  | [] => 0
  | x :: r => uptoBulkEntry x + uptoBulkEntries r
def uptoBulkEntry {H : Type} : Lit × DataW H → Nat
  | (.string bytes, d) => bytes.length + uptoBulk d + 1
  | (_, d) => uptoBulk d + 1
 end
def uptoSmall : (H : Type) → List (DataW H) → Bool := fun _ ds => decide (uptoBulkAll ds ≤ 1048576)
def OpenSpec.upto (s : _root_.Go.ChangeSpec) : _root_.Go.OpenSpec := { _root_.Go.OpenSpec.ofChange s with cond := some uptoSmall }

/-- 'laws.FnExactWasteOf', WHERE WHAT IT READS IS OF BULK AT MOST 1048576: true; the input reads as it did. -/
def fnExactWasteOfUptoRow : OpenClaim := { program := "ytdphndjohhfgoaa", sum := "ee69080f39ffb6fac1def19c4d8d300c4c83e69803da8dc857e3785b93447d56", func := "loop.example/g03301/laws.FnExactWasteOf", spec := "fnExactWasteOf", apart := false, narrowed := true }
def FnExactWasteOfUptoSaid : Prop := fnExactWasteOfUptoRow.holds Try.pinned (OpenSpec.upto fnExactWasteOfSpec)

/-- 'laws.FnExactLoneSpans', WHERE WHAT IT READS IS OF BULK AT MOST 1048576: true; the input reads as it did. -/
def fnExactLoneSpansUptoRow : OpenClaim := { program := "ytdphndjohhfgoaa", sum := "ee69080f39ffb6fac1def19c4d8d300c4c83e69803da8dc857e3785b93447d56", func := "loop.example/g03301/laws.FnExactLoneSpans", spec := "fnExactLoneSpans", apart := false, narrowed := true }
def FnExactLoneSpansUptoSaid : Prop := fnExactLoneSpansUptoRow.holds Try.pinned (OpenSpec.upto fnExactLoneSpansSpec)

/-- 'laws.FnExactFewestTrips', WHERE WHAT IT READS IS OF BULK AT MOST 1048576: true; the input reads as it did. -/
def fnExactFewestTripsUptoRow : OpenClaim := { program := "ytdphndjohhfgoaa", sum := "ee69080f39ffb6fac1def19c4d8d300c4c83e69803da8dc857e3785b93447d56", func := "loop.example/g03301/laws.FnExactFewestTrips", spec := "fnExactFewestTrips", apart := false, narrowed := true }
def FnExactFewestTripsUptoSaid : Prop := fnExactFewestTripsUptoRow.holds Try.pinned (OpenSpec.upto fnExactFewestTripsSpec)

/-- 'laws.FnExactFairMarks', WHERE WHAT IT READS IS OF BULK AT MOST 1048576: true; the input reads as it did. -/
def fnExactFairMarksUptoRow : OpenClaim := { program := "ytdphndjohhfgoaa", sum := "ee69080f39ffb6fac1def19c4d8d300c4c83e69803da8dc857e3785b93447d56", func := "loop.example/g03301/laws.FnExactFairMarks", spec := "fnExactFairMarks", unfollowed := true, recurses := true, apart := false, narrowed := true }
def FnExactFairMarksUptoSaid : Prop := fnExactFairMarksUptoRow.holds Try.pinned (OpenSpec.upto fnExactFairMarksSpec)

/-- 'laws.FnLayings', WHERE WHAT IT READS IS OF BULK AT MOST 1048576: true; the input reads as it did. -/
def fnLayingsUptoRow : OpenClaim := { program := "ytdphndjohhfgoaa", sum := "ee69080f39ffb6fac1def19c4d8d300c4c83e69803da8dc857e3785b93447d56", func := "loop.example/g03301/laws.FnLayings", spec := "fnLayings", unfollowed := true, recurses := true, apart := false, narrowed := true }
def FnLayingsUptoSaid : Prop := fnLayingsUptoRow.holds Try.pinned (OpenSpec.upto fnLayingsSpec)

/-- 'laws.FnExactBridgeForces', WHERE WHAT IT READS IS OF BULK AT MOST 1048576: true; the input reads as it did. -/
def fnExactBridgeForcesUptoRow : OpenClaim := { program := "ytdphndjohhfgoaa", sum := "ee69080f39ffb6fac1def19c4d8d300c4c83e69803da8dc857e3785b93447d56", func := "loop.example/g03301/laws.FnExactBridgeForces", spec := "fnExactBridgeForces", apart := false, narrowed := true }
def FnExactBridgeForcesUptoSaid : Prop := fnExactBridgeForcesUptoRow.holds Try.pinned (OpenSpec.upto fnExactBridgeForcesSpec)

/-- 'laws.FnBlocks', WHERE WHAT IT READS IS OF BULK AT MOST 1048576: true; the input reads as it did. -/
def fnBlocksUptoRow : OpenClaim := { program := "ytdphndjohhfgoaa", sum := "ee69080f39ffb6fac1def19c4d8d300c4c83e69803da8dc857e3785b93447d56", func := "loop.example/g03301/laws.FnBlocks", spec := "fnBlocks", unfollowed := true, recurses := true, apart := false, narrowed := true }
def FnBlocksUptoSaid : Prop := fnBlocksUptoRow.holds Try.pinned (OpenSpec.upto fnBlocksSpec)

end Rows
end Go.Proofs.Ytdphndjohhfgoaa
