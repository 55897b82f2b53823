/-
  No cell of these rows narrows 'for every input' (looked for: loops, veiled, ifaces, maps, wideKeys, modest, calm, conditions, laid).
  DERIVED. THE GIVEN ROWS OF THIS SEAT. 11 by the template 'for every input the law returns true; each argument reads behind the call as it read before'; 0 by the template 'total and deterministic' (their statements: YtfjnodjklidgfaaTotals.lean).
  GIVEN WITH THE SEED: the statements are not yours to turn. If you find one false, say at which input.
  Laid BY PROGRAM, IN A SANDBOX (cutbox-rows.mjs): the forced cells as the released guide's own fill.sh prints them over the translation 96b6a3e2e6b46bd2… (all of the seat's roots in one cut). By AI agents, Wed Nov 11 2026. No macro, syntax, notation, axiom, sorry.
-/
import Derived.Test.YtfjnodjklidgfaaChecked
import GoSem.Claim
import GoSem.ClaimJoined
import GoSem.ClaimMapViews
import Derived.JoinedTies
import Derived.KernelRfl
namespace Go.Proofs.Ytfjnodjklidgfaa
/- THE CELL 'sum', in the pinned program and in every row, IS THE sha256 OF THE DUMP (.gsa) THAT YtfjnodjklidgfaaProg.lean LOADS. Nothing in Lean hashes anything: it is a label: what it is worth is what the hold of that sum in a sandbox is worth. -/
noncomputable def Try.pinned : Pinned := { name := "ytfjnodjklidgfaa", sum := "96b6a3e2e6b46bd2e5ebc8d93a628388059577ab154e36c12792384a342255d1", checked := Try.checked }
namespace Rows
def none {H : Type} : Left H := { results := [], args := [] }

/-- 'laws.FnExactCountLayings': WHATEVER THE INPUT: true; the input reads as it did. -/
def fnExactCountLayingsSpec : ChangeSpec := { name := "fnExactCountLayings", fn := fun _ => fun
  | [d] => { results := [.lit (.bool true)], args := [d] }
  | _ => none }
def fnExactCountLayingsRow : OpenClaim := { program := "ytfjnodjklidgfaa", sum := "96b6a3e2e6b46bd2e5ebc8d93a628388059577ab154e36c12792384a342255d1", func := "loop.example/g03301/laws.FnExactCountLayings", spec := "fnExactCountLayings", apart := false }
def FnExactCountLayingsSaid : Prop := fnExactCountLayingsRow.holds Try.pinned (OpenSpec.ofChange fnExactCountLayingsSpec)

/-- ITS FALSE NEIGHBOUR: 'it returns false'. Refute it at one input. -/
def fnExactCountLayingsWrong : ChangeSpec := { name := "fnExactCountLayings", fn := fun _ => fun
  | [d] => { results := [.lit (.bool false)], args := [d] }
  | _ => none }
def FnExactCountLayingsWrongFalsely : Prop := fnExactCountLayingsRow.holds Try.pinned (OpenSpec.ofChange fnExactCountLayingsWrong)

/-- 'laws.FnExactLiftOk': WHATEVER THE INPUT: true; the input reads as it did. -/
def fnExactLiftOkSpec : ChangeSpec := { name := "fnExactLiftOk", fn := fun _ => fun
  | [d] => { results := [.lit (.bool true)], args := [d] }
  | _ => none }
def fnExactLiftOkRow : OpenClaim := { program := "ytfjnodjklidgfaa", sum := "96b6a3e2e6b46bd2e5ebc8d93a628388059577ab154e36c12792384a342255d1", func := "loop.example/g03301/laws.FnExactLiftOk", spec := "fnExactLiftOk", apart := false }
def FnExactLiftOkSaid : Prop := fnExactLiftOkRow.holds Try.pinned (OpenSpec.ofChange fnExactLiftOkSpec)

/-- ITS FALSE NEIGHBOUR: 'it returns false'. Refute it at one input. -/
def fnExactLiftOkWrong : ChangeSpec := { name := "fnExactLiftOk", fn := fun _ => fun
  | [d] => { results := [.lit (.bool false)], args := [d] }
  | _ => none }
def FnExactLiftOkWrongFalsely : Prop := fnExactLiftOkRow.holds Try.pinned (OpenSpec.ofChange fnExactLiftOkWrong)

/-- 'laws.FnExactFitsBlock': WHATEVER THE INPUT: true; the input reads as it did. -/
def fnExactFitsBlockSpec : ChangeSpec := { name := "fnExactFitsBlock", fn := fun _ => fun
  | [d1, d2, d3, d4] => { results := [.lit (.bool true)], args := [d1, d2, d3, d4] }
  | _ => none }
def fnExactFitsBlockRow : OpenClaim := { program := "ytfjnodjklidgfaa", sum := "96b6a3e2e6b46bd2e5ebc8d93a628388059577ab154e36c12792384a342255d1", func := "loop.example/g03301/laws.FnExactFitsBlock", spec := "fnExactFitsBlock", apart := false }
def FnExactFitsBlockSaid : Prop := fnExactFitsBlockRow.holds Try.pinned (OpenSpec.ofChange fnExactFitsBlockSpec)

/-- ITS FALSE NEIGHBOUR: 'it returns false'. Refute it at one input. -/
def fnExactFitsBlockWrong : ChangeSpec := { name := "fnExactFitsBlock", fn := fun _ => fun
  | [d1, d2, d3, d4] => { results := [.lit (.bool false)], args := [d1, d2, d3, d4] }
  | _ => none }
def FnExactFitsBlockWrongFalsely : Prop := fnExactFitsBlockRow.holds Try.pinned (OpenSpec.ofChange fnExactFitsBlockWrong)

/-- 'laws.FnExactCapacityOf': WHATEVER THE INPUT: true; the input reads as it did. -/
def fnExactCapacityOfSpec : ChangeSpec := { name := "fnExactCapacityOf", fn := fun _ => fun
  | [d] => { results := [.lit (.bool true)], args := [d] }
  | _ => none }
def fnExactCapacityOfRow : OpenClaim := { program := "ytfjnodjklidgfaa", sum := "96b6a3e2e6b46bd2e5ebc8d93a628388059577ab154e36c12792384a342255d1", func := "loop.example/g03301/laws.FnExactCapacityOf", spec := "fnExactCapacityOf", apart := false }
def FnExactCapacityOfSaid : Prop := fnExactCapacityOfRow.holds Try.pinned (OpenSpec.ofChange fnExactCapacityOfSpec)

/-- ITS FALSE NEIGHBOUR: 'it returns false'. Refute it at one input. -/
def fnExactCapacityOfWrong : ChangeSpec := { name := "fnExactCapacityOf", fn := fun _ => fun
  | [d] => { results := [.lit (.bool false)], args := [d] }
  | _ => none }
def FnExactCapacityOfWrongFalsely : Prop := fnExactCapacityOfRow.holds Try.pinned (OpenSpec.ofChange fnExactCapacityOfWrong)

/-- 'laws.FnExactKeyOf': WHATEVER THE INPUT: true; the input reads as it did. -/
def fnExactKeyOfSpec : ChangeSpec := { name := "fnExactKeyOf", fn := fun _ => fun
  | [d] => { results := [.lit (.bool true)], args := [d] }
  | _ => none }
def fnExactKeyOfRow : OpenClaim := { program := "ytfjnodjklidgfaa", sum := "96b6a3e2e6b46bd2e5ebc8d93a628388059577ab154e36c12792384a342255d1", func := "loop.example/g03301/laws.FnExactKeyOf", spec := "fnExactKeyOf", apart := false }
def FnExactKeyOfSaid : Prop := fnExactKeyOfRow.holds Try.pinned (OpenSpec.ofChange fnExactKeyOfSpec)

/-- ITS FALSE NEIGHBOUR: 'it returns false'. Refute it at one input. -/
def fnExactKeyOfWrong : ChangeSpec := { name := "fnExactKeyOf", fn := fun _ => fun
  | [d] => { results := [.lit (.bool false)], args := [d] }
  | _ => none }
def FnExactKeyOfWrongFalsely : Prop := fnExactKeyOfRow.holds Try.pinned (OpenSpec.ofChange fnExactKeyOfWrong)

/-- 'laws.FnExactCountCracks': WHATEVER THE INPUT: true; the input reads as it did. -/
def fnExactCountCracksSpec : ChangeSpec := { name := "fnExactCountCracks", fn := fun _ => fun
  | [d] => { results := [.lit (.bool true)], args := [d] }
  | _ => none }
def fnExactCountCracksRow : OpenClaim := { program := "ytfjnodjklidgfaa", sum := "96b6a3e2e6b46bd2e5ebc8d93a628388059577ab154e36c12792384a342255d1", func := "loop.example/g03301/laws.FnExactCountCracks", spec := "fnExactCountCracks", apart := false }
def FnExactCountCracksSaid : Prop := fnExactCountCracksRow.holds Try.pinned (OpenSpec.ofChange fnExactCountCracksSpec)

/-- ITS FALSE NEIGHBOUR: 'it returns false'. Refute it at one input. -/
def fnExactCountCracksWrong : ChangeSpec := { name := "fnExactCountCracks", fn := fun _ => fun
  | [d] => { results := [.lit (.bool false)], args := [d] }
  | _ => none }
def FnExactCountCracksWrongFalsely : Prop := fnExactCountCracksRow.holds Try.pinned (OpenSpec.ofChange fnExactCountCracksWrong)

/-- 'laws.FnExactIsLaying': WHATEVER THE INPUT: true; the input reads as it did. -/
def fnExactIsLayingSpec : ChangeSpec := { name := "fnExactIsLaying", fn := fun _ => fun
  | [d1, d2] => { results := [.lit (.bool true)], args := [d1, d2] }
  | _ => none }
def fnExactIsLayingRow : OpenClaim := { program := "ytfjnodjklidgfaa", sum := "96b6a3e2e6b46bd2e5ebc8d93a628388059577ab154e36c12792384a342255d1", func := "loop.example/g03301/laws.FnExactIsLaying", spec := "fnExactIsLaying", unfollowed := true, recurses := true, apart := false }
def FnExactIsLayingSaid : Prop := fnExactIsLayingRow.holds Try.pinned (OpenSpec.ofChange fnExactIsLayingSpec)

/-- ITS FALSE NEIGHBOUR: 'it returns false'. Refute it at one input. -/
def fnExactIsLayingWrong : ChangeSpec := { name := "fnExactIsLaying", fn := fun _ => fun
  | [d1, d2] => { results := [.lit (.bool false)], args := [d1, d2] }
  | _ => none }
def FnExactIsLayingWrongFalsely : Prop := fnExactIsLayingRow.holds Try.pinned (OpenSpec.ofChange fnExactIsLayingWrong)

/-- 'laws.FnExactCutInOrder': WHATEVER THE INPUT: true; the input reads as it did. -/
def fnExactCutInOrderSpec : ChangeSpec := { name := "fnExactCutInOrder", fn := fun _ => fun
  | [d1, d2] => { results := [.lit (.bool true)], args := [d1, d2] }
  | _ => none }
def fnExactCutInOrderRow : OpenClaim := { program := "ytfjnodjklidgfaa", sum := "96b6a3e2e6b46bd2e5ebc8d93a628388059577ab154e36c12792384a342255d1", func := "loop.example/g03301/laws.FnExactCutInOrder", spec := "fnExactCutInOrder", apart := false }
def FnExactCutInOrderSaid : Prop := fnExactCutInOrderRow.holds Try.pinned (OpenSpec.ofChange fnExactCutInOrderSpec)

/-- ITS FALSE NEIGHBOUR: 'it returns false'. Refute it at one input. -/
def fnExactCutInOrderWrong : ChangeSpec := { name := "fnExactCutInOrder", fn := fun _ => fun
  | [d1, d2] => { results := [.lit (.bool false)], args := [d1, d2] }
  | _ => none }
def FnExactCutInOrderWrongFalsely : Prop := fnExactCutInOrderRow.holds Try.pinned (OpenSpec.ofChange fnExactCutInOrderWrong)

/-- 'laws.FnExactLayingAt': WHATEVER THE INPUT: true; the input reads as it did. -/
def fnExactLayingAtSpec : ChangeSpec := { name := "fnExactLayingAt", fn := fun _ => fun
  | [d1, d2] => { results := [.lit (.bool true)], args := [d1, d2] }
  | _ => none }
def fnExactLayingAtRow : OpenClaim := { program := "ytfjnodjklidgfaa", sum := "96b6a3e2e6b46bd2e5ebc8d93a628388059577ab154e36c12792384a342255d1", func := "loop.example/g03301/laws.FnExactLayingAt", spec := "fnExactLayingAt", apart := false }
def FnExactLayingAtSaid : Prop := fnExactLayingAtRow.holds Try.pinned (OpenSpec.ofChange fnExactLayingAtSpec)

/-- ITS FALSE NEIGHBOUR: 'it returns false'. Refute it at one input. -/
def fnExactLayingAtWrong : ChangeSpec := { name := "fnExactLayingAt", fn := fun _ => fun
  | [d1, d2] => { results := [.lit (.bool false)], args := [d1, d2] }
  | _ => none }
def FnExactLayingAtWrongFalsely : Prop := fnExactLayingAtRow.holds Try.pinned (OpenSpec.ofChange fnExactLayingAtWrong)

/-- 'laws.FnExactImbalance': WHATEVER THE INPUT: true; the input reads as it did. -/
def fnExactImbalanceSpec : ChangeSpec := { name := "fnExactImbalance", fn := fun _ => fun
  | [d1, d2] => { results := [.lit (.bool true)], args := [d1, d2] }
  | _ => none }
def fnExactImbalanceRow : OpenClaim := { program := "ytfjnodjklidgfaa", sum := "96b6a3e2e6b46bd2e5ebc8d93a628388059577ab154e36c12792384a342255d1", func := "loop.example/g03301/laws.FnExactImbalance", spec := "fnExactImbalance", unfollowed := true, recurses := true, apart := false }
def FnExactImbalanceSaid : Prop := fnExactImbalanceRow.holds Try.pinned (OpenSpec.ofChange fnExactImbalanceSpec)

/-- ITS FALSE NEIGHBOUR: 'it returns false'. Refute it at one input. -/
def fnExactImbalanceWrong : ChangeSpec := { name := "fnExactImbalance", fn := fun _ => fun
  | [d1, d2] => { results := [.lit (.bool false)], args := [d1, d2] }
  | _ => none }
def FnExactImbalanceWrongFalsely : Prop := fnExactImbalanceRow.holds Try.pinned (OpenSpec.ofChange fnExactImbalanceWrong)

/-- 'laws.FnExactFewestBlocks': WHATEVER THE INPUT: true; the input reads as it did. -/
def fnExactFewestBlocksSpec : ChangeSpec := { name := "fnExactFewestBlocks", fn := fun _ => fun
  | [d1, d2] => { results := [.lit (.bool true)], args := [d1, d2] }
  | _ => none }
def fnExactFewestBlocksRow : OpenClaim := { program := "ytfjnodjklidgfaa", sum := "96b6a3e2e6b46bd2e5ebc8d93a628388059577ab154e36c12792384a342255d1", func := "loop.example/g03301/laws.FnExactFewestBlocks", spec := "fnExactFewestBlocks", apart := false }
def FnExactFewestBlocksSaid : Prop := fnExactFewestBlocksRow.holds Try.pinned (OpenSpec.ofChange fnExactFewestBlocksSpec)

/-- ITS FALSE NEIGHBOUR: 'it returns false'. Refute it at one input. -/
def fnExactFewestBlocksWrong : ChangeSpec := { name := "fnExactFewestBlocks", fn := fun _ => fun
  | [d1, d2] => { results := [.lit (.bool false)], args := [d1, d2] }
  | _ => none }
def FnExactFewestBlocksWrongFalsely : Prop := fnExactFewestBlocksRow.holds Try.pinned (OpenSpec.ofChange fnExactFewestBlocksWrong)

/- THE SECOND FORM. 'bulk': how many values and letters a reading holds, each counted each time it is reached (what is shared counts as often as it is met; a slice's spare places count too). A statement '..UptoSaid' is the law's where the arguments, and the package variables that the reading takes, are together of bulk at most 1048576: NARROWER than '..Said'. Prove '..Said' where nothing that the law and all that it calls make is longer than what came in: it says more and counts as full. Else prove '..UptoSaid'. A law counts once. -/
mutual
def uptoBulk {H : Type} : DataW H → Nat
  | .lit (.string bytes) => bytes.length + 1
  | .lit _ => 1
  | .nil => 1
  | .ptr d => uptoBulk d + 1
  | .slice elems spare => uptoBulkAll elems + uptoBulkAll spare + 1
  | .agg parts => uptoBulkAll parts + 1
  | .iface _ d => uptoBulk d + 1
  | .map entries => uptoBulkEntries entries + 1
  | .held _ => 1
def uptoBulkAll {H : Type} : List (DataW H) → Nat
  | [] => 0
  | d :: r => uptoBulk d + uptoBulkAll r
def uptoBulkEntries {H : Type} : List (Lit × DataW H) → Nat
  | [] => 0
  | x :: r => uptoBulkEntry x + uptoBulkEntries r
def uptoBulkEntry {H : Type} : Lit × DataW H → Nat
  | (.string bytes, d) => bytes.length + uptoBulk d + 1
  | (_, d) => uptoBulk d + 1
 end
def uptoSmall : (H : Type) → List (DataW H) → Bool := fun _ ds => decide (uptoBulkAll ds ≤ 1048576)
def OpenSpec.upto (s : _root_.Go.ChangeSpec) : _root_.Go.OpenSpec := { _root_.Go.OpenSpec.ofChange s with cond := some uptoSmall }

/-- 'laws.FnExactCountLayings', WHERE WHAT IT READS IS OF BULK AT MOST 1048576: true; the input reads as it did. -/
def fnExactCountLayingsUptoRow : OpenClaim := { program := "ytfjnodjklidgfaa", sum := "96b6a3e2e6b46bd2e5ebc8d93a628388059577ab154e36c12792384a342255d1", func := "loop.example/g03301/laws.FnExactCountLayings", spec := "fnExactCountLayings", apart := false, narrowed := true }
def FnExactCountLayingsUptoSaid : Prop := fnExactCountLayingsUptoRow.holds Try.pinned (OpenSpec.upto fnExactCountLayingsSpec)

/-- 'laws.FnExactLiftOk', WHERE WHAT IT READS IS OF BULK AT MOST 1048576: true; the input reads as it did. -/
def fnExactLiftOkUptoRow : OpenClaim := { program := "ytfjnodjklidgfaa", sum := "96b6a3e2e6b46bd2e5ebc8d93a628388059577ab154e36c12792384a342255d1", func := "loop.example/g03301/laws.FnExactLiftOk", spec := "fnExactLiftOk", apart := false, narrowed := true }
def FnExactLiftOkUptoSaid : Prop := fnExactLiftOkUptoRow.holds Try.pinned (OpenSpec.upto fnExactLiftOkSpec)

/-- 'laws.FnExactFitsBlock', WHERE WHAT IT READS IS OF BULK AT MOST 1048576: true; the input reads as it did. -/
def fnExactFitsBlockUptoRow : OpenClaim := { program := "ytfjnodjklidgfaa", sum := "96b6a3e2e6b46bd2e5ebc8d93a628388059577ab154e36c12792384a342255d1", func := "loop.example/g03301/laws.FnExactFitsBlock", spec := "fnExactFitsBlock", apart := false, narrowed := true }
def FnExactFitsBlockUptoSaid : Prop := fnExactFitsBlockUptoRow.holds Try.pinned (OpenSpec.upto fnExactFitsBlockSpec)

/-- 'laws.FnExactCapacityOf', WHERE WHAT IT READS IS OF BULK AT MOST 1048576: true; the input reads as it did. -/
def fnExactCapacityOfUptoRow : OpenClaim := { program := "ytfjnodjklidgfaa", sum := "96b6a3e2e6b46bd2e5ebc8d93a628388059577ab154e36c12792384a342255d1", func := "loop.example/g03301/laws.FnExactCapacityOf", spec := "fnExactCapacityOf", apart := false, narrowed := true }
def FnExactCapacityOfUptoSaid : Prop := fnExactCapacityOfUptoRow.holds Try.pinned (OpenSpec.upto fnExactCapacityOfSpec)

/-- 'laws.FnExactKeyOf', WHERE WHAT IT READS IS OF BULK AT MOST 1048576: true; the input reads as it did. -/
def fnExactKeyOfUptoRow : OpenClaim := { program := "ytfjnodjklidgfaa", sum := "96b6a3e2e6b46bd2e5ebc8d93a628388059577ab154e36c12792384a342255d1", func := "loop.example/g03301/laws.FnExactKeyOf", spec := "fnExactKeyOf", apart := false, narrowed := true }
def FnExactKeyOfUptoSaid : Prop := fnExactKeyOfUptoRow.holds Try.pinned (OpenSpec.upto fnExactKeyOfSpec)

/-- 'laws.FnExactCountCracks', WHERE WHAT IT READS IS OF BULK AT MOST 1048576: true; the input reads as it did. -/
def fnExactCountCracksUptoRow : OpenClaim := { program := "ytfjnodjklidgfaa", sum := "96b6a3e2e6b46bd2e5ebc8d93a628388059577ab154e36c12792384a342255d1", func := "loop.example/g03301/laws.FnExactCountCracks", spec := "fnExactCountCracks", apart := false, narrowed := true }
def FnExactCountCracksUptoSaid : Prop := fnExactCountCracksUptoRow.holds Try.pinned (OpenSpec.upto fnExactCountCracksSpec)

/-- 'laws.FnExactIsLaying', WHERE WHAT IT READS IS OF BULK AT MOST 1048576: true; the input reads as it did. -/
def fnExactIsLayingUptoRow : OpenClaim := { program := "ytfjnodjklidgfaa", sum := "96b6a3e2e6b46bd2e5ebc8d93a628388059577ab154e36c12792384a342255d1", func := "loop.example/g03301/laws.FnExactIsLaying", spec := "fnExactIsLaying", unfollowed := true, recurses := true, apart := false, narrowed := true }
def FnExactIsLayingUptoSaid : Prop := fnExactIsLayingUptoRow.holds Try.pinned (OpenSpec.upto fnExactIsLayingSpec)

/-- 'laws.FnExactCutInOrder', WHERE WHAT IT READS IS OF BULK AT MOST 1048576: true; the input reads as it did. -/
def fnExactCutInOrderUptoRow : OpenClaim := { program := "ytfjnodjklidgfaa", sum := "96b6a3e2e6b46bd2e5ebc8d93a628388059577ab154e36c12792384a342255d1", func := "loop.example/g03301/laws.FnExactCutInOrder", spec := "fnExactCutInOrder", apart := false, narrowed := true }
def FnExactCutInOrderUptoSaid : Prop := fnExactCutInOrderUptoRow.holds Try.pinned (OpenSpec.upto fnExactCutInOrderSpec)

/-- 'laws.FnExactLayingAt', WHERE WHAT IT READS IS OF BULK AT MOST 1048576: true; the input reads as it did. -/
def fnExactLayingAtUptoRow : OpenClaim := { program := "ytfjnodjklidgfaa", sum := "96b6a3e2e6b46bd2e5ebc8d93a628388059577ab154e36c12792384a342255d1", func := "loop.example/g03301/laws.FnExactLayingAt", spec := "fnExactLayingAt", apart := false, narrowed := true }
def FnExactLayingAtUptoSaid : Prop := fnExactLayingAtUptoRow.holds Try.pinned (OpenSpec.upto fnExactLayingAtSpec)

/-- 'laws.FnExactImbalance', WHERE WHAT IT READS IS OF BULK AT MOST 1048576: true; the input reads as it did. -/
def fnExactImbalanceUptoRow : OpenClaim := { program := "ytfjnodjklidgfaa", sum := "96b6a3e2e6b46bd2e5ebc8d93a628388059577ab154e36c12792384a342255d1", func := "loop.example/g03301/laws.FnExactImbalance", spec := "fnExactImbalance", unfollowed := true, recurses := true, apart := false, narrowed := true }
def FnExactImbalanceUptoSaid : Prop := fnExactImbalanceUptoRow.holds Try.pinned (OpenSpec.upto fnExactImbalanceSpec)

/-- 'laws.FnExactFewestBlocks', WHERE WHAT IT READS IS OF BULK AT MOST 1048576: true; the input reads as it did. -/
def fnExactFewestBlocksUptoRow : OpenClaim := { program := "ytfjnodjklidgfaa", sum := "96b6a3e2e6b46bd2e5ebc8d93a628388059577ab154e36c12792384a342255d1", func := "loop.example/g03301/laws.FnExactFewestBlocks", spec := "fnExactFewestBlocks", apart := false, narrowed := true }
def FnExactFewestBlocksUptoSaid : Prop := fnExactFewestBlocksUptoRow.holds Try.pinned (OpenSpec.upto fnExactFewestBlocksSpec)

end Rows
end Go.Proofs.Ytfjnodjklidgfaa
