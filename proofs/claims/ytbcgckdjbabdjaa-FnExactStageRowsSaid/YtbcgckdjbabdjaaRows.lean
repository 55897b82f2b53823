/-
  No cell of these rows narrows 'for every input' (looked for: loops, veiled, ifaces, maps, wideKeys, modest, calm, conditions, laid).
  DERIVED. THE GIVEN ROWS OF THIS SEAT. 8 by the template 'for every input the law returns true; each argument reads behind the call as it read before'; 0 by the template 'total and deterministic' (their statements: YtbcgckdjbabdjaaTotals.lean).
  GIVEN WITH THE SEED: the statements are not yours to turn. If you find one false, say at which input.
  Laid BY PROGRAM, IN A SANDBOX (cutbox-rows.mjs): the forced cells as the released guide's own fill.sh prints them over the translation 0a45bbc453537b22… (all of the seat's roots in one cut). By AI agents, Wed Nov 11 2026. No macro, syntax, notation, axiom, sorry.
-/
import Derived.Test.YtbcgckdjbabdjaaChecked
import GoSem.Claim
import GoSem.ClaimJoined
import GoSem.ClaimMapViews
import Derived.JoinedTies
import Derived.KernelRfl
namespace Go.Proofs.Ytbcgckdjbabdjaa
/- THE CELL 'sum', in the pinned program and in every row, IS THE sha256 OF THE DUMP (.gsa) THAT YtbcgckdjbabdjaaProg.lean LOADS. Nothing in Lean hashes anything: it is a label: what it is worth is what the hold of that sum in a sandbox is worth. -/
noncomputable def Try.pinned : Pinned := { name := "ytbcgckdjbabdjaa", sum := "0a45bbc453537b226d3dfc0d76d1dbdc7c9db1ef45a011c8dcec27cae03b3560", checked := Try.checked }
namespace Rows
def none {H : Type} : Left H := { results := [], args := [] }

/-- 'laws.FnExactStageRows': WHATEVER THE INPUT: true; the input reads as it did. -/
def fnExactStageRowsSpec : ChangeSpec := { name := "fnExactStageRows", fn := fun _ => fun
  | [d1, d2] => { results := [.lit (.bool true)], args := [d1, d2] }
  | _ => none }
def fnExactStageRowsRow : OpenClaim := { program := "ytbcgckdjbabdjaa", sum := "0a45bbc453537b226d3dfc0d76d1dbdc7c9db1ef45a011c8dcec27cae03b3560", func := "loop.example/g03301/laws.FnExactStageRows", spec := "fnExactStageRows", unfollowed := true, recurses := true, apart := false }
def FnExactStageRowsSaid : Prop := fnExactStageRowsRow.holds Try.pinned (OpenSpec.ofChange fnExactStageRowsSpec)

/-- ITS FALSE NEIGHBOUR: 'it returns false'. Refute it at one input. -/
def fnExactStageRowsWrong : ChangeSpec := { name := "fnExactStageRows", fn := fun _ => fun
  | [d1, d2] => { results := [.lit (.bool false)], args := [d1, d2] }
  | _ => none }
def FnExactStageRowsWrongFalsely : Prop := fnExactStageRowsRow.holds Try.pinned (OpenSpec.ofChange fnExactStageRowsWrong)

/-- 'laws.FnExactVaultWeight': WHATEVER THE INPUT: true; the input reads as it did. -/
def fnExactVaultWeightSpec : ChangeSpec := { name := "fnExactVaultWeight", fn := fun _ => fun
  | [d] => { results := [.lit (.bool true)], args := [d] }
  | _ => none }
def fnExactVaultWeightRow : OpenClaim := { program := "ytbcgckdjbabdjaa", sum := "0a45bbc453537b226d3dfc0d76d1dbdc7c9db1ef45a011c8dcec27cae03b3560", func := "loop.example/g03301/laws.FnExactVaultWeight", spec := "fnExactVaultWeight", unfollowed := true, recurses := true, apart := false }
def FnExactVaultWeightSaid : Prop := fnExactVaultWeightRow.holds Try.pinned (OpenSpec.ofChange fnExactVaultWeightSpec)

/-- ITS FALSE NEIGHBOUR: 'it returns false'. Refute it at one input. -/
def fnExactVaultWeightWrong : ChangeSpec := { name := "fnExactVaultWeight", fn := fun _ => fun
  | [d] => { results := [.lit (.bool false)], args := [d] }
  | _ => none }
def FnExactVaultWeightWrongFalsely : Prop := fnExactVaultWeightRow.holds Try.pinned (OpenSpec.ofChange fnExactVaultWeightWrong)

/-- 'laws.FnExactHighestJoint': WHATEVER THE INPUT: true; the input reads as it did. -/
def fnExactHighestJointSpec : ChangeSpec := { name := "fnExactHighestJoint", fn := fun _ => fun
  | [d1, d2, d3] => { results := [.lit (.bool true)], args := [d1, d2, d3] }
  | _ => none }
def fnExactHighestJointRow : OpenClaim := { program := "ytbcgckdjbabdjaa", sum := "0a45bbc453537b226d3dfc0d76d1dbdc7c9db1ef45a011c8dcec27cae03b3560", func := "loop.example/g03301/laws.FnExactHighestJoint", spec := "fnExactHighestJoint", unfollowed := true, recurses := true, apart := false }
def FnExactHighestJointSaid : Prop := fnExactHighestJointRow.holds Try.pinned (OpenSpec.ofChange fnExactHighestJointSpec)

/-- ITS FALSE NEIGHBOUR: 'it returns false'. Refute it at one input. -/
def fnExactHighestJointWrong : ChangeSpec := { name := "fnExactHighestJoint", fn := fun _ => fun
  | [d1, d2, d3] => { results := [.lit (.bool false)], args := [d1, d2, d3] }
  | _ => none }
def FnExactHighestJointWrongFalsely : Prop := fnExactHighestJointRow.holds Try.pinned (OpenSpec.ofChange fnExactHighestJointWrong)

/-- 'laws.FnExactMarginOf': WHATEVER THE INPUT: true; the input reads as it did. -/
def fnExactMarginOfSpec : ChangeSpec := { name := "fnExactMarginOf", fn := fun _ => fun
  | [d1, d2, d3] => { results := [.lit (.bool true)], args := [d1, d2, d3] }
  | _ => none }
def fnExactMarginOfRow : OpenClaim := { program := "ytbcgckdjbabdjaa", sum := "0a45bbc453537b226d3dfc0d76d1dbdc7c9db1ef45a011c8dcec27cae03b3560", func := "loop.example/g03301/laws.FnExactMarginOf", spec := "fnExactMarginOf", unfollowed := true, recurses := true, apart := false }
def FnExactMarginOfSaid : Prop := fnExactMarginOfRow.holds Try.pinned (OpenSpec.ofChange fnExactMarginOfSpec)

/-- ITS FALSE NEIGHBOUR: 'it returns false'. Refute it at one input. -/
def fnExactMarginOfWrong : ChangeSpec := { name := "fnExactMarginOf", fn := fun _ => fun
  | [d1, d2, d3] => { results := [.lit (.bool false)], args := [d1, d2, d3] }
  | _ => none }
def FnExactMarginOfWrongFalsely : Prop := fnExactMarginOfRow.holds Try.pinned (OpenSpec.ofChange fnExactMarginOfWrong)

/-- 'laws.FnExactInMiddle': WHATEVER THE INPUT: true; the input reads as it did. -/
def fnExactInMiddleSpec : ChangeSpec := { name := "fnExactInMiddle", fn := fun _ => fun
  | [d1, d2, d3, d4] => { results := [.lit (.bool true)], args := [d1, d2, d3, d4] }
  | _ => none }
def fnExactInMiddleRow : OpenClaim := { program := "ytbcgckdjbabdjaa", sum := "0a45bbc453537b226d3dfc0d76d1dbdc7c9db1ef45a011c8dcec27cae03b3560", func := "loop.example/g03301/laws.FnExactInMiddle", spec := "fnExactInMiddle", unfollowed := true, recurses := true, apart := false }
def FnExactInMiddleSaid : Prop := fnExactInMiddleRow.holds Try.pinned (OpenSpec.ofChange fnExactInMiddleSpec)

/-- ITS FALSE NEIGHBOUR: 'it returns false'. Refute it at one input. -/
def fnExactInMiddleWrong : ChangeSpec := { name := "fnExactInMiddle", fn := fun _ => fun
  | [d1, d2, d3, d4] => { results := [.lit (.bool false)], args := [d1, d2, d3, d4] }
  | _ => none }
def FnExactInMiddleWrongFalsely : Prop := fnExactInMiddleRow.holds Try.pinned (OpenSpec.ofChange fnExactInMiddleWrong)

/-- 'laws.FnExactShareWeight': WHATEVER THE INPUT: true; the input reads as it did. -/
def fnExactShareWeightSpec : ChangeSpec := { name := "fnExactShareWeight", fn := fun _ => fun
  | [d1, d2, d3] => { results := [.lit (.bool true)], args := [d1, d2, d3] }
  | _ => none }
def fnExactShareWeightRow : OpenClaim := { program := "ytbcgckdjbabdjaa", sum := "0a45bbc453537b226d3dfc0d76d1dbdc7c9db1ef45a011c8dcec27cae03b3560", func := "loop.example/g03301/laws.FnExactShareWeight", spec := "fnExactShareWeight", unfollowed := true, recurses := true, apart := false }
def FnExactShareWeightSaid : Prop := fnExactShareWeightRow.holds Try.pinned (OpenSpec.ofChange fnExactShareWeightSpec)

/-- ITS FALSE NEIGHBOUR: 'it returns false'. Refute it at one input. -/
def fnExactShareWeightWrong : ChangeSpec := { name := "fnExactShareWeight", fn := fun _ => fun
  | [d1, d2, d3] => { results := [.lit (.bool false)], args := [d1, d2, d3] }
  | _ => none }
def FnExactShareWeightWrongFalsely : Prop := fnExactShareWeightRow.holds Try.pinned (OpenSpec.ofChange fnExactShareWeightWrong)

/-- 'laws.FnExactCracksOf': WHATEVER THE INPUT: true; the input reads as it did. -/
def fnExactCracksOfSpec : ChangeSpec := { name := "fnExactCracksOf", fn := fun _ => fun
  | [d1, d2, d3] => { results := [.lit (.bool true)], args := [d1, d2, d3] }
  | _ => none }
def fnExactCracksOfRow : OpenClaim := { program := "ytbcgckdjbabdjaa", sum := "0a45bbc453537b226d3dfc0d76d1dbdc7c9db1ef45a011c8dcec27cae03b3560", func := "loop.example/g03301/laws.FnExactCracksOf", spec := "fnExactCracksOf", unfollowed := true, recurses := true, apart := false }
def FnExactCracksOfSaid : Prop := fnExactCracksOfRow.holds Try.pinned (OpenSpec.ofChange fnExactCracksOfSpec)

/-- ITS FALSE NEIGHBOUR: 'it returns false'. Refute it at one input. -/
def fnExactCracksOfWrong : ChangeSpec := { name := "fnExactCracksOf", fn := fun _ => fun
  | [d1, d2, d3] => { results := [.lit (.bool false)], args := [d1, d2, d3] }
  | _ => none }
def FnExactCracksOfWrongFalsely : Prop := fnExactCracksOfRow.holds Try.pinned (OpenSpec.ofChange fnExactCracksOfWrong)

/-- 'laws.FnLines': WHATEVER THE INPUT: true; the input reads as it did. -/
def fnLinesSpec : ChangeSpec := { name := "fnLines", fn := fun _ => fun
  | [d] => { results := [.lit (.bool true)], args := [d] }
  | _ => none }
def fnLinesRow : OpenClaim := { program := "ytbcgckdjbabdjaa", sum := "0a45bbc453537b226d3dfc0d76d1dbdc7c9db1ef45a011c8dcec27cae03b3560", func := "loop.example/g03301/laws.FnLines", spec := "fnLines", unfollowed := true, recurses := true, apart := false }
def FnLinesSaid : Prop := fnLinesRow.holds Try.pinned (OpenSpec.ofChange fnLinesSpec)

/-- ITS FALSE NEIGHBOUR: 'it returns false'. Refute it at one input. -/
def fnLinesWrong : ChangeSpec := { name := "fnLines", fn := fun _ => fun
  | [d] => { results := [.lit (.bool false)], args := [d] }
  | _ => none }
def FnLinesWrongFalsely : Prop := fnLinesRow.holds Try.pinned (OpenSpec.ofChange fnLinesWrong)

/- THE SECOND FORM. 'bulk': how many values and letters a reading holds, each counted each time it is reached (what is shared counts as often as it is met; a slice's spare places count too). A statement '..UptoSaid' is the law's where the arguments, and the package variables that the reading takes, are together of bulk at most 1048576: NARROWER than '..Said'. Prove '..Said' where nothing that the law and all that it calls make is longer than what came in: it says more and counts as full. Else prove '..UptoSaid'. A law counts once. -/
mutual
def uptoBulk {H : Type} : DataW H → Nat
  | .lit (.string bytes) => bytes.length + 1
  | .lit _ => 1
  | .nil => 1
  | .ptr d => uptoBulk d + 1
  | .slice elems spare => uptoBulkAll elems + uptoBulkAll spare + 1
  | .agg parts => uptoBulkAll parts + 1
  | .iface _ d => uptoBulk d + 1
  | .map entries => uptoBulkEntries entries + 1
  | .held _ => 1
def uptoBulkAll {H : Type} : List (DataW H) → Nat
  | [] => 0
  | d :: r => uptoBulk d + uptoBulkAll r
def uptoBulkEntries {H : Type} : List (Lit × DataW H) → Nat
  | [] => 0
  | x :: r => uptoBulkEntry x + uptoBulkEntries r
def uptoBulkEntry {H : Type} : Lit × DataW H → Nat
  | (.string bytes, d) => bytes.length + uptoBulk d + 1
  | (_, d) => uptoBulk d + 1
 end
def uptoSmall : (H : Type) → List (DataW H) → Bool := fun _ ds => decide (uptoBulkAll ds ≤ 1048576)
def OpenSpec.upto (s : _root_.Go.ChangeSpec) : _root_.Go.OpenSpec := { _root_.Go.OpenSpec.ofChange s with cond := some uptoSmall }

/-- 'laws.FnExactStageRows', WHERE WHAT IT READS IS OF BULK AT MOST 1048576: true; the input reads as it did. -/
def fnExactStageRowsUptoRow : OpenClaim := { program := "ytbcgckdjbabdjaa", sum := "0a45bbc453537b226d3dfc0d76d1dbdc7c9db1ef45a011c8dcec27cae03b3560", func := "loop.example/g03301/laws.FnExactStageRows", spec := "fnExactStageRows", unfollowed := true, recurses := true, apart := false, narrowed := true }
def FnExactStageRowsUptoSaid : Prop := fnExactStageRowsUptoRow.holds Try.pinned (OpenSpec.upto fnExactStageRowsSpec)

/-- 'laws.FnExactVaultWeight', WHERE WHAT IT READS IS OF BULK AT MOST 1048576: true; the input reads as it did. -/
def fnExactVaultWeightUptoRow : OpenClaim := { program := "ytbcgckdjbabdjaa", sum := "0a45bbc453537b226d3dfc0d76d1dbdc7c9db1ef45a011c8dcec27cae03b3560", func := "loop.example/g03301/laws.FnExactVaultWeight", spec := "fnExactVaultWeight", unfollowed := true, recurses := true, apart := false, narrowed := true }
def FnExactVaultWeightUptoSaid : Prop := fnExactVaultWeightUptoRow.holds Try.pinned (OpenSpec.upto fnExactVaultWeightSpec)

/-- 'laws.FnExactHighestJoint', WHERE WHAT IT READS IS OF BULK AT MOST 1048576: true; the input reads as it did. -/
def fnExactHighestJointUptoRow : OpenClaim := { program := "ytbcgckdjbabdjaa", sum := "0a45bbc453537b226d3dfc0d76d1dbdc7c9db1ef45a011c8dcec27cae03b3560", func := "loop.example/g03301/laws.FnExactHighestJoint", spec := "fnExactHighestJoint", unfollowed := true, recurses := true, apart := false, narrowed := true }
def FnExactHighestJointUptoSaid : Prop := fnExactHighestJointUptoRow.holds Try.pinned (OpenSpec.upto fnExactHighestJointSpec)

/-- 'laws.FnExactMarginOf', WHERE WHAT IT READS IS OF BULK AT MOST 1048576: true; the input reads as it did. -/
def fnExactMarginOfUptoRow : OpenClaim := { program := "ytbcgckdjbabdjaa", sum := "0a45bbc453537b226d3dfc0d76d1dbdc7c9db1ef45a011c8dcec27cae03b3560", func := "loop.example/g03301/laws.FnExactMarginOf", spec := "fnExactMarginOf", unfollowed := true, recurses := true, apart := false, narrowed := true }
def FnExactMarginOfUptoSaid : Prop := fnExactMarginOfUptoRow.holds Try.pinned (OpenSpec.upto fnExactMarginOfSpec)

/-- 'laws.FnExactInMiddle', WHERE WHAT IT READS IS OF BULK AT MOST 1048576: true; the input reads as it did. -/
def fnExactInMiddleUptoRow : OpenClaim := { program := "ytbcgckdjbabdjaa", sum := "0a45bbc453537b226d3dfc0d76d1dbdc7c9db1ef45a011c8dcec27cae03b3560", func := "loop.example/g03301/laws.FnExactInMiddle", spec := "fnExactInMiddle", unfollowed := true, recurses := true, apart := false, narrowed := true }
def FnExactInMiddleUptoSaid : Prop := fnExactInMiddleUptoRow.holds Try.pinned (OpenSpec.upto fnExactInMiddleSpec)

/-- 'laws.FnExactShareWeight', WHERE WHAT IT READS IS OF BULK AT MOST 1048576: true; the input reads as it did. -/
def fnExactShareWeightUptoRow : OpenClaim := { program := "ytbcgckdjbabdjaa", sum := "0a45bbc453537b226d3dfc0d76d1dbdc7c9db1ef45a011c8dcec27cae03b3560", func := "loop.example/g03301/laws.FnExactShareWeight", spec := "fnExactShareWeight", unfollowed := true, recurses := true, apart := false, narrowed := true }
def FnExactShareWeightUptoSaid : Prop := fnExactShareWeightUptoRow.holds Try.pinned (OpenSpec.upto fnExactShareWeightSpec)

/-- 'laws.FnExactCracksOf', WHERE WHAT IT READS IS OF BULK AT MOST 1048576: true; the input reads as it did. -/
def fnExactCracksOfUptoRow : OpenClaim := { program := "ytbcgckdjbabdjaa", sum := "0a45bbc453537b226d3dfc0d76d1dbdc7c9db1ef45a011c8dcec27cae03b3560", func := "loop.example/g03301/laws.FnExactCracksOf", spec := "fnExactCracksOf", unfollowed := true, recurses := true, apart := false, narrowed := true }
def FnExactCracksOfUptoSaid : Prop := fnExactCracksOfUptoRow.holds Try.pinned (OpenSpec.upto fnExactCracksOfSpec)

/-- 'laws.FnLines', WHERE WHAT IT READS IS OF BULK AT MOST 1048576: true; the input reads as it did. -/
def fnLinesUptoRow : OpenClaim := { program := "ytbcgckdjbabdjaa", sum := "0a45bbc453537b226d3dfc0d76d1dbdc7c9db1ef45a011c8dcec27cae03b3560", func := "loop.example/g03301/laws.FnLines", spec := "fnLines", unfollowed := true, recurses := true, apart := false, narrowed := true }
def FnLinesUptoSaid : Prop := fnLinesUptoRow.holds Try.pinned (OpenSpec.upto fnLinesSpec)

end Rows
end Go.Proofs.Ytbcgckdjbabdjaa
