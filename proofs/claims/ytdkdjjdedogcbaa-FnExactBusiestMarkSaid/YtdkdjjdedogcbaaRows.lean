/-
  No cell of these rows narrows 'for every input' (looked for: loops, veiled, ifaces, maps, wideKeys, modest, calm, conditions, laid).
  DERIVED. THE GIVEN ROWS OF THIS SEAT. 10 by the template 'for every input the law returns true; each argument reads behind the call as it read before'; 0 by the template 'total and deterministic' (their statements: YtdkdjjdedogcbaaTotals.lean).
  GIVEN WITH THE SEED: the statements are not yours to turn. If you find one false, say at which input.
  Laid BY PROGRAM, IN A SANDBOX (cutbox-rows.mjs): the forced cells as the released guide's own fill.sh prints them over the translation 39af79bd4ddca93d… (all of the seat's roots in one cut). By AI agents, Wed Nov 11 2026. No macro, syntax, notation, axiom, sorry.
-/
import Derived.Test.YtdkdjjdedogcbaaChecked
import GoSem.Claim
import GoSem.ClaimJoined
import GoSem.ClaimMapViews
import Derived.JoinedTies
import Derived.KernelRfl
namespace Go.Proofs.Ytdkdjjdedogcbaa
/- THE CELL 'sum', in the pinned program and in every row, IS THE sha256 OF THE DUMP (.gsa) THAT YtdkdjjdedogcbaaProg.lean LOADS. Nothing in Lean hashes anything: it is a label: what it is worth is what the hold of that sum in a sandbox is worth. -/
noncomputable def Try.pinned : Pinned := { name := "ytdkdjjdedogcbaa", sum := "39af79bd4ddca93d869bcd0cf6e5ceb6327f8bdadadbfb92b6eb32538c6cede0", checked := Try.checked }
namespace Rows
def none {H : Type} : Left H := { results := [], args := [] }

/-- 'laws.FnExactMarksOk': WHATEVER THE INPUT: true; the input reads as it did. -/
def fnExactMarksOkSpec : ChangeSpec := { name := "fnExactMarksOk", fn := fun _ => fun
  | [d1, d2] => { results := [.lit (.bool true)], args := [d1, d2] }
  | _ => none }
def fnExactMarksOkRow : OpenClaim := { program := "ytdkdjjdedogcbaa", sum := "39af79bd4ddca93d869bcd0cf6e5ceb6327f8bdadadbfb92b6eb32538c6cede0", func := "loop.example/g03301/laws.FnExactMarksOk", spec := "fnExactMarksOk", unfollowed := true, recurses := true, apart := false }
def FnExactMarksOkSaid : Prop := fnExactMarksOkRow.holds Try.pinned (OpenSpec.ofChange fnExactMarksOkSpec)

/-- ITS FALSE NEIGHBOUR: 'it returns false'. Refute it at one input. -/
def fnExactMarksOkWrong : ChangeSpec := { name := "fnExactMarksOk", fn := fun _ => fun
  | [d1, d2] => { results := [.lit (.bool false)], args := [d1, d2] }
  | _ => none }
def FnExactMarksOkWrongFalsely : Prop := fnExactMarksOkRow.holds Try.pinned (OpenSpec.ofChange fnExactMarksOkWrong)

/-- 'laws.FnExactCracksOk': WHATEVER THE INPUT: true; the input reads as it did. -/
def fnExactCracksOkSpec : ChangeSpec := { name := "fnExactCracksOk", fn := fun _ => fun
  | [d1, d2] => { results := [.lit (.bool true)], args := [d1, d2] }
  | _ => none }
def fnExactCracksOkRow : OpenClaim := { program := "ytdkdjjdedogcbaa", sum := "39af79bd4ddca93d869bcd0cf6e5ceb6327f8bdadadbfb92b6eb32538c6cede0", func := "loop.example/g03301/laws.FnExactCracksOk", spec := "fnExactCracksOk", unfollowed := true, recurses := true, apart := false }
def FnExactCracksOkSaid : Prop := fnExactCracksOkRow.holds Try.pinned (OpenSpec.ofChange fnExactCracksOkSpec)

/-- ITS FALSE NEIGHBOUR: 'it returns false'. Refute it at one input. -/
def fnExactCracksOkWrong : ChangeSpec := { name := "fnExactCracksOk", fn := fun _ => fun
  | [d1, d2] => { results := [.lit (.bool false)], args := [d1, d2] }
  | _ => none }
def FnExactCracksOkWrongFalsely : Prop := fnExactCracksOkRow.holds Try.pinned (OpenSpec.ofChange fnExactCracksOkWrong)

/-- 'laws.FnExactCarriedOk': WHATEVER THE INPUT: true; the input reads as it did. -/
def fnExactCarriedOkSpec : ChangeSpec := { name := "fnExactCarriedOk", fn := fun _ => fun
  | [d1, d2] => { results := [.lit (.bool true)], args := [d1, d2] }
  | _ => none }
def fnExactCarriedOkRow : OpenClaim := { program := "ytdkdjjdedogcbaa", sum := "39af79bd4ddca93d869bcd0cf6e5ceb6327f8bdadadbfb92b6eb32538c6cede0", func := "loop.example/g03301/laws.FnExactCarriedOk", spec := "fnExactCarriedOk", unfollowed := true, recurses := true, apart := false }
def FnExactCarriedOkSaid : Prop := fnExactCarriedOkRow.holds Try.pinned (OpenSpec.ofChange fnExactCarriedOkSpec)

/-- ITS FALSE NEIGHBOUR: 'it returns false'. Refute it at one input. -/
def fnExactCarriedOkWrong : ChangeSpec := { name := "fnExactCarriedOk", fn := fun _ => fun
  | [d1, d2] => { results := [.lit (.bool false)], args := [d1, d2] }
  | _ => none }
def FnExactCarriedOkWrongFalsely : Prop := fnExactCarriedOkRow.holds Try.pinned (OpenSpec.ofChange fnExactCarriedOkWrong)

/-- 'laws.FnExactIsStraight': WHATEVER THE INPUT: true; the input reads as it did. -/
def fnExactIsStraightSpec : ChangeSpec := { name := "fnExactIsStraight", fn := fun _ => fun
  | [d] => { results := [.lit (.bool true)], args := [d] }
  | _ => none }
def fnExactIsStraightRow : OpenClaim := { program := "ytdkdjjdedogcbaa", sum := "39af79bd4ddca93d869bcd0cf6e5ceb6327f8bdadadbfb92b6eb32538c6cede0", func := "loop.example/g03301/laws.FnExactIsStraight", spec := "fnExactIsStraight", unfollowed := true, recurses := true, apart := false }
def FnExactIsStraightSaid : Prop := fnExactIsStraightRow.holds Try.pinned (OpenSpec.ofChange fnExactIsStraightSpec)

/-- ITS FALSE NEIGHBOUR: 'it returns false'. Refute it at one input. -/
def fnExactIsStraightWrong : ChangeSpec := { name := "fnExactIsStraight", fn := fun _ => fun
  | [d] => { results := [.lit (.bool false)], args := [d] }
  | _ => none }
def FnExactIsStraightWrongFalsely : Prop := fnExactIsStraightRow.holds Try.pinned (OpenSpec.ofChange fnExactIsStraightWrong)

/-- 'laws.FnExactPayOf': WHATEVER THE INPUT: true; the input reads as it did. -/
def fnExactPayOfSpec : ChangeSpec := { name := "fnExactPayOf", fn := fun _ => fun
  | [d1, d2, d3, d4] => { results := [.lit (.bool true)], args := [d1, d2, d3, d4] }
  | _ => none }
def fnExactPayOfRow : OpenClaim := { program := "ytdkdjjdedogcbaa", sum := "39af79bd4ddca93d869bcd0cf6e5ceb6327f8bdadadbfb92b6eb32538c6cede0", func := "loop.example/g03301/laws.FnExactPayOf", spec := "fnExactPayOf", unfollowed := true, recurses := true, apart := false }
def FnExactPayOfSaid : Prop := fnExactPayOfRow.holds Try.pinned (OpenSpec.ofChange fnExactPayOfSpec)

/-- ITS FALSE NEIGHBOUR: 'it returns false'. Refute it at one input. -/
def fnExactPayOfWrong : ChangeSpec := { name := "fnExactPayOf", fn := fun _ => fun
  | [d1, d2, d3, d4] => { results := [.lit (.bool false)], args := [d1, d2, d3, d4] }
  | _ => none }
def FnExactPayOfWrongFalsely : Prop := fnExactPayOfRow.holds Try.pinned (OpenSpec.ofChange fnExactPayOfWrong)

/-- 'laws.FnExactBusiestMark': WHATEVER THE INPUT: true; the input reads as it did. -/
def fnExactBusiestMarkSpec : ChangeSpec := { name := "fnExactBusiestMark", fn := fun _ => fun
  | [d1, d2] => { results := [.lit (.bool true)], args := [d1, d2] }
  | _ => none }
def fnExactBusiestMarkRow : OpenClaim := { program := "ytdkdjjdedogcbaa", sum := "39af79bd4ddca93d869bcd0cf6e5ceb6327f8bdadadbfb92b6eb32538c6cede0", func := "loop.example/g03301/laws.FnExactBusiestMark", spec := "fnExactBusiestMark", unfollowed := true, recurses := true, apart := false }
def FnExactBusiestMarkSaid : Prop := fnExactBusiestMarkRow.holds Try.pinned (OpenSpec.ofChange fnExactBusiestMarkSpec)

/-- ITS FALSE NEIGHBOUR: 'it returns false'. Refute it at one input. -/
def fnExactBusiestMarkWrong : ChangeSpec := { name := "fnExactBusiestMark", fn := fun _ => fun
  | [d1, d2] => { results := [.lit (.bool false)], args := [d1, d2] }
  | _ => none }
def FnExactBusiestMarkWrongFalsely : Prop := fnExactBusiestMarkRow.holds Try.pinned (OpenSpec.ofChange fnExactBusiestMarkWrong)

/-- 'laws.FnPays': WHATEVER THE INPUT: true; the input reads as it did. -/
def fnPaysSpec : ChangeSpec := { name := "fnPays", fn := fun _ => fun
  | [d] => { results := [.lit (.bool true)], args := [d] }
  | _ => none }
def fnPaysRow : OpenClaim := { program := "ytdkdjjdedogcbaa", sum := "39af79bd4ddca93d869bcd0cf6e5ceb6327f8bdadadbfb92b6eb32538c6cede0", func := "loop.example/g03301/laws.FnPays", spec := "fnPays", unfollowed := true, recurses := true, apart := false }
def FnPaysSaid : Prop := fnPaysRow.holds Try.pinned (OpenSpec.ofChange fnPaysSpec)

/-- ITS FALSE NEIGHBOUR: 'it returns false'. Refute it at one input. -/
def fnPaysWrong : ChangeSpec := { name := "fnPays", fn := fun _ => fun
  | [d] => { results := [.lit (.bool false)], args := [d] }
  | _ => none }
def FnPaysWrongFalsely : Prop := fnPaysRow.holds Try.pinned (OpenSpec.ofChange fnPaysWrong)

/-- 'laws.FnExactPayAll': WHATEVER THE INPUT: true; the input reads as it did. -/
def fnExactPayAllSpec : ChangeSpec := { name := "fnExactPayAll", fn := fun _ => fun
  | [d1, d2, d3] => { results := [.lit (.bool true)], args := [d1, d2, d3] }
  | _ => none }
def fnExactPayAllRow : OpenClaim := { program := "ytdkdjjdedogcbaa", sum := "39af79bd4ddca93d869bcd0cf6e5ceb6327f8bdadadbfb92b6eb32538c6cede0", func := "loop.example/g03301/laws.FnExactPayAll", spec := "fnExactPayAll", unfollowed := true, recurses := true, apart := false }
def FnExactPayAllSaid : Prop := fnExactPayAllRow.holds Try.pinned (OpenSpec.ofChange fnExactPayAllSpec)

/-- ITS FALSE NEIGHBOUR: 'it returns false'. Refute it at one input. -/
def fnExactPayAllWrong : ChangeSpec := { name := "fnExactPayAll", fn := fun _ => fun
  | [d1, d2, d3] => { results := [.lit (.bool false)], args := [d1, d2, d3] }
  | _ => none }
def FnExactPayAllWrongFalsely : Prop := fnExactPayAllRow.holds Try.pinned (OpenSpec.ofChange fnExactPayAllWrong)

/-- 'laws.FnExactNeedsOf': WHATEVER THE INPUT: true; the input reads as it did. -/
def fnExactNeedsOfSpec : ChangeSpec := { name := "fnExactNeedsOf", fn := fun _ => fun
  | [d] => { results := [.lit (.bool true)], args := [d] }
  | _ => none }
def fnExactNeedsOfRow : OpenClaim := { program := "ytdkdjjdedogcbaa", sum := "39af79bd4ddca93d869bcd0cf6e5ceb6327f8bdadadbfb92b6eb32538c6cede0", func := "loop.example/g03301/laws.FnExactNeedsOf", spec := "fnExactNeedsOf", unfollowed := true, recurses := true, apart := false }
def FnExactNeedsOfSaid : Prop := fnExactNeedsOfRow.holds Try.pinned (OpenSpec.ofChange fnExactNeedsOfSpec)

/-- ITS FALSE NEIGHBOUR: 'it returns false'. Refute it at one input. -/
def fnExactNeedsOfWrong : ChangeSpec := { name := "fnExactNeedsOf", fn := fun _ => fun
  | [d] => { results := [.lit (.bool false)], args := [d] }
  | _ => none }
def FnExactNeedsOfWrongFalsely : Prop := fnExactNeedsOfRow.holds Try.pinned (OpenSpec.ofChange fnExactNeedsOfWrong)

/-- 'laws.FnExactVaultOk': WHATEVER THE INPUT: true; the input reads as it did. -/
def fnExactVaultOkSpec : ChangeSpec := { name := "fnExactVaultOk", fn := fun _ => fun
  | [d] => { results := [.lit (.bool true)], args := [d] }
  | _ => none }
def fnExactVaultOkRow : OpenClaim := { program := "ytdkdjjdedogcbaa", sum := "39af79bd4ddca93d869bcd0cf6e5ceb6327f8bdadadbfb92b6eb32538c6cede0", func := "loop.example/g03301/laws.FnExactVaultOk", spec := "fnExactVaultOk", unfollowed := true, recurses := true, apart := false }
def FnExactVaultOkSaid : Prop := fnExactVaultOkRow.holds Try.pinned (OpenSpec.ofChange fnExactVaultOkSpec)

/-- ITS FALSE NEIGHBOUR: 'it returns false'. Refute it at one input. -/
def fnExactVaultOkWrong : ChangeSpec := { name := "fnExactVaultOk", fn := fun _ => fun
  | [d] => { results := [.lit (.bool false)], args := [d] }
  | _ => none }
def FnExactVaultOkWrongFalsely : Prop := fnExactVaultOkRow.holds Try.pinned (OpenSpec.ofChange fnExactVaultOkWrong)

/- THE SECOND FORM. 'bulk': how many values and letters a reading holds, each counted each time it is reached (what is shared counts as often as it is met; a slice's spare places count too). A statement '..UptoSaid' is the law's where the arguments, and the package variables that the reading takes, are together of bulk at most 1048576: NARROWER than '..Said'. Prove '..Said' where nothing that the law and all that it calls make is longer than what came in: it says more and counts as full. Else prove '..UptoSaid'. A law counts once. -/
mutual
def uptoBulk {H : Type} : DataW H → Nat
  | .lit (.string bytes) => bytes.length + 1
  | .lit _ => 1
  | .nil => 1
  | .ptr d => uptoBulk d + 1
  | .slice elems spare => uptoBulkAll elems + uptoBulkAll spare + 1
  | .agg parts => uptoBulkAll parts + 1
  | .iface _ d => uptoBulk d + 1
  | .map entries => uptoBulkEntries entries + 1
  | .held _ => 1
def uptoBulkAll {H : Type} : List (DataW H) → Nat
  | [] => 0
  | d :: r => uptoBulk d + uptoBulkAll r
def uptoBulkEntries {H : Type} : List (Lit × DataW H) → Nat
  | [] => 0
  | x :: r => uptoBulkEntry x + uptoBulkEntries r
def uptoBulkEntry {H : Type} : Lit × DataW H → Nat
  | (.string bytes, d) => bytes.length + uptoBulk d + 1
  | (_, d) => uptoBulk d + 1
 end
def uptoSmall : (H : Type) → List (DataW H) → Bool := fun _ ds => decide (uptoBulkAll ds ≤ 1048576)
def OpenSpec.upto (s : _root_.Go.ChangeSpec) : _root_.Go.OpenSpec := { _root_.Go.OpenSpec.ofChange s with cond := some uptoSmall }

/-- 'laws.FnExactMarksOk', WHERE WHAT IT READS IS OF BULK AT MOST 1048576: true; the input reads as it did. -/
def fnExactMarksOkUptoRow : OpenClaim := { program := "ytdkdjjdedogcbaa", sum := "39af79bd4ddca93d869bcd0cf6e5ceb6327f8bdadadbfb92b6eb32538c6cede0", func := "loop.example/g03301/laws.FnExactMarksOk", spec := "fnExactMarksOk", unfollowed := true, recurses := true, apart := false, narrowed := true }
def FnExactMarksOkUptoSaid : Prop := fnExactMarksOkUptoRow.holds Try.pinned (OpenSpec.upto fnExactMarksOkSpec)

/-- 'laws.FnExactCracksOk', WHERE WHAT IT READS IS OF BULK AT MOST 1048576: true; the input reads as it did. -/
def fnExactCracksOkUptoRow : OpenClaim := { program := "ytdkdjjdedogcbaa", sum := "39af79bd4ddca93d869bcd0cf6e5ceb6327f8bdadadbfb92b6eb32538c6cede0", func := "loop.example/g03301/laws.FnExactCracksOk", spec := "fnExactCracksOk", unfollowed := true, recurses := true, apart := false, narrowed := true }
def FnExactCracksOkUptoSaid : Prop := fnExactCracksOkUptoRow.holds Try.pinned (OpenSpec.upto fnExactCracksOkSpec)

/-- 'laws.FnExactCarriedOk', WHERE WHAT IT READS IS OF BULK AT MOST 1048576: true; the input reads as it did. -/
def fnExactCarriedOkUptoRow : OpenClaim := { program := "ytdkdjjdedogcbaa", sum := "39af79bd4ddca93d869bcd0cf6e5ceb6327f8bdadadbfb92b6eb32538c6cede0", func := "loop.example/g03301/laws.FnExactCarriedOk", spec := "fnExactCarriedOk", unfollowed := true, recurses := true, apart := false, narrowed := true }
def FnExactCarriedOkUptoSaid : Prop := fnExactCarriedOkUptoRow.holds Try.pinned (OpenSpec.upto fnExactCarriedOkSpec)

/-- 'laws.FnExactIsStraight', WHERE WHAT IT READS IS OF BULK AT MOST 1048576: true; the input reads as it did. -/
def fnExactIsStraightUptoRow : OpenClaim := { program := "ytdkdjjdedogcbaa", sum := "39af79bd4ddca93d869bcd0cf6e5ceb6327f8bdadadbfb92b6eb32538c6cede0", func := "loop.example/g03301/laws.FnExactIsStraight", spec := "fnExactIsStraight", unfollowed := true, recurses := true, apart := false, narrowed := true }
def FnExactIsStraightUptoSaid : Prop := fnExactIsStraightUptoRow.holds Try.pinned (OpenSpec.upto fnExactIsStraightSpec)

/-- 'laws.FnExactPayOf', WHERE WHAT IT READS IS OF BULK AT MOST 1048576: true; the input reads as it did. -/
def fnExactPayOfUptoRow : OpenClaim := { program := "ytdkdjjdedogcbaa", sum := "39af79bd4ddca93d869bcd0cf6e5ceb6327f8bdadadbfb92b6eb32538c6cede0", func := "loop.example/g03301/laws.FnExactPayOf", spec := "fnExactPayOf", unfollowed := true, recurses := true, apart := false, narrowed := true }
def FnExactPayOfUptoSaid : Prop := fnExactPayOfUptoRow.holds Try.pinned (OpenSpec.upto fnExactPayOfSpec)

/-- 'laws.FnExactBusiestMark', WHERE WHAT IT READS IS OF BULK AT MOST 1048576: true; the input reads as it did. -/
def fnExactBusiestMarkUptoRow : OpenClaim := { program := "ytdkdjjdedogcbaa", sum := "39af79bd4ddca93d869bcd0cf6e5ceb6327f8bdadadbfb92b6eb32538c6cede0", func := "loop.example/g03301/laws.FnExactBusiestMark", spec := "fnExactBusiestMark", unfollowed := true, recurses := true, apart := false, narrowed := true }
def FnExactBusiestMarkUptoSaid : Prop := fnExactBusiestMarkUptoRow.holds Try.pinned (OpenSpec.upto fnExactBusiestMarkSpec)

/-- 'laws.FnPays', WHERE WHAT IT READS IS OF BULK AT MOST 1048576: true; the input reads as it did. -/
def fnPaysUptoRow : OpenClaim := { program := "ytdkdjjdedogcbaa", sum := "39af79bd4ddca93d869bcd0cf6e5ceb6327f8bdadadbfb92b6eb32538c6cede0", func := "loop.example/g03301/laws.FnPays", spec := "fnPays", unfollowed := true, recurses := true, apart := false, narrowed := true }
def FnPaysUptoSaid : Prop := fnPaysUptoRow.holds Try.pinned (OpenSpec.upto fnPaysSpec)

/-- 'laws.FnExactPayAll', WHERE WHAT IT READS IS OF BULK AT MOST 1048576: true; the input reads as it did. -/
def fnExactPayAllUptoRow : OpenClaim := { program := "ytdkdjjdedogcbaa", sum := "39af79bd4ddca93d869bcd0cf6e5ceb6327f8bdadadbfb92b6eb32538c6cede0", func := "loop.example/g03301/laws.FnExactPayAll", spec := "fnExactPayAll", unfollowed := true, recurses := true, apart := false, narrowed := true }
def FnExactPayAllUptoSaid : Prop := fnExactPayAllUptoRow.holds Try.pinned (OpenSpec.upto fnExactPayAllSpec)

/-- 'laws.FnExactNeedsOf', WHERE WHAT IT READS IS OF BULK AT MOST 1048576: true; the input reads as it did. -/
def fnExactNeedsOfUptoRow : OpenClaim := { program := "ytdkdjjdedogcbaa", sum := "39af79bd4ddca93d869bcd0cf6e5ceb6327f8bdadadbfb92b6eb32538c6cede0", func := "loop.example/g03301/laws.FnExactNeedsOf", spec := "fnExactNeedsOf", unfollowed := true, recurses := true, apart := false, narrowed := true }
def FnExactNeedsOfUptoSaid : Prop := fnExactNeedsOfUptoRow.holds Try.pinned (OpenSpec.upto fnExactNeedsOfSpec)

/-- 'laws.FnExactVaultOk', WHERE WHAT IT READS IS OF BULK AT MOST 1048576: true; the input reads as it did. -/
def fnExactVaultOkUptoRow : OpenClaim := { program := "ytdkdjjdedogcbaa", sum := "39af79bd4ddca93d869bcd0cf6e5ceb6327f8bdadadbfb92b6eb32538c6cede0", func := "loop.example/g03301/laws.FnExactVaultOk", spec := "fnExactVaultOk", unfollowed := true, recurses := true, apart := false, narrowed := true }
def FnExactVaultOkUptoSaid : Prop := fnExactVaultOkUptoRow.holds Try.pinned (OpenSpec.upto fnExactVaultOkSpec)

end Rows
end Go.Proofs.Ytdkdjjdedogcbaa
