/-
  No cell of these rows narrows 'for every input' (looked for: loops, veiled, ifaces, maps, wideKeys, modest, calm, conditions, laid).
  DERIVED. THE GIVEN ROWS OF THIS SEAT. 5 by the template 'for every input the law returns true; each argument reads behind the call as it read before'; 0 by the template 'total and deterministic' (their statements: YtgaafmcmcalaoaaTotals.lean).
  GIVEN WITH THE SEED: the statements are not yours to turn. If you find one false, say at which input.
  Laid BY PROGRAM, IN A SANDBOX (cutbox-rows.mjs): the forced cells as the released guide's own fill.sh prints them over the translation 012fb03bb03a3b90… (all of the seat's roots in one cut). By AI agents, Wed Nov 11 2026. No macro, syntax, notation, axiom, sorry.
-/
import Derived.Test.YtgaafmcmcalaoaaChecked
import GoSem.Claim
import GoSem.ClaimJoined
import GoSem.ClaimMapViews
import Derived.JoinedTies
import Derived.KernelRfl
namespace Go.Proofs.Ytgaafmcmcalaoaa
/- THE CELL 'sum', in the pinned program and in every row, IS THE sha256 OF THE DUMP (.gsa) THAT YtgaafmcmcalaoaaProg.lean LOADS. Nothing in Lean hashes anything: it is a label: what it is worth is what the hold of that sum in a sandbox is worth. -/
noncomputable def Try.pinned : Pinned := { name := "ytgaafmcmcalaoaa", sum := "012fb03bb03a3b90d4cd53f45c5389a1f97913c800e853da21499b788cc95c31", checked := Try.checked }
namespace Rows
def none {H : Type} : Left H := { results := [], args := [] }

/-- 'laws.FnExactIsLaying': WHATEVER THE INPUT: true; the input reads as it did. -/
def fnExactIsLayingSpec : ChangeSpec := { name := "fnExactIsLaying", fn := fun _ => fun
  | [d1, d2] => { results := [.lit (.bool true)], args := [d1, d2] }
  | _ => none }
def fnExactIsLayingRow : OpenClaim := { program := "ytgaafmcmcalaoaa", sum := "012fb03bb03a3b90d4cd53f45c5389a1f97913c800e853da21499b788cc95c31", func := "loop.example/g03301/laws.FnExactIsLaying", spec := "fnExactIsLaying", unfollowed := true, recurses := true, apart := false }
def FnExactIsLayingSaid : Prop := fnExactIsLayingRow.holds Try.pinned (OpenSpec.ofChange fnExactIsLayingSpec)

/-- ITS FALSE NEIGHBOUR: 'it returns false'. Refute it at one input. -/
def fnExactIsLayingWrong : ChangeSpec := { name := "fnExactIsLaying", fn := fun _ => fun
  | [d1, d2] => { results := [.lit (.bool false)], args := [d1, d2] }
  | _ => none }
def FnExactIsLayingWrongFalsely : Prop := fnExactIsLayingRow.holds Try.pinned (OpenSpec.ofChange fnExactIsLayingWrong)

/-- 'laws.FnExactImbalance': WHATEVER THE INPUT: true; the input reads as it did. -/
def fnExactImbalanceSpec : ChangeSpec := { name := "fnExactImbalance", fn := fun _ => fun
  | [d1, d2] => { results := [.lit (.bool true)], args := [d1, d2] }
  | _ => none }
def fnExactImbalanceRow : OpenClaim := { program := "ytgaafmcmcalaoaa", sum := "012fb03bb03a3b90d4cd53f45c5389a1f97913c800e853da21499b788cc95c31", func := "loop.example/g03301/laws.FnExactImbalance", spec := "fnExactImbalance", unfollowed := true, recurses := true, apart := false }
def FnExactImbalanceSaid : Prop := fnExactImbalanceRow.holds Try.pinned (OpenSpec.ofChange fnExactImbalanceSpec)

/-- ITS FALSE NEIGHBOUR: 'it returns false'. Refute it at one input. -/
def fnExactImbalanceWrong : ChangeSpec := { name := "fnExactImbalance", fn := fun _ => fun
  | [d1, d2] => { results := [.lit (.bool false)], args := [d1, d2] }
  | _ => none }
def FnExactImbalanceWrongFalsely : Prop := fnExactImbalanceRow.holds Try.pinned (OpenSpec.ofChange fnExactImbalanceWrong)

/-- 'laws.FnExactFairMarks': WHATEVER THE INPUT: true; the input reads as it did. -/
def fnExactFairMarksSpec : ChangeSpec := { name := "fnExactFairMarks", fn := fun _ => fun
  | [d1, d2] => { results := [.lit (.bool true)], args := [d1, d2] }
  | _ => none }
def fnExactFairMarksRow : OpenClaim := { program := "ytgaafmcmcalaoaa", sum := "012fb03bb03a3b90d4cd53f45c5389a1f97913c800e853da21499b788cc95c31", func := "loop.example/g03301/laws.FnExactFairMarks", spec := "fnExactFairMarks", unfollowed := true, recurses := true, apart := false }
def FnExactFairMarksSaid : Prop := fnExactFairMarksRow.holds Try.pinned (OpenSpec.ofChange fnExactFairMarksSpec)

/-- ITS FALSE NEIGHBOUR: 'it returns false'. Refute it at one input. -/
def fnExactFairMarksWrong : ChangeSpec := { name := "fnExactFairMarks", fn := fun _ => fun
  | [d1, d2] => { results := [.lit (.bool false)], args := [d1, d2] }
  | _ => none }
def FnExactFairMarksWrongFalsely : Prop := fnExactFairMarksRow.holds Try.pinned (OpenSpec.ofChange fnExactFairMarksWrong)

/-- 'laws.FnLayings': WHATEVER THE INPUT: true; the input reads as it did. -/
def fnLayingsSpec : ChangeSpec := { name := "fnLayings", fn := fun _ => fun
  | [d] => { results := [.lit (.bool true)], args := [d] }
  | _ => none }
def fnLayingsRow : OpenClaim := { program := "ytgaafmcmcalaoaa", sum := "012fb03bb03a3b90d4cd53f45c5389a1f97913c800e853da21499b788cc95c31", func := "loop.example/g03301/laws.FnLayings", spec := "fnLayings", unfollowed := true, recurses := true, apart := false }
def FnLayingsSaid : Prop := fnLayingsRow.holds Try.pinned (OpenSpec.ofChange fnLayingsSpec)

/-- ITS FALSE NEIGHBOUR: 'it returns false'. Refute it at one input. -/
def fnLayingsWrong : ChangeSpec := { name := "fnLayings", fn := fun _ => fun
  | [d] => { results := [.lit (.bool false)], args := [d] }
  | _ => none }
def FnLayingsWrongFalsely : Prop := fnLayingsRow.holds Try.pinned (OpenSpec.ofChange fnLayingsWrong)

/-- 'laws.FnBlocks': WHATEVER THE INPUT: true; the input reads as it did. -/
def fnBlocksSpec : ChangeSpec := { name := "fnBlocks", fn := fun _ => fun
  | [d] => { results := [.lit (.bool true)], args := [d] }
  | _ => none }
def fnBlocksRow : OpenClaim := { program := "ytgaafmcmcalaoaa", sum := "012fb03bb03a3b90d4cd53f45c5389a1f97913c800e853da21499b788cc95c31", func := "loop.example/g03301/laws.FnBlocks", spec := "fnBlocks", unfollowed := true, recurses := true, apart := false }
def FnBlocksSaid : Prop := fnBlocksRow.holds Try.pinned (OpenSpec.ofChange fnBlocksSpec)

/-- ITS FALSE NEIGHBOUR: 'it returns false'. Refute it at one input. -/
def fnBlocksWrong : ChangeSpec := { name := "fnBlocks", fn := fun _ => fun
  | [d] => { results := [.lit (.bool false)], args := [d] }
  | _ => none }
def FnBlocksWrongFalsely : Prop := fnBlocksRow.holds Try.pinned (OpenSpec.ofChange fnBlocksWrong)

/- THE SECOND FORM. 'bulk': how many values and letters a reading holds, each counted each time it is reached (what is shared counts as often as it is met; a slice's spare places count too). A statement '..UptoSaid' is the law's where the arguments, and the package variables that the reading takes, are together of bulk at most 1048576: NARROWER than '..Said'. Prove '..Said' where nothing that the law and all that it calls make is longer than what came in: it says more and counts as full. Else prove '..UptoSaid'. A law counts once. -/
mutual
def uptoBulk {H : Type} : DataW H → Nat
  | .lit (.string bytes) => bytes.length + 1
  | .lit _ => 1
  | .nil => 1
  | .ptr d => uptoBulk d + 1
  | .slice elems spare => uptoBulkAll elems + uptoBulkAll spare + 1
  | .agg parts => uptoBulkAll parts + 1
  | .iface _ d => uptoBulk d + 1
  | .map entries => uptoBulkEntries entries + 1
  | .held _ => 1
def uptoBulkAll {H : Type} : List (DataW H) → Nat
  | [] => 0
  | d :: r => uptoBulk d + uptoBulkAll r
def uptoBulkEntries {H : Type} : List (Lit × DataW H) → Nat
  | [] => 0
  | x :: r => uptoBulkEntry x + uptoBulkEntries r
def uptoBulkEntry {H : Type} : Lit × DataW H → Nat
  | (.string bytes, d) => bytes.length + uptoBulk d + 1
  | (_, d) => uptoBulk d + 1
 end
def uptoSmall : (H : Type) → List (DataW H) → Bool := fun _ ds => decide (uptoBulkAll ds ≤ 1048576)
def OpenSpec.upto (s : _root_.Go.ChangeSpec) : _root_.Go.OpenSpec := { _root_.Go.OpenSpec.ofChange s with cond := some uptoSmall }

/-- 'laws.FnExactIsLaying', WHERE WHAT IT READS IS OF BULK AT MOST 1048576: true; the input reads as it did. -/
def fnExactIsLayingUptoRow : OpenClaim := { program := "ytgaafmcmcalaoaa", sum := "012fb03bb03a3b90d4cd53f45c5389a1f97913c800e853da21499b788cc95c31", func := "loop.example/g03301/laws.FnExactIsLaying", spec := "fnExactIsLaying", unfollowed := true, recurses := true, apart := false, narrowed := true }
def FnExactIsLayingUptoSaid : Prop := fnExactIsLayingUptoRow.holds Try.pinned (OpenSpec.upto fnExactIsLayingSpec)

/-- 'laws.FnExactImbalance', WHERE WHAT IT READS IS OF BULK AT MOST 1048576: true; the input reads as it did. -/
def fnExactImbalanceUptoRow : OpenClaim := { program := "ytgaafmcmcalaoaa", sum := "012fb03bb03a3b90d4cd53f45c5389a1f97913c800e853da21499b788cc95c31", func := "loop.example/g03301/laws.FnExactImbalance", spec := "fnExactImbalance", unfollowed := true, recurses := true, apart := false, narrowed := true }
def FnExactImbalanceUptoSaid : Prop := fnExactImbalanceUptoRow.holds Try.pinned (OpenSpec.upto fnExactImbalanceSpec)

/-- 'laws.FnExactFairMarks', WHERE WHAT IT READS IS OF BULK AT MOST 1048576: true; the input reads as it did. -/
def fnExactFairMarksUptoRow : OpenClaim := { program := "ytgaafmcmcalaoaa", sum := "012fb03bb03a3b90d4cd53f45c5389a1f97913c800e853da21499b788cc95c31", func := "loop.example/g03301/laws.FnExactFairMarks", spec := "fnExactFairMarks", unfollowed := true, recurses := true, apart := false, narrowed := true }
def FnExactFairMarksUptoSaid : Prop := fnExactFairMarksUptoRow.holds Try.pinned (OpenSpec.upto fnExactFairMarksSpec)

/-- 'laws.FnLayings', WHERE WHAT IT READS IS OF BULK AT MOST 1048576: true; the input reads as it did. -/
def fnLayingsUptoRow : OpenClaim := { program := "ytgaafmcmcalaoaa", sum := "012fb03bb03a3b90d4cd53f45c5389a1f97913c800e853da21499b788cc95c31", func := "loop.example/g03301/laws.FnLayings", spec := "fnLayings", unfollowed := true, recurses := true, apart := false, narrowed := true }
def FnLayingsUptoSaid : Prop := fnLayingsUptoRow.holds Try.pinned (OpenSpec.upto fnLayingsSpec)

/-- 'laws.FnBlocks', WHERE WHAT IT READS IS OF BULK AT MOST 1048576: true; the input reads as it did. -/
def fnBlocksUptoRow : OpenClaim := { program := "ytgaafmcmcalaoaa", sum := "012fb03bb03a3b90d4cd53f45c5389a1f97913c800e853da21499b788cc95c31", func := "loop.example/g03301/laws.FnBlocks", spec := "fnBlocks", unfollowed := true, recurses := true, apart := false, narrowed := true }
def FnBlocksUptoSaid : Prop := fnBlocksUptoRow.holds Try.pinned (OpenSpec.upto fnBlocksSpec)

end Rows
end Go.Proofs.Ytgaafmcmcalaoaa
