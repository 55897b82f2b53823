/-
  No cell of these rows narrows 'for every input' (looked for: loops, veiled, ifaces, maps, wideKeys, modest, calm, conditions, laid).
  DERIVED. THE GIVEN ROWS OF THIS SEAT. 6 by the template 'for every input the law returns true; each argument reads behind the call as it read before'; 0 by the template 'total and deterministic' (their statements: YtodneggnnipcnaaGreatTotals.lean).
  GIVEN WITH THE SEED: the statements are not yours to turn. If you find one false, say at which input.
  Laid BY PROGRAM, IN A SANDBOX (cutbox-rows.mjs): the forced cells as the released guide's own fill.sh prints them over the translation 080a2bd0d0597fa2… (all of the seat's roots in one cut). By AI agents, Wed Nov 11 2026. No macro, syntax, notation, axiom, sorry.
-/
import Derived.Test.YtodneggnnipcnaaGreatChecked
import GoSem.Claim
import GoSem.ClaimJoined
import GoSem.ClaimMapViews
import Derived.JoinedTies
import Derived.KernelRfl
namespace Go.Proofs.YtodneggnnipcnaaGreat
/- THE CELL 'sum', in the pinned program and in every row, IS THE sha256 OF THE DUMP (.gsa) THAT YtodneggnnipcnaaGreatProg.lean LOADS. Nothing in Lean hashes anything: it is a label: what it is worth is what the hold of that sum in a sandbox is worth. -/
noncomputable def Tryz.pinned : Pinned := { name := "ytodneggnnipcnaagreat", sum := "080a2bd0d0597fa25b65d31ff69aa57a3f2ed8ea6baec5faac11e00af6ceb1af", checked := Tryz.checked }
namespace Rows
def none {H : Type} : Left H := { results := [], args := [] }

/-- 'laws.FnExactThrustSpread': WHATEVER THE INPUT: true; the input reads as it did. -/
def fnExactThrustSpreadSpec : ChangeSpec := { name := "fnExactThrustSpread", fn := fun _ => fun
  | [d1, d2] => { results := [.lit (.bool true)], args := [d1, d2] }
  | _ => none }
def fnExactThrustSpreadRow : OpenClaim := { program := "ytodneggnnipcnaagreat", sum := "080a2bd0d0597fa25b65d31ff69aa57a3f2ed8ea6baec5faac11e00af6ceb1af", func := "loop.example/g03301/laws.FnExactThrustSpread", spec := "fnExactThrustSpread", inPlace := ["(*sync.WaitGroup).Add", "internal/race.ReleaseMerge", "internal/race.Disable", "internal/race.Enable", "internal/synctest.IsInBubble", "internal/synctest.Associate[sync.WaitGroup]", "sync.fatal", "sync/atomic.OrUint64", "sync/atomic.AddUint64", "internal/race.Read", "sync/atomic.LoadUint64", "sync/atomic.StoreUint64", "internal/synctest.Disassociate[sync.WaitGroup]", "sync.runtime_Semrelease", "(*sync.WaitGroup).Done", "(*sync.WaitGroup).Wait", "internal/race.Acquire", "internal/synctest.IsAssociated[sync.WaitGroup]", "sync/atomic.CompareAndSwapUint64", "internal/race.Write", "sync.runtime_SemacquireWaitGroup"], unfollowed := true, recurses := true, leaving := true, apart := false }
def FnExactThrustSpreadSaid : Prop := fnExactThrustSpreadRow.holds Tryz.pinned (OpenSpec.ofChange fnExactThrustSpreadSpec)

/-- ITS FALSE NEIGHBOUR: 'it returns false'. Refute it at one input. -/
def fnExactThrustSpreadWrong : ChangeSpec := { name := "fnExactThrustSpread", fn := fun _ => fun
  | [d1, d2] => { results := [.lit (.bool false)], args := [d1, d2] }
  | _ => none }
def FnExactThrustSpreadWrongFalsely : Prop := fnExactThrustSpreadRow.holds Tryz.pinned (OpenSpec.ofChange fnExactThrustSpreadWrong)

/-- 'laws.FnExactSettledThrust': WHATEVER THE INPUT: true; the input reads as it did. -/
def fnExactSettledThrustSpec : ChangeSpec := { name := "fnExactSettledThrust", fn := fun _ => fun
  | [d1, d2, d3] => { results := [.lit (.bool true)], args := [d1, d2, d3] }
  | _ => none }
def fnExactSettledThrustRow : OpenClaim := { program := "ytodneggnnipcnaagreat", sum := "080a2bd0d0597fa25b65d31ff69aa57a3f2ed8ea6baec5faac11e00af6ceb1af", func := "loop.example/g03301/laws.FnExactSettledThrust", spec := "fnExactSettledThrust", inPlace := ["(*sync.WaitGroup).Add", "internal/race.ReleaseMerge", "internal/race.Disable", "internal/race.Enable", "internal/synctest.IsInBubble", "internal/synctest.Associate[sync.WaitGroup]", "sync.fatal", "sync/atomic.OrUint64", "sync/atomic.AddUint64", "internal/race.Read", "sync/atomic.LoadUint64", "sync/atomic.StoreUint64", "internal/synctest.Disassociate[sync.WaitGroup]", "sync.runtime_Semrelease", "(*sync.WaitGroup).Done", "(*sync.WaitGroup).Wait", "internal/race.Acquire", "internal/synctest.IsAssociated[sync.WaitGroup]", "sync/atomic.CompareAndSwapUint64", "internal/race.Write", "sync.runtime_SemacquireWaitGroup"], unfollowed := true, recurses := true, leaving := true, apart := false }
def FnExactSettledThrustSaid : Prop := fnExactSettledThrustRow.holds Tryz.pinned (OpenSpec.ofChange fnExactSettledThrustSpec)

/-- ITS FALSE NEIGHBOUR: 'it returns false'. Refute it at one input. -/
def fnExactSettledThrustWrong : ChangeSpec := { name := "fnExactSettledThrust", fn := fun _ => fun
  | [d1, d2, d3] => { results := [.lit (.bool false)], args := [d1, d2, d3] }
  | _ => none }
def FnExactSettledThrustWrongFalsely : Prop := fnExactSettledThrustRow.holds Tryz.pinned (OpenSpec.ofChange fnExactSettledThrustWrong)

/-- 'laws.FnExactIsExplained': WHATEVER THE INPUT: true; the input reads as it did. -/
def fnExactIsExplainedSpec : ChangeSpec := { name := "fnExactIsExplained", fn := fun _ => fun
  | [d1, d2, d3] => { results := [.lit (.bool true)], args := [d1, d2, d3] }
  | _ => none }
def fnExactIsExplainedRow : OpenClaim := { program := "ytodneggnnipcnaagreat", sum := "080a2bd0d0597fa25b65d31ff69aa57a3f2ed8ea6baec5faac11e00af6ceb1af", func := "loop.example/g03301/laws.FnExactIsExplained", spec := "fnExactIsExplained", inPlace := ["(*sync.WaitGroup).Add", "internal/race.ReleaseMerge", "internal/race.Disable", "internal/race.Enable", "internal/synctest.IsInBubble", "internal/synctest.Associate[sync.WaitGroup]", "sync.fatal", "sync/atomic.OrUint64", "sync/atomic.AddUint64", "internal/race.Read", "sync/atomic.LoadUint64", "sync/atomic.StoreUint64", "internal/synctest.Disassociate[sync.WaitGroup]", "sync.runtime_Semrelease", "(*sync.WaitGroup).Done", "(*sync.WaitGroup).Wait", "internal/race.Acquire", "internal/synctest.IsAssociated[sync.WaitGroup]", "sync/atomic.CompareAndSwapUint64", "internal/race.Write", "sync.runtime_SemacquireWaitGroup"], unfollowed := true, recurses := true, leaving := true, apart := false }
def FnExactIsExplainedSaid : Prop := fnExactIsExplainedRow.holds Tryz.pinned (OpenSpec.ofChange fnExactIsExplainedSpec)

/-- ITS FALSE NEIGHBOUR: 'it returns false'. Refute it at one input. -/
def fnExactIsExplainedWrong : ChangeSpec := { name := "fnExactIsExplained", fn := fun _ => fun
  | [d1, d2, d3] => { results := [.lit (.bool false)], args := [d1, d2, d3] }
  | _ => none }
def FnExactIsExplainedWrongFalsely : Prop := fnExactIsExplainedRow.holds Tryz.pinned (OpenSpec.ofChange fnExactIsExplainedWrong)

/-- 'laws.FnExactSpanOfArch': WHATEVER THE INPUT: true; the input reads as it did. -/
def fnExactSpanOfArchSpec : ChangeSpec := { name := "fnExactSpanOfArch", fn := fun _ => fun
  | [d1, d2, d3] => { results := [.lit (.bool true)], args := [d1, d2, d3] }
  | _ => none }
def fnExactSpanOfArchRow : OpenClaim := { program := "ytodneggnnipcnaagreat", sum := "080a2bd0d0597fa25b65d31ff69aa57a3f2ed8ea6baec5faac11e00af6ceb1af", func := "loop.example/g03301/laws.FnExactSpanOfArch", spec := "fnExactSpanOfArch", inPlace := ["(*sync.WaitGroup).Add", "internal/race.ReleaseMerge", "internal/race.Disable", "internal/race.Enable", "internal/synctest.IsInBubble", "internal/synctest.Associate[sync.WaitGroup]", "sync.fatal", "sync/atomic.OrUint64", "sync/atomic.AddUint64", "internal/race.Read", "sync/atomic.LoadUint64", "sync/atomic.StoreUint64", "internal/synctest.Disassociate[sync.WaitGroup]", "sync.runtime_Semrelease", "(*sync.WaitGroup).Done", "(*sync.WaitGroup).Wait", "internal/race.Acquire", "internal/synctest.IsAssociated[sync.WaitGroup]", "sync/atomic.CompareAndSwapUint64", "internal/race.Write", "sync.runtime_SemacquireWaitGroup"], unfollowed := true, recurses := true, leaving := true, apart := false }
def FnExactSpanOfArchSaid : Prop := fnExactSpanOfArchRow.holds Tryz.pinned (OpenSpec.ofChange fnExactSpanOfArchSpec)

/-- ITS FALSE NEIGHBOUR: 'it returns false'. Refute it at one input. -/
def fnExactSpanOfArchWrong : ChangeSpec := { name := "fnExactSpanOfArch", fn := fun _ => fun
  | [d1, d2, d3] => { results := [.lit (.bool false)], args := [d1, d2, d3] }
  | _ => none }
def FnExactSpanOfArchWrongFalsely : Prop := fnExactSpanOfArchRow.holds Tryz.pinned (OpenSpec.ofChange fnExactSpanOfArchWrong)

/-- 'laws.FnExactVaultPush': WHATEVER THE INPUT: true; the input reads as it did. -/
def fnExactVaultPushSpec : ChangeSpec := { name := "fnExactVaultPush", fn := fun _ => fun
  | [d] => { results := [.lit (.bool true)], args := [d] }
  | _ => none }
def fnExactVaultPushRow : OpenClaim := { program := "ytodneggnnipcnaagreat", sum := "080a2bd0d0597fa25b65d31ff69aa57a3f2ed8ea6baec5faac11e00af6ceb1af", func := "loop.example/g03301/laws.FnExactVaultPush", spec := "fnExactVaultPush", inPlace := ["(*sync.WaitGroup).Add", "internal/race.ReleaseMerge", "internal/race.Disable", "internal/race.Enable", "internal/synctest.IsInBubble", "internal/synctest.Associate[sync.WaitGroup]", "sync.fatal", "sync/atomic.OrUint64", "sync/atomic.AddUint64", "internal/race.Read", "sync/atomic.LoadUint64", "sync/atomic.StoreUint64", "internal/synctest.Disassociate[sync.WaitGroup]", "sync.runtime_Semrelease", "(*sync.WaitGroup).Done", "(*sync.WaitGroup).Wait", "internal/race.Acquire", "internal/synctest.IsAssociated[sync.WaitGroup]", "sync/atomic.CompareAndSwapUint64", "internal/race.Write", "sync.runtime_SemacquireWaitGroup"], unfollowed := true, recurses := true, leaving := true, apart := false }
def FnExactVaultPushSaid : Prop := fnExactVaultPushRow.holds Tryz.pinned (OpenSpec.ofChange fnExactVaultPushSpec)

/-- ITS FALSE NEIGHBOUR: 'it returns false'. Refute it at one input. -/
def fnExactVaultPushWrong : ChangeSpec := { name := "fnExactVaultPush", fn := fun _ => fun
  | [d] => { results := [.lit (.bool false)], args := [d] }
  | _ => none }
def FnExactVaultPushWrongFalsely : Prop := fnExactVaultPushRow.holds Tryz.pinned (OpenSpec.ofChange fnExactVaultPushWrong)

/-- 'laws.FnExactMovesApart': WHATEVER THE INPUT: true; the input reads as it did. -/
def fnExactMovesApartSpec : ChangeSpec := { name := "fnExactMovesApart", fn := fun _ => fun
  | [d1, d2] => { results := [.lit (.bool true)], args := [d1, d2] }
  | _ => none }
def fnExactMovesApartRow : OpenClaim := { program := "ytodneggnnipcnaagreat", sum := "080a2bd0d0597fa25b65d31ff69aa57a3f2ed8ea6baec5faac11e00af6ceb1af", func := "loop.example/g03301/laws.FnExactMovesApart", spec := "fnExactMovesApart", inPlace := ["(*sync.WaitGroup).Add", "internal/race.ReleaseMerge", "internal/race.Disable", "internal/race.Enable", "internal/synctest.IsInBubble", "internal/synctest.Associate[sync.WaitGroup]", "sync.fatal", "sync/atomic.OrUint64", "sync/atomic.AddUint64", "internal/race.Read", "sync/atomic.LoadUint64", "sync/atomic.StoreUint64", "internal/synctest.Disassociate[sync.WaitGroup]", "sync.runtime_Semrelease", "(*sync.WaitGroup).Done", "(*sync.WaitGroup).Wait", "internal/race.Acquire", "internal/synctest.IsAssociated[sync.WaitGroup]", "sync/atomic.CompareAndSwapUint64", "internal/race.Write", "sync.runtime_SemacquireWaitGroup"], unfollowed := true, recurses := true, leaving := true, apart := false }
def FnExactMovesApartSaid : Prop := fnExactMovesApartRow.holds Tryz.pinned (OpenSpec.ofChange fnExactMovesApartSpec)

/-- ITS FALSE NEIGHBOUR: 'it returns false'. Refute it at one input. -/
def fnExactMovesApartWrong : ChangeSpec := { name := "fnExactMovesApart", fn := fun _ => fun
  | [d1, d2] => { results := [.lit (.bool false)], args := [d1, d2] }
  | _ => none }
def FnExactMovesApartWrongFalsely : Prop := fnExactMovesApartRow.holds Tryz.pinned (OpenSpec.ofChange fnExactMovesApartWrong)

/- THE SECOND FORM. 'bulk': how many values and letters a reading holds, each counted each time it is reached (what is shared counts as often as it is met; a slice's spare places count too). A statement '..UptoSaid' is the law's where the arguments, and the package variables that the reading takes, are together of bulk at most 1048576: NARROWER than '..Said'. Prove '..Said' where nothing that the law and all that it calls make is longer than what came in: it says more and counts as full. Else prove '..UptoSaid'. A law counts once. -/
mutual
def uptoBulk {H : Type} : DataW H → Nat
  | .lit (.string bytes) => bytes.length + 1
  | .lit _ => 1
  | .nil => 1
  | .ptr d => uptoBulk d + 1
  | .slice elems spare => uptoBulkAll elems + uptoBulkAll spare + 1
  | .agg parts => uptoBulkAll parts + 1
  | .iface _ d => uptoBulk d + 1
  | .map entries => uptoBulkEntries entries + 1
  | .held _ => 1
def uptoBulkAll {H : Type} : List (DataW H) → Nat
  | [] => 0
  | d :: r => uptoBulk d + uptoBulkAll r
def uptoBulkEntries {H : Type} : List (Lit × DataW H) → Nat
  | [] => 0
  | x :: r => uptoBulkEntry x + uptoBulkEntries r
def uptoBulkEntry {H : Type} : Lit × DataW H → Nat
  | (.string bytes, d) => bytes.length + uptoBulk d + 1
  | (_, d) => uptoBulk d + 1
 end
def uptoSmall : (H : Type) → List (DataW H) → Bool := fun _ ds => decide (uptoBulkAll ds ≤ 1048576)
def OpenSpec.upto (s : _root_.Go.ChangeSpec) : _root_.Go.OpenSpec := { _root_.Go.OpenSpec.ofChange s with cond := some uptoSmall }

/-- 'laws.FnExactThrustSpread', WHERE WHAT IT READS IS OF BULK AT MOST 1048576: true; the input reads as it did. -/
def fnExactThrustSpreadUptoRow : OpenClaim := { program := "ytodneggnnipcnaagreat", sum := "080a2bd0d0597fa25b65d31ff69aa57a3f2ed8ea6baec5faac11e00af6ceb1af", func := "loop.example/g03301/laws.FnExactThrustSpread", spec := "fnExactThrustSpread", inPlace := ["(*sync.WaitGroup).Add", "internal/race.ReleaseMerge", "internal/race.Disable", "internal/race.Enable", "internal/synctest.IsInBubble", "internal/synctest.Associate[sync.WaitGroup]", "sync.fatal", "sync/atomic.OrUint64", "sync/atomic.AddUint64", "internal/race.Read", "sync/atomic.LoadUint64", "sync/atomic.StoreUint64", "internal/synctest.Disassociate[sync.WaitGroup]", "sync.runtime_Semrelease", "(*sync.WaitGroup).Done", "(*sync.WaitGroup).Wait", "internal/race.Acquire", "internal/synctest.IsAssociated[sync.WaitGroup]", "sync/atomic.CompareAndSwapUint64", "internal/race.Write", "sync.runtime_SemacquireWaitGroup"], unfollowed := true, recurses := true, leaving := true, apart := false, narrowed := true }
def FnExactThrustSpreadUptoSaid : Prop := fnExactThrustSpreadUptoRow.holds Tryz.pinned (OpenSpec.upto fnExactThrustSpreadSpec)

/-- 'laws.FnExactSettledThrust', WHERE WHAT IT READS IS OF BULK AT MOST 1048576: true; the input reads as it did. -/
def fnExactSettledThrustUptoRow : OpenClaim := { program := "ytodneggnnipcnaagreat", sum := "080a2bd0d0597fa25b65d31ff69aa57a3f2ed8ea6baec5faac11e00af6ceb1af", func := "loop.example/g03301/laws.FnExactSettledThrust", spec := "fnExactSettledThrust", inPlace := ["(*sync.WaitGroup).Add", "internal/race.ReleaseMerge", "internal/race.Disable", "internal/race.Enable", "internal/synctest.IsInBubble", "internal/synctest.Associate[sync.WaitGroup]", "sync.fatal", "sync/atomic.OrUint64", "sync/atomic.AddUint64", "internal/race.Read", "sync/atomic.LoadUint64", "sync/atomic.StoreUint64", "internal/synctest.Disassociate[sync.WaitGroup]", "sync.runtime_Semrelease", "(*sync.WaitGroup).Done", "(*sync.WaitGroup).Wait", "internal/race.Acquire", "internal/synctest.IsAssociated[sync.WaitGroup]", "sync/atomic.CompareAndSwapUint64", "internal/race.Write", "sync.runtime_SemacquireWaitGroup"], unfollowed := true, recurses := true, leaving := true, apart := false, narrowed := true }
def FnExactSettledThrustUptoSaid : Prop := fnExactSettledThrustUptoRow.holds Tryz.pinned (OpenSpec.upto fnExactSettledThrustSpec)

/-- 'laws.FnExactIsExplained', WHERE WHAT IT READS IS OF BULK AT MOST 1048576: true; the input reads as it did. -/
def fnExactIsExplainedUptoRow : OpenClaim := { program := "ytodneggnnipcnaagreat", sum := "080a2bd0d0597fa25b65d31ff69aa57a3f2ed8ea6baec5faac11e00af6ceb1af", func := "loop.example/g03301/laws.FnExactIsExplained", spec := "fnExactIsExplained", inPlace := ["(*sync.WaitGroup).Add", "internal/race.ReleaseMerge", "internal/race.Disable", "internal/race.Enable", "internal/synctest.IsInBubble", "internal/synctest.Associate[sync.WaitGroup]", "sync.fatal", "sync/atomic.OrUint64", "sync/atomic.AddUint64", "internal/race.Read", "sync/atomic.LoadUint64", "sync/atomic.StoreUint64", "internal/synctest.Disassociate[sync.WaitGroup]", "sync.runtime_Semrelease", "(*sync.WaitGroup).Done", "(*sync.WaitGroup).Wait", "internal/race.Acquire", "internal/synctest.IsAssociated[sync.WaitGroup]", "sync/atomic.CompareAndSwapUint64", "internal/race.Write", "sync.runtime_SemacquireWaitGroup"], unfollowed := true, recurses := true, leaving := true, apart := false, narrowed := true }
def FnExactIsExplainedUptoSaid : Prop := fnExactIsExplainedUptoRow.holds Tryz.pinned (OpenSpec.upto fnExactIsExplainedSpec)

/-- 'laws.FnExactSpanOfArch', WHERE WHAT IT READS IS OF BULK AT MOST 1048576: true; the input reads as it did. -/
def fnExactSpanOfArchUptoRow : OpenClaim := { program := "ytodneggnnipcnaagreat", sum := "080a2bd0d0597fa25b65d31ff69aa57a3f2ed8ea6baec5faac11e00af6ceb1af", func := "loop.example/g03301/laws.FnExactSpanOfArch", spec := "fnExactSpanOfArch", inPlace := ["(*sync.WaitGroup).Add", "internal/race.ReleaseMerge", "internal/race.Disable", "internal/race.Enable", "internal/synctest.IsInBubble", "internal/synctest.Associate[sync.WaitGroup]", "sync.fatal", "sync/atomic.OrUint64", "sync/atomic.AddUint64", "internal/race.Read", "sync/atomic.LoadUint64", "sync/atomic.StoreUint64", "internal/synctest.Disassociate[sync.WaitGroup]", "sync.runtime_Semrelease", "(*sync.WaitGroup).Done", "(*sync.WaitGroup).Wait", "internal/race.Acquire", "internal/synctest.IsAssociated[sync.WaitGroup]", "sync/atomic.CompareAndSwapUint64", "internal/race.Write", "sync.runtime_SemacquireWaitGroup"], unfollowed := true, recurses := true, leaving := true, apart := false, narrowed := true }
def FnExactSpanOfArchUptoSaid : Prop := fnExactSpanOfArchUptoRow.holds Tryz.pinned (OpenSpec.upto fnExactSpanOfArchSpec)

/-- 'laws.FnExactVaultPush', WHERE WHAT IT READS IS OF BULK AT MOST 1048576: true; the input reads as it did. -/
def fnExactVaultPushUptoRow : OpenClaim := { program := "ytodneggnnipcnaagreat", sum := "080a2bd0d0597fa25b65d31ff69aa57a3f2ed8ea6baec5faac11e00af6ceb1af", func := "loop.example/g03301/laws.FnExactVaultPush", spec := "fnExactVaultPush", inPlace := ["(*sync.WaitGroup).Add", "internal/race.ReleaseMerge", "internal/race.Disable", "internal/race.Enable", "internal/synctest.IsInBubble", "internal/synctest.Associate[sync.WaitGroup]", "sync.fatal", "sync/atomic.OrUint64", "sync/atomic.AddUint64", "internal/race.Read", "sync/atomic.LoadUint64", "sync/atomic.StoreUint64", "internal/synctest.Disassociate[sync.WaitGroup]", "sync.runtime_Semrelease", "(*sync.WaitGroup).Done", "(*sync.WaitGroup).Wait", "internal/race.Acquire", "internal/synctest.IsAssociated[sync.WaitGroup]", "sync/atomic.CompareAndSwapUint64", "internal/race.Write", "sync.runtime_SemacquireWaitGroup"], unfollowed := true, recurses := true, leaving := true, apart := false, narrowed := true }
def FnExactVaultPushUptoSaid : Prop := fnExactVaultPushUptoRow.holds Tryz.pinned (OpenSpec.upto fnExactVaultPushSpec)

/-- 'laws.FnExactMovesApart', WHERE WHAT IT READS IS OF BULK AT MOST 1048576: true; the input reads as it did. -/
def fnExactMovesApartUptoRow : OpenClaim := { program := "ytodneggnnipcnaagreat", sum := "080a2bd0d0597fa25b65d31ff69aa57a3f2ed8ea6baec5faac11e00af6ceb1af", func := "loop.example/g03301/laws.FnExactMovesApart", spec := "fnExactMovesApart", inPlace := ["(*sync.WaitGroup).Add", "internal/race.ReleaseMerge", "internal/race.Disable", "internal/race.Enable", "internal/synctest.IsInBubble", "internal/synctest.Associate[sync.WaitGroup]", "sync.fatal", "sync/atomic.OrUint64", "sync/atomic.AddUint64", "internal/race.Read", "sync/atomic.LoadUint64", "sync/atomic.StoreUint64", "internal/synctest.Disassociate[sync.WaitGroup]", "sync.runtime_Semrelease", "(*sync.WaitGroup).Done", "(*sync.WaitGroup).Wait", "internal/race.Acquire", "internal/synctest.IsAssociated[sync.WaitGroup]", "sync/atomic.CompareAndSwapUint64", "internal/race.Write", "sync.runtime_SemacquireWaitGroup"], unfollowed := true, recurses := true, leaving := true, apart := false, narrowed := true }
def FnExactMovesApartUptoSaid : Prop := fnExactMovesApartUptoRow.holds Tryz.pinned (OpenSpec.upto fnExactMovesApartSpec)

end Rows
end Go.Proofs.YtodneggnnipcnaaGreat
