/-
  No cell of these rows narrows 'for every input' (looked for: loops, veiled, ifaces, maps, wideKeys, modest, calm, conditions, laid).
  DERIVED. THE GIVEN ROWS OF THIS SEAT. 12 by the template 'for every input the law returns true; each argument reads behind the call as it read before'; 0 by the template 'total and deterministic' (their statements: YtbpnbhemdbgmjaaGreatTotals.lean).
  GIVEN WITH THE SEED: the statements are not yours to turn. If you find one false, say at which input.
  Laid BY PROGRAM, IN A SANDBOX (cutbox-rows.mjs): the forced cells as the released guide's own fill.sh prints them over the translation eff105c8940e2d37… (all of the seat's roots in one cut). By AI agents, Wed Nov 11 2026. No macro, syntax, notation, axiom, sorry.
-/
import Derived.Test.YtbpnbhemdbgmjaaGreatChecked
import GoSem.Claim
import GoSem.ClaimJoined
import GoSem.ClaimMapViews
import Derived.JoinedTies
import Derived.KernelRfl
namespace Go.Proofs.YtbpnbhemdbgmjaaGreat
/- THE CELL 'sum', in the pinned program and in every row, IS THE sha256 OF THE DUMP (.gsa) THAT YtbpnbhemdbgmjaaGreatProg.lean LOADS. Nothing in Lean hashes anything: it is a label: what it is worth is what the hold of that sum in a sandbox is worth. -/
noncomputable def Tryz.pinned : Pinned := { name := "ytbpnbhemdbgmjaagreat", sum := "eff105c8940e2d3799dcfa0b0fd28a22796b7ec34a687080bf04a661777099dc", checked := Tryz.checked }
namespace Rows
def none {H : Type} : Left H := { results := [], args := [] }

/-- 'laws.FnRanges': WHATEVER THE INPUT: true; the input reads as it did. -/
def fnRangesSpec : ChangeSpec := { name := "fnRanges", fn := fun _ => fun
  | [d] => { results := [.lit (.bool true)], args := [d] }
  | _ => none }
def fnRangesRow : OpenClaim := { program := "ytbpnbhemdbgmjaagreat", sum := "eff105c8940e2d3799dcfa0b0fd28a22796b7ec34a687080bf04a661777099dc", func := "loop.example/g03301/laws.FnRanges", spec := "fnRanges", inPlace := ["(*sync.WaitGroup).Add", "internal/race.ReleaseMerge", "internal/race.Disable", "internal/race.Enable", "internal/synctest.IsInBubble", "internal/synctest.Associate[sync.WaitGroup]", "sync.fatal", "sync/atomic.OrUint64", "sync/atomic.AddUint64", "internal/race.Read", "sync/atomic.LoadUint64", "sync/atomic.StoreUint64", "internal/synctest.Disassociate[sync.WaitGroup]", "sync.runtime_Semrelease", "(*sync.WaitGroup).Done", "(*sync.WaitGroup).Wait", "internal/race.Acquire", "internal/synctest.IsAssociated[sync.WaitGroup]", "sync/atomic.CompareAndSwapUint64", "internal/race.Write", "sync.runtime_SemacquireWaitGroup"], unfollowed := true, recurses := true, leaving := true, apart := false }
def FnRangesSaid : Prop := fnRangesRow.holds Tryz.pinned (OpenSpec.ofChange fnRangesSpec)

/-- ITS FALSE NEIGHBOUR: 'it returns false'. Refute it at one input. -/
def fnRangesWrong : ChangeSpec := { name := "fnRanges", fn := fun _ => fun
  | [d] => { results := [.lit (.bool false)], args := [d] }
  | _ => none }
def FnRangesWrongFalsely : Prop := fnRangesRow.holds Tryz.pinned (OpenSpec.ofChange fnRangesWrong)

/-- 'laws.FnExactIsFreeStanding': WHATEVER THE INPUT: true; the input reads as it did. -/
def fnExactIsFreeStandingSpec : ChangeSpec := { name := "fnExactIsFreeStanding", fn := fun _ => fun
  | [d] => { results := [.lit (.bool true)], args := [d] }
  | _ => none }
def fnExactIsFreeStandingRow : OpenClaim := { program := "ytbpnbhemdbgmjaagreat", sum := "eff105c8940e2d3799dcfa0b0fd28a22796b7ec34a687080bf04a661777099dc", func := "loop.example/g03301/laws.FnExactIsFreeStanding", spec := "fnExactIsFreeStanding", inPlace := ["(*sync.WaitGroup).Add", "internal/race.ReleaseMerge", "internal/race.Disable", "internal/race.Enable", "internal/synctest.IsInBubble", "internal/synctest.Associate[sync.WaitGroup]", "sync.fatal", "sync/atomic.OrUint64", "sync/atomic.AddUint64", "internal/race.Read", "sync/atomic.LoadUint64", "sync/atomic.StoreUint64", "internal/synctest.Disassociate[sync.WaitGroup]", "sync.runtime_Semrelease", "(*sync.WaitGroup).Done", "(*sync.WaitGroup).Wait", "internal/race.Acquire", "internal/synctest.IsAssociated[sync.WaitGroup]", "sync/atomic.CompareAndSwapUint64", "internal/race.Write", "sync.runtime_SemacquireWaitGroup"], unfollowed := true, recurses := true, leaving := true, apart := false }
def FnExactIsFreeStandingSaid : Prop := fnExactIsFreeStandingRow.holds Tryz.pinned (OpenSpec.ofChange fnExactIsFreeStandingSpec)

/-- ITS FALSE NEIGHBOUR: 'it returns false'. Refute it at one input. -/
def fnExactIsFreeStandingWrong : ChangeSpec := { name := "fnExactIsFreeStanding", fn := fun _ => fun
  | [d] => { results := [.lit (.bool false)], args := [d] }
  | _ => none }
def FnExactIsFreeStandingWrongFalsely : Prop := fnExactIsFreeStandingRow.holds Tryz.pinned (OpenSpec.ofChange fnExactIsFreeStandingWrong)

/-- 'laws.FnExactStageStands': WHATEVER THE INPUT: true; the input reads as it did. -/
def fnExactStageStandsSpec : ChangeSpec := { name := "fnExactStageStands", fn := fun _ => fun
  | [d1, d2] => { results := [.lit (.bool true)], args := [d1, d2] }
  | _ => none }
def fnExactStageStandsRow : OpenClaim := { program := "ytbpnbhemdbgmjaagreat", sum := "eff105c8940e2d3799dcfa0b0fd28a22796b7ec34a687080bf04a661777099dc", func := "loop.example/g03301/laws.FnExactStageStands", spec := "fnExactStageStands", inPlace := ["(*sync.WaitGroup).Add", "internal/race.ReleaseMerge", "internal/race.Disable", "internal/race.Enable", "internal/synctest.IsInBubble", "internal/synctest.Associate[sync.WaitGroup]", "sync.fatal", "sync/atomic.OrUint64", "sync/atomic.AddUint64", "internal/race.Read", "sync/atomic.LoadUint64", "sync/atomic.StoreUint64", "internal/synctest.Disassociate[sync.WaitGroup]", "sync.runtime_Semrelease", "(*sync.WaitGroup).Done", "(*sync.WaitGroup).Wait", "internal/race.Acquire", "internal/synctest.IsAssociated[sync.WaitGroup]", "sync/atomic.CompareAndSwapUint64", "internal/race.Write", "sync.runtime_SemacquireWaitGroup"], unfollowed := true, recurses := true, leaving := true, apart := false }
def FnExactStageStandsSaid : Prop := fnExactStageStandsRow.holds Tryz.pinned (OpenSpec.ofChange fnExactStageStandsSpec)

/-- ITS FALSE NEIGHBOUR: 'it returns false'. Refute it at one input. -/
def fnExactStageStandsWrong : ChangeSpec := { name := "fnExactStageStands", fn := fun _ => fun
  | [d1, d2] => { results := [.lit (.bool false)], args := [d1, d2] }
  | _ => none }
def FnExactStageStandsWrongFalsely : Prop := fnExactStageStandsRow.holds Tryz.pinned (OpenSpec.ofChange fnExactStageStandsWrong)

/-- 'laws.FnExactCountStages': WHATEVER THE INPUT: true; the input reads as it did. -/
def fnExactCountStagesSpec : ChangeSpec := { name := "fnExactCountStages", fn := fun _ => fun
  | [d] => { results := [.lit (.bool true)], args := [d] }
  | _ => none }
def fnExactCountStagesRow : OpenClaim := { program := "ytbpnbhemdbgmjaagreat", sum := "eff105c8940e2d3799dcfa0b0fd28a22796b7ec34a687080bf04a661777099dc", func := "loop.example/g03301/laws.FnExactCountStages", spec := "fnExactCountStages", inPlace := ["(*sync.WaitGroup).Add", "internal/race.ReleaseMerge", "internal/race.Disable", "internal/race.Enable", "internal/synctest.IsInBubble", "internal/synctest.Associate[sync.WaitGroup]", "sync.fatal", "sync/atomic.OrUint64", "sync/atomic.AddUint64", "internal/race.Read", "sync/atomic.LoadUint64", "sync/atomic.StoreUint64", "internal/synctest.Disassociate[sync.WaitGroup]", "sync.runtime_Semrelease", "(*sync.WaitGroup).Done", "(*sync.WaitGroup).Wait", "internal/race.Acquire", "internal/synctest.IsAssociated[sync.WaitGroup]", "sync/atomic.CompareAndSwapUint64", "internal/race.Write", "sync.runtime_SemacquireWaitGroup"], unfollowed := true, recurses := true, leaving := true, apart := false }
def FnExactCountStagesSaid : Prop := fnExactCountStagesRow.holds Tryz.pinned (OpenSpec.ofChange fnExactCountStagesSpec)

/-- ITS FALSE NEIGHBOUR: 'it returns false'. Refute it at one input. -/
def fnExactCountStagesWrong : ChangeSpec := { name := "fnExactCountStages", fn := fun _ => fun
  | [d] => { results := [.lit (.bool false)], args := [d] }
  | _ => none }
def FnExactCountStagesWrongFalsely : Prop := fnExactCountStagesRow.holds Tryz.pinned (OpenSpec.ofChange fnExactCountStagesWrong)

/-- 'laws.FnExactIsTrap': WHATEVER THE INPUT: true; the input reads as it did. -/
def fnExactIsTrapSpec : ChangeSpec := { name := "fnExactIsTrap", fn := fun _ => fun
  | [d1, d2] => { results := [.lit (.bool true)], args := [d1, d2] }
  | _ => none }
def fnExactIsTrapRow : OpenClaim := { program := "ytbpnbhemdbgmjaagreat", sum := "eff105c8940e2d3799dcfa0b0fd28a22796b7ec34a687080bf04a661777099dc", func := "loop.example/g03301/laws.FnExactIsTrap", spec := "fnExactIsTrap", inPlace := ["(*sync.WaitGroup).Add", "internal/race.ReleaseMerge", "internal/race.Disable", "internal/race.Enable", "internal/synctest.IsInBubble", "internal/synctest.Associate[sync.WaitGroup]", "sync.fatal", "sync/atomic.OrUint64", "sync/atomic.AddUint64", "internal/race.Read", "sync/atomic.LoadUint64", "sync/atomic.StoreUint64", "internal/synctest.Disassociate[sync.WaitGroup]", "sync.runtime_Semrelease", "(*sync.WaitGroup).Done", "(*sync.WaitGroup).Wait", "internal/race.Acquire", "internal/synctest.IsAssociated[sync.WaitGroup]", "sync/atomic.CompareAndSwapUint64", "internal/race.Write", "sync.runtime_SemacquireWaitGroup"], unfollowed := true, recurses := true, leaving := true, apart := false }
def FnExactIsTrapSaid : Prop := fnExactIsTrapRow.holds Tryz.pinned (OpenSpec.ofChange fnExactIsTrapSpec)

/-- ITS FALSE NEIGHBOUR: 'it returns false'. Refute it at one input. -/
def fnExactIsTrapWrong : ChangeSpec := { name := "fnExactIsTrap", fn := fun _ => fun
  | [d1, d2] => { results := [.lit (.bool false)], args := [d1, d2] }
  | _ => none }
def FnExactIsTrapWrongFalsely : Prop := fnExactIsTrapRow.holds Tryz.pinned (OpenSpec.ofChange fnExactIsTrapWrong)

/-- 'laws.FnCentring': WHATEVER THE INPUT: true; the input reads as it did. -/
def fnCentringSpec : ChangeSpec := { name := "fnCentring", fn := fun _ => fun
  | [d] => { results := [.lit (.bool true)], args := [d] }
  | _ => none }
def fnCentringRow : OpenClaim := { program := "ytbpnbhemdbgmjaagreat", sum := "eff105c8940e2d3799dcfa0b0fd28a22796b7ec34a687080bf04a661777099dc", func := "loop.example/g03301/laws.FnCentring", spec := "fnCentring", inPlace := ["(*sync.WaitGroup).Add", "internal/race.ReleaseMerge", "internal/race.Disable", "internal/race.Enable", "internal/synctest.IsInBubble", "internal/synctest.Associate[sync.WaitGroup]", "sync.fatal", "sync/atomic.OrUint64", "sync/atomic.AddUint64", "internal/race.Read", "sync/atomic.LoadUint64", "sync/atomic.StoreUint64", "internal/synctest.Disassociate[sync.WaitGroup]", "sync.runtime_Semrelease", "(*sync.WaitGroup).Done", "(*sync.WaitGroup).Wait", "internal/race.Acquire", "internal/synctest.IsAssociated[sync.WaitGroup]", "sync/atomic.CompareAndSwapUint64", "internal/race.Write", "sync.runtime_SemacquireWaitGroup"], unfollowed := true, recurses := true, leaving := true, apart := false }
def FnCentringSaid : Prop := fnCentringRow.holds Tryz.pinned (OpenSpec.ofChange fnCentringSpec)

/-- ITS FALSE NEIGHBOUR: 'it returns false'. Refute it at one input. -/
def fnCentringWrong : ChangeSpec := { name := "fnCentring", fn := fun _ => fun
  | [d] => { results := [.lit (.bool false)], args := [d] }
  | _ => none }
def FnCentringWrongFalsely : Prop := fnCentringRow.holds Tryz.pinned (OpenSpec.ofChange fnCentringWrong)

/-- 'laws.FnExactCountStriking': WHATEVER THE INPUT: true; the input reads as it did. -/
def fnExactCountStrikingSpec : ChangeSpec := { name := "fnExactCountStriking", fn := fun _ => fun
  | [d] => { results := [.lit (.bool true)], args := [d] }
  | _ => none }
def fnExactCountStrikingRow : OpenClaim := { program := "ytbpnbhemdbgmjaagreat", sum := "eff105c8940e2d3799dcfa0b0fd28a22796b7ec34a687080bf04a661777099dc", func := "loop.example/g03301/laws.FnExactCountStriking", spec := "fnExactCountStriking", inPlace := ["(*sync.WaitGroup).Add", "internal/race.ReleaseMerge", "internal/race.Disable", "internal/race.Enable", "internal/synctest.IsInBubble", "internal/synctest.Associate[sync.WaitGroup]", "sync.fatal", "sync/atomic.OrUint64", "sync/atomic.AddUint64", "internal/race.Read", "sync/atomic.LoadUint64", "sync/atomic.StoreUint64", "internal/synctest.Disassociate[sync.WaitGroup]", "sync.runtime_Semrelease", "(*sync.WaitGroup).Done", "(*sync.WaitGroup).Wait", "internal/race.Acquire", "internal/synctest.IsAssociated[sync.WaitGroup]", "sync/atomic.CompareAndSwapUint64", "internal/race.Write", "sync.runtime_SemacquireWaitGroup"], unfollowed := true, recurses := true, leaving := true, apart := false }
def FnExactCountStrikingSaid : Prop := fnExactCountStrikingRow.holds Tryz.pinned (OpenSpec.ofChange fnExactCountStrikingSpec)

/-- ITS FALSE NEIGHBOUR: 'it returns false'. Refute it at one input. -/
def fnExactCountStrikingWrong : ChangeSpec := { name := "fnExactCountStriking", fn := fun _ => fun
  | [d] => { results := [.lit (.bool false)], args := [d] }
  | _ => none }
def FnExactCountStrikingWrongFalsely : Prop := fnExactCountStrikingRow.holds Tryz.pinned (OpenSpec.ofChange fnExactCountStrikingWrong)

/-- 'laws.FnExactIsStriking': WHATEVER THE INPUT: true; the input reads as it did. -/
def fnExactIsStrikingSpec : ChangeSpec := { name := "fnExactIsStriking", fn := fun _ => fun
  | [d1, d2] => { results := [.lit (.bool true)], args := [d1, d2] }
  | _ => none }
def fnExactIsStrikingRow : OpenClaim := { program := "ytbpnbhemdbgmjaagreat", sum := "eff105c8940e2d3799dcfa0b0fd28a22796b7ec34a687080bf04a661777099dc", func := "loop.example/g03301/laws.FnExactIsStriking", spec := "fnExactIsStriking", inPlace := ["(*sync.WaitGroup).Add", "internal/race.ReleaseMerge", "internal/race.Disable", "internal/race.Enable", "internal/synctest.IsInBubble", "internal/synctest.Associate[sync.WaitGroup]", "sync.fatal", "sync/atomic.OrUint64", "sync/atomic.AddUint64", "internal/race.Read", "sync/atomic.LoadUint64", "sync/atomic.StoreUint64", "internal/synctest.Disassociate[sync.WaitGroup]", "sync.runtime_Semrelease", "(*sync.WaitGroup).Done", "(*sync.WaitGroup).Wait", "internal/race.Acquire", "internal/synctest.IsAssociated[sync.WaitGroup]", "sync/atomic.CompareAndSwapUint64", "internal/race.Write", "sync.runtime_SemacquireWaitGroup"], unfollowed := true, recurses := true, leaving := true, apart := false }
def FnExactIsStrikingSaid : Prop := fnExactIsStrikingRow.holds Tryz.pinned (OpenSpec.ofChange fnExactIsStrikingSpec)

/-- ITS FALSE NEIGHBOUR: 'it returns false'. Refute it at one input. -/
def fnExactIsStrikingWrong : ChangeSpec := { name := "fnExactIsStriking", fn := fun _ => fun
  | [d1, d2] => { results := [.lit (.bool false)], args := [d1, d2] }
  | _ => none }
def FnExactIsStrikingWrongFalsely : Prop := fnExactIsStrikingRow.holds Tryz.pinned (OpenSpec.ofChange fnExactIsStrikingWrong)

/-- 'laws.FnExactSafeNext': WHATEVER THE INPUT: true; the input reads as it did. -/
def fnExactSafeNextSpec : ChangeSpec := { name := "fnExactSafeNext", fn := fun _ => fun
  | [d1, d2] => { results := [.lit (.bool true)], args := [d1, d2] }
  | _ => none }
def fnExactSafeNextRow : OpenClaim := { program := "ytbpnbhemdbgmjaagreat", sum := "eff105c8940e2d3799dcfa0b0fd28a22796b7ec34a687080bf04a661777099dc", func := "loop.example/g03301/laws.FnExactSafeNext", spec := "fnExactSafeNext", inPlace := ["(*sync.WaitGroup).Add", "internal/race.ReleaseMerge", "internal/race.Disable", "internal/race.Enable", "internal/synctest.IsInBubble", "internal/synctest.Associate[sync.WaitGroup]", "sync.fatal", "sync/atomic.OrUint64", "sync/atomic.AddUint64", "internal/race.Read", "sync/atomic.LoadUint64", "sync/atomic.StoreUint64", "internal/synctest.Disassociate[sync.WaitGroup]", "sync.runtime_Semrelease", "(*sync.WaitGroup).Done", "(*sync.WaitGroup).Wait", "internal/race.Acquire", "internal/synctest.IsAssociated[sync.WaitGroup]", "sync/atomic.CompareAndSwapUint64", "internal/race.Write", "sync.runtime_SemacquireWaitGroup"], unfollowed := true, recurses := true, leaving := true, apart := false }
def FnExactSafeNextSaid : Prop := fnExactSafeNextRow.holds Tryz.pinned (OpenSpec.ofChange fnExactSafeNextSpec)

/-- ITS FALSE NEIGHBOUR: 'it returns false'. Refute it at one input. -/
def fnExactSafeNextWrong : ChangeSpec := { name := "fnExactSafeNext", fn := fun _ => fun
  | [d1, d2] => { results := [.lit (.bool false)], args := [d1, d2] }
  | _ => none }
def FnExactSafeNextWrongFalsely : Prop := fnExactSafeNextRow.holds Tryz.pinned (OpenSpec.ofChange fnExactSafeNextWrong)

/-- 'laws.FnExactIsUniqueThrust': WHATEVER THE INPUT: true; the input reads as it did. -/
def fnExactIsUniqueThrustSpec : ChangeSpec := { name := "fnExactIsUniqueThrust", fn := fun _ => fun
  | [d1, d2] => { results := [.lit (.bool true)], args := [d1, d2] }
  | _ => none }
def fnExactIsUniqueThrustRow : OpenClaim := { program := "ytbpnbhemdbgmjaagreat", sum := "eff105c8940e2d3799dcfa0b0fd28a22796b7ec34a687080bf04a661777099dc", func := "loop.example/g03301/laws.FnExactIsUniqueThrust", spec := "fnExactIsUniqueThrust", inPlace := ["(*sync.WaitGroup).Add", "internal/race.ReleaseMerge", "internal/race.Disable", "internal/race.Enable", "internal/synctest.IsInBubble", "internal/synctest.Associate[sync.WaitGroup]", "sync.fatal", "sync/atomic.OrUint64", "sync/atomic.AddUint64", "internal/race.Read", "sync/atomic.LoadUint64", "sync/atomic.StoreUint64", "internal/synctest.Disassociate[sync.WaitGroup]", "sync.runtime_Semrelease", "(*sync.WaitGroup).Done", "(*sync.WaitGroup).Wait", "internal/race.Acquire", "internal/synctest.IsAssociated[sync.WaitGroup]", "sync/atomic.CompareAndSwapUint64", "internal/race.Write", "sync.runtime_SemacquireWaitGroup"], unfollowed := true, recurses := true, leaving := true, apart := false }
def FnExactIsUniqueThrustSaid : Prop := fnExactIsUniqueThrustRow.holds Tryz.pinned (OpenSpec.ofChange fnExactIsUniqueThrustSpec)

/-- ITS FALSE NEIGHBOUR: 'it returns false'. Refute it at one input. -/
def fnExactIsUniqueThrustWrong : ChangeSpec := { name := "fnExactIsUniqueThrust", fn := fun _ => fun
  | [d1, d2] => { results := [.lit (.bool false)], args := [d1, d2] }
  | _ => none }
def FnExactIsUniqueThrustWrongFalsely : Prop := fnExactIsUniqueThrustRow.holds Tryz.pinned (OpenSpec.ofChange fnExactIsUniqueThrustWrong)

/-- 'laws.FnExactFindStriking': WHATEVER THE INPUT: true; the input reads as it did. -/
def fnExactFindStrikingSpec : ChangeSpec := { name := "fnExactFindStriking", fn := fun _ => fun
  | [d] => { results := [.lit (.bool true)], args := [d] }
  | _ => none }
def fnExactFindStrikingRow : OpenClaim := { program := "ytbpnbhemdbgmjaagreat", sum := "eff105c8940e2d3799dcfa0b0fd28a22796b7ec34a687080bf04a661777099dc", func := "loop.example/g03301/laws.FnExactFindStriking", spec := "fnExactFindStriking", inPlace := ["(*sync.WaitGroup).Add", "internal/race.ReleaseMerge", "internal/race.Disable", "internal/race.Enable", "internal/synctest.IsInBubble", "internal/synctest.Associate[sync.WaitGroup]", "sync.fatal", "sync/atomic.OrUint64", "sync/atomic.AddUint64", "internal/race.Read", "sync/atomic.LoadUint64", "sync/atomic.StoreUint64", "internal/synctest.Disassociate[sync.WaitGroup]", "sync.runtime_Semrelease", "(*sync.WaitGroup).Done", "(*sync.WaitGroup).Wait", "internal/race.Acquire", "internal/synctest.IsAssociated[sync.WaitGroup]", "sync/atomic.CompareAndSwapUint64", "internal/race.Write", "sync.runtime_SemacquireWaitGroup"], unfollowed := true, recurses := true, leaving := true, apart := false }
def FnExactFindStrikingSaid : Prop := fnExactFindStrikingRow.holds Tryz.pinned (OpenSpec.ofChange fnExactFindStrikingSpec)

/-- ITS FALSE NEIGHBOUR: 'it returns false'. Refute it at one input. -/
def fnExactFindStrikingWrong : ChangeSpec := { name := "fnExactFindStriking", fn := fun _ => fun
  | [d] => { results := [.lit (.bool false)], args := [d] }
  | _ => none }
def FnExactFindStrikingWrongFalsely : Prop := fnExactFindStrikingRow.holds Tryz.pinned (OpenSpec.ofChange fnExactFindStrikingWrong)

/-- 'laws.FnExactGreatestThrust': WHATEVER THE INPUT: true; the input reads as it did. -/
def fnExactGreatestThrustSpec : ChangeSpec := { name := "fnExactGreatestThrust", fn := fun _ => fun
  | [d1, d2] => { results := [.lit (.bool true)], args := [d1, d2] }
  | _ => none }
def fnExactGreatestThrustRow : OpenClaim := { program := "ytbpnbhemdbgmjaagreat", sum := "eff105c8940e2d3799dcfa0b0fd28a22796b7ec34a687080bf04a661777099dc", func := "loop.example/g03301/laws.FnExactGreatestThrust", spec := "fnExactGreatestThrust", inPlace := ["(*sync.WaitGroup).Add", "internal/race.ReleaseMerge", "internal/race.Disable", "internal/race.Enable", "internal/synctest.IsInBubble", "internal/synctest.Associate[sync.WaitGroup]", "sync.fatal", "sync/atomic.OrUint64", "sync/atomic.AddUint64", "internal/race.Read", "sync/atomic.LoadUint64", "sync/atomic.StoreUint64", "internal/synctest.Disassociate[sync.WaitGroup]", "sync.runtime_Semrelease", "(*sync.WaitGroup).Done", "(*sync.WaitGroup).Wait", "internal/race.Acquire", "internal/synctest.IsAssociated[sync.WaitGroup]", "sync/atomic.CompareAndSwapUint64", "internal/race.Write", "sync.runtime_SemacquireWaitGroup"], unfollowed := true, recurses := true, leaving := true, apart := false }
def FnExactGreatestThrustSaid : Prop := fnExactGreatestThrustRow.holds Tryz.pinned (OpenSpec.ofChange fnExactGreatestThrustSpec)

/-- ITS FALSE NEIGHBOUR: 'it returns false'. Refute it at one input. -/
def fnExactGreatestThrustWrong : ChangeSpec := { name := "fnExactGreatestThrust", fn := fun _ => fun
  | [d1, d2] => { results := [.lit (.bool false)], args := [d1, d2] }
  | _ => none }
def FnExactGreatestThrustWrongFalsely : Prop := fnExactGreatestThrustRow.holds Tryz.pinned (OpenSpec.ofChange fnExactGreatestThrustWrong)

/- THE SECOND FORM. 'bulk': how many values and letters a reading holds, each counted each time it is reached (what is shared counts as often as it is met; a slice's spare places count too). A statement '..UptoSaid' is the law's where the arguments, and the package variables that the reading takes, are together of bulk at most 1048576: NARROWER than '..Said'. Prove '..Said' where nothing that the law and all that it calls make is longer than what came in: it says more and counts as full. Else prove '..UptoSaid'. A law counts once. -/
mutual
def uptoBulk {H : Type} : DataW H → Nat
  | .lit (.string bytes) => bytes.length + 1
  | .lit _ => 1
  | .nil => 1
  | .ptr d => uptoBulk d + 1
  | .slice elems spare => uptoBulkAll elems + uptoBulkAll spare + 1
  | .agg parts => uptoBulkAll parts + 1
  | .iface _ d => uptoBulk d + 1
  | .map entries => uptoBulkEntries entries + 1
  | .held _ => 1
def uptoBulkAll {H : Type} : List (DataW H) → Nat
  | [] => 0
  | d :: r => uptoBulk d + uptoBulkAll r
def uptoBulkEntries {H : Type} : List (Lit × DataW H) → Nat
  | [] => 0
  | x :: r => uptoBulkEntry x + uptoBulkEntries r
def uptoBulkEntry {H : Type} : Lit × DataW H → Nat
  | (.string bytes, d) => bytes.length + uptoBulk d + 1
  | (_, d) => uptoBulk d + 1
 end
def uptoSmall : (H : Type) → List (DataW H) → Bool := fun _ ds => decide (uptoBulkAll ds ≤ 1048576)
def OpenSpec.upto (s : _root_.Go.ChangeSpec) : _root_.Go.OpenSpec := { _root_.Go.OpenSpec.ofChange s with cond := some uptoSmall }

/-- 'laws.FnRanges', WHERE WHAT IT READS IS OF BULK AT MOST 1048576: true; the input reads as it did. -/
def fnRangesUptoRow : OpenClaim := { program := "ytbpnbhemdbgmjaagreat", sum := "eff105c8940e2d3799dcfa0b0fd28a22796b7ec34a687080bf04a661777099dc", func := "loop.example/g03301/laws.FnRanges", spec := "fnRanges", inPlace := ["(*sync.WaitGroup).Add", "internal/race.ReleaseMerge", "internal/race.Disable", "internal/race.Enable", "internal/synctest.IsInBubble", "internal/synctest.Associate[sync.WaitGroup]", "sync.fatal", "sync/atomic.OrUint64", "sync/atomic.AddUint64", "internal/race.Read", "sync/atomic.LoadUint64", "sync/atomic.StoreUint64", "internal/synctest.Disassociate[sync.WaitGroup]", "sync.runtime_Semrelease", "(*sync.WaitGroup).Done", "(*sync.WaitGroup).Wait", "internal/race.Acquire", "internal/synctest.IsAssociated[sync.WaitGroup]", "sync/atomic.CompareAndSwapUint64", "internal/race.Write", "sync.runtime_SemacquireWaitGroup"], unfollowed := true, recurses := true, leaving := true, apart := false, narrowed := true }
def FnRangesUptoSaid : Prop := fnRangesUptoRow.holds Tryz.pinned (OpenSpec.upto fnRangesSpec)

/-- 'laws.FnExactIsFreeStanding', WHERE WHAT IT READS IS OF BULK AT MOST 1048576: true; the input reads as it did. -/
def fnExactIsFreeStandingUptoRow : OpenClaim := { program := "ytbpnbhemdbgmjaagreat", sum := "eff105c8940e2d3799dcfa0b0fd28a22796b7ec34a687080bf04a661777099dc", func := "loop.example/g03301/laws.FnExactIsFreeStanding", spec := "fnExactIsFreeStanding", inPlace := ["(*sync.WaitGroup).Add", "internal/race.ReleaseMerge", "internal/race.Disable", "internal/race.Enable", "internal/synctest.IsInBubble", "internal/synctest.Associate[sync.WaitGroup]", "sync.fatal", "sync/atomic.OrUint64", "sync/atomic.AddUint64", "internal/race.Read", "sync/atomic.LoadUint64", "sync/atomic.StoreUint64", "internal/synctest.Disassociate[sync.WaitGroup]", "sync.runtime_Semrelease", "(*sync.WaitGroup).Done", "(*sync.WaitGroup).Wait", "internal/race.Acquire", "internal/synctest.IsAssociated[sync.WaitGroup]", "sync/atomic.CompareAndSwapUint64", "internal/race.Write", "sync.runtime_SemacquireWaitGroup"], unfollowed := true, recurses := true, leaving := true, apart := false, narrowed := true }
def FnExactIsFreeStandingUptoSaid : Prop := fnExactIsFreeStandingUptoRow.holds Tryz.pinned (OpenSpec.upto fnExactIsFreeStandingSpec)

/-- 'laws.FnExactStageStands', WHERE WHAT IT READS IS OF BULK AT MOST 1048576: true; the input reads as it did. -/
def fnExactStageStandsUptoRow : OpenClaim := { program := "ytbpnbhemdbgmjaagreat", sum := "eff105c8940e2d3799dcfa0b0fd28a22796b7ec34a687080bf04a661777099dc", func := "loop.example/g03301/laws.FnExactStageStands", spec := "fnExactStageStands", inPlace := ["(*sync.WaitGroup).Add", "internal/race.ReleaseMerge", "internal/race.Disable", "internal/race.Enable", "internal/synctest.IsInBubble", "internal/synctest.Associate[sync.WaitGroup]", "sync.fatal", "sync/atomic.OrUint64", "sync/atomic.AddUint64", "internal/race.Read", "sync/atomic.LoadUint64", "sync/atomic.StoreUint64", "internal/synctest.Disassociate[sync.WaitGroup]", "sync.runtime_Semrelease", "(*sync.WaitGroup).Done", "(*sync.WaitGroup).Wait", "internal/race.Acquire", "internal/synctest.IsAssociated[sync.WaitGroup]", "sync/atomic.CompareAndSwapUint64", "internal/race.Write", "sync.runtime_SemacquireWaitGroup"], unfollowed := true, recurses := true, leaving := true, apart := false, narrowed := true }
def FnExactStageStandsUptoSaid : Prop := fnExactStageStandsUptoRow.holds Tryz.pinned (OpenSpec.upto fnExactStageStandsSpec)

/-- 'laws.FnExactCountStages', WHERE WHAT IT READS IS OF BULK AT MOST 1048576: true; the input reads as it did. -/
def fnExactCountStagesUptoRow : OpenClaim := { program := "ytbpnbhemdbgmjaagreat", sum := "eff105c8940e2d3799dcfa0b0fd28a22796b7ec34a687080bf04a661777099dc", func := "loop.example/g03301/laws.FnExactCountStages", spec := "fnExactCountStages", inPlace := ["(*sync.WaitGroup).Add", "internal/race.ReleaseMerge", "internal/race.Disable", "internal/race.Enable", "internal/synctest.IsInBubble", "internal/synctest.Associate[sync.WaitGroup]", "sync.fatal", "sync/atomic.OrUint64", "sync/atomic.AddUint64", "internal/race.Read", "sync/atomic.LoadUint64", "sync/atomic.StoreUint64", "internal/synctest.Disassociate[sync.WaitGroup]", "sync.runtime_Semrelease", "(*sync.WaitGroup).Done", "(*sync.WaitGroup).Wait", "internal/race.Acquire", "internal/synctest.IsAssociated[sync.WaitGroup]", "sync/atomic.CompareAndSwapUint64", "internal/race.Write", "sync.runtime_SemacquireWaitGroup"], unfollowed := true, recurses := true, leaving := true, apart := false, narrowed := true }
def FnExactCountStagesUptoSaid : Prop := fnExactCountStagesUptoRow.holds Tryz.pinned (OpenSpec.upto fnExactCountStagesSpec)

/-- 'laws.FnExactIsTrap', WHERE WHAT IT READS IS OF BULK AT MOST 1048576: true; the input reads as it did. -/
def fnExactIsTrapUptoRow : OpenClaim := { program := "ytbpnbhemdbgmjaagreat", sum := "eff105c8940e2d3799dcfa0b0fd28a22796b7ec34a687080bf04a661777099dc", func := "loop.example/g03301/laws.FnExactIsTrap", spec := "fnExactIsTrap", inPlace := ["(*sync.WaitGroup).Add", "internal/race.ReleaseMerge", "internal/race.Disable", "internal/race.Enable", "internal/synctest.IsInBubble", "internal/synctest.Associate[sync.WaitGroup]", "sync.fatal", "sync/atomic.OrUint64", "sync/atomic.AddUint64", "internal/race.Read", "sync/atomic.LoadUint64", "sync/atomic.StoreUint64", "internal/synctest.Disassociate[sync.WaitGroup]", "sync.runtime_Semrelease", "(*sync.WaitGroup).Done", "(*sync.WaitGroup).Wait", "internal/race.Acquire", "internal/synctest.IsAssociated[sync.WaitGroup]", "sync/atomic.CompareAndSwapUint64", "internal/race.Write", "sync.runtime_SemacquireWaitGroup"], unfollowed := true, recurses := true, leaving := true, apart := false, narrowed := true }
def FnExactIsTrapUptoSaid : Prop := fnExactIsTrapUptoRow.holds Tryz.pinned (OpenSpec.upto fnExactIsTrapSpec)

/-- 'laws.FnCentring', WHERE WHAT IT READS IS OF BULK AT MOST 1048576: true; the input reads as it did. -/
def fnCentringUptoRow : OpenClaim := { program := "ytbpnbhemdbgmjaagreat", sum := "eff105c8940e2d3799dcfa0b0fd28a22796b7ec34a687080bf04a661777099dc", func := "loop.example/g03301/laws.FnCentring", spec := "fnCentring", inPlace := ["(*sync.WaitGroup).Add", "internal/race.ReleaseMerge", "internal/race.Disable", "internal/race.Enable", "internal/synctest.IsInBubble", "internal/synctest.Associate[sync.WaitGroup]", "sync.fatal", "sync/atomic.OrUint64", "sync/atomic.AddUint64", "internal/race.Read", "sync/atomic.LoadUint64", "sync/atomic.StoreUint64", "internal/synctest.Disassociate[sync.WaitGroup]", "sync.runtime_Semrelease", "(*sync.WaitGroup).Done", "(*sync.WaitGroup).Wait", "internal/race.Acquire", "internal/synctest.IsAssociated[sync.WaitGroup]", "sync/atomic.CompareAndSwapUint64", "internal/race.Write", "sync.runtime_SemacquireWaitGroup"], unfollowed := true, recurses := true, leaving := true, apart := false, narrowed := true }
def FnCentringUptoSaid : Prop := fnCentringUptoRow.holds Tryz.pinned (OpenSpec.upto fnCentringSpec)

/-- 'laws.FnExactCountStriking', WHERE WHAT IT READS IS OF BULK AT MOST 1048576: true; the input reads as it did. -/
def fnExactCountStrikingUptoRow : OpenClaim := { program := "ytbpnbhemdbgmjaagreat", sum := "eff105c8940e2d3799dcfa0b0fd28a22796b7ec34a687080bf04a661777099dc", func := "loop.example/g03301/laws.FnExactCountStriking", spec := "fnExactCountStriking", inPlace := ["(*sync.WaitGroup).Add", "internal/race.ReleaseMerge", "internal/race.Disable", "internal/race.Enable", "internal/synctest.IsInBubble", "internal/synctest.Associate[sync.WaitGroup]", "sync.fatal", "sync/atomic.OrUint64", "sync/atomic.AddUint64", "internal/race.Read", "sync/atomic.LoadUint64", "sync/atomic.StoreUint64", "internal/synctest.Disassociate[sync.WaitGroup]", "sync.runtime_Semrelease", "(*sync.WaitGroup).Done", "(*sync.WaitGroup).Wait", "internal/race.Acquire", "internal/synctest.IsAssociated[sync.WaitGroup]", "sync/atomic.CompareAndSwapUint64", "internal/race.Write", "sync.runtime_SemacquireWaitGroup"], unfollowed := true, recurses := true, leaving := true, apart := false, narrowed := true }
def FnExactCountStrikingUptoSaid : Prop := fnExactCountStrikingUptoRow.holds Tryz.pinned (OpenSpec.upto fnExactCountStrikingSpec)

/-- 'laws.FnExactIsStriking', WHERE WHAT IT READS IS OF BULK AT MOST 1048576: true; the input reads as it did. -/
def fnExactIsStrikingUptoRow : OpenClaim := { program := "ytbpnbhemdbgmjaagreat", sum := "eff105c8940e2d3799dcfa0b0fd28a22796b7ec34a687080bf04a661777099dc", func := "loop.example/g03301/laws.FnExactIsStriking", spec := "fnExactIsStriking", inPlace := ["(*sync.WaitGroup).Add", "internal/race.ReleaseMerge", "internal/race.Disable", "internal/race.Enable", "internal/synctest.IsInBubble", "internal/synctest.Associate[sync.WaitGroup]", "sync.fatal", "sync/atomic.OrUint64", "sync/atomic.AddUint64", "internal/race.Read", "sync/atomic.LoadUint64", "sync/atomic.StoreUint64", "internal/synctest.Disassociate[sync.WaitGroup]", "sync.runtime_Semrelease", "(*sync.WaitGroup).Done", "(*sync.WaitGroup).Wait", "internal/race.Acquire", "internal/synctest.IsAssociated[sync.WaitGroup]", "sync/atomic.CompareAndSwapUint64", "internal/race.Write", "sync.runtime_SemacquireWaitGroup"], unfollowed := true, recurses := true, leaving := true, apart := false, narrowed := true }
def FnExactIsStrikingUptoSaid : Prop := fnExactIsStrikingUptoRow.holds Tryz.pinned (OpenSpec.upto fnExactIsStrikingSpec)

/-- 'laws.FnExactSafeNext', WHERE WHAT IT READS IS OF BULK AT MOST 1048576: true; the input reads as it did. -/
def fnExactSafeNextUptoRow : OpenClaim := { program := "ytbpnbhemdbgmjaagreat", sum := "eff105c8940e2d3799dcfa0b0fd28a22796b7ec34a687080bf04a661777099dc", func := "loop.example/g03301/laws.FnExactSafeNext", spec := "fnExactSafeNext", inPlace := ["(*sync.WaitGroup).Add", "internal/race.ReleaseMerge", "internal/race.Disable", "internal/race.Enable", "internal/synctest.IsInBubble", "internal/synctest.Associate[sync.WaitGroup]", "sync.fatal", "sync/atomic.OrUint64", "sync/atomic.AddUint64", "internal/race.Read", "sync/atomic.LoadUint64", "sync/atomic.StoreUint64", "internal/synctest.Disassociate[sync.WaitGroup]", "sync.runtime_Semrelease", "(*sync.WaitGroup).Done", "(*sync.WaitGroup).Wait", "internal/race.Acquire", "internal/synctest.IsAssociated[sync.WaitGroup]", "sync/atomic.CompareAndSwapUint64", "internal/race.Write", "sync.runtime_SemacquireWaitGroup"], unfollowed := true, recurses := true, leaving := true, apart := false, narrowed := true }
def FnExactSafeNextUptoSaid : Prop := fnExactSafeNextUptoRow.holds Tryz.pinned (OpenSpec.upto fnExactSafeNextSpec)

/-- 'laws.FnExactIsUniqueThrust', WHERE WHAT IT READS IS OF BULK AT MOST 1048576: true; the input reads as it did. -/
def fnExactIsUniqueThrustUptoRow : OpenClaim := { program := "ytbpnbhemdbgmjaagreat", sum := "eff105c8940e2d3799dcfa0b0fd28a22796b7ec34a687080bf04a661777099dc", func := "loop.example/g03301/laws.FnExactIsUniqueThrust", spec := "fnExactIsUniqueThrust", inPlace := ["(*sync.WaitGroup).Add", "internal/race.ReleaseMerge", "internal/race.Disable", "internal/race.Enable", "internal/synctest.IsInBubble", "internal/synctest.Associate[sync.WaitGroup]", "sync.fatal", "sync/atomic.OrUint64", "sync/atomic.AddUint64", "internal/race.Read", "sync/atomic.LoadUint64", "sync/atomic.StoreUint64", "internal/synctest.Disassociate[sync.WaitGroup]", "sync.runtime_Semrelease", "(*sync.WaitGroup).Done", "(*sync.WaitGroup).Wait", "internal/race.Acquire", "internal/synctest.IsAssociated[sync.WaitGroup]", "sync/atomic.CompareAndSwapUint64", "internal/race.Write", "sync.runtime_SemacquireWaitGroup"], unfollowed := true, recurses := true, leaving := true, apart := false, narrowed := true }
def FnExactIsUniqueThrustUptoSaid : Prop := fnExactIsUniqueThrustUptoRow.holds Tryz.pinned (OpenSpec.upto fnExactIsUniqueThrustSpec)

/-- 'laws.FnExactFindStriking', WHERE WHAT IT READS IS OF BULK AT MOST 1048576: true; the input reads as it did. -/
def fnExactFindStrikingUptoRow : OpenClaim := { program := "ytbpnbhemdbgmjaagreat", sum := "eff105c8940e2d3799dcfa0b0fd28a22796b7ec34a687080bf04a661777099dc", func := "loop.example/g03301/laws.FnExactFindStriking", spec := "fnExactFindStriking", inPlace := ["(*sync.WaitGroup).Add", "internal/race.ReleaseMerge", "internal/race.Disable", "internal/race.Enable", "internal/synctest.IsInBubble", "internal/synctest.Associate[sync.WaitGroup]", "sync.fatal", "sync/atomic.OrUint64", "sync/atomic.AddUint64", "internal/race.Read", "sync/atomic.LoadUint64", "sync/atomic.StoreUint64", "internal/synctest.Disassociate[sync.WaitGroup]", "sync.runtime_Semrelease", "(*sync.WaitGroup).Done", "(*sync.WaitGroup).Wait", "internal/race.Acquire", "internal/synctest.IsAssociated[sync.WaitGroup]", "sync/atomic.CompareAndSwapUint64", "internal/race.Write", "sync.runtime_SemacquireWaitGroup"], unfollowed := true, recurses := true, leaving := true, apart := false, narrowed := true }
def FnExactFindStrikingUptoSaid : Prop := fnExactFindStrikingUptoRow.holds Tryz.pinned (OpenSpec.upto fnExactFindStrikingSpec)

/-- 'laws.FnExactGreatestThrust', WHERE WHAT IT READS IS OF BULK AT MOST 1048576: true; the input reads as it did. -/
def fnExactGreatestThrustUptoRow : OpenClaim := { program := "ytbpnbhemdbgmjaagreat", sum := "eff105c8940e2d3799dcfa0b0fd28a22796b7ec34a687080bf04a661777099dc", func := "loop.example/g03301/laws.FnExactGreatestThrust", spec := "fnExactGreatestThrust", inPlace := ["(*sync.WaitGroup).Add", "internal/race.ReleaseMerge", "internal/race.Disable", "internal/race.Enable", "internal/synctest.IsInBubble", "internal/synctest.Associate[sync.WaitGroup]", "sync.fatal", "sync/atomic.OrUint64", "sync/atomic.AddUint64", "internal/race.Read", "sync/atomic.LoadUint64", "sync/atomic.StoreUint64", "internal/synctest.Disassociate[sync.WaitGroup]", "sync.runtime_Semrelease", "(*sync.WaitGroup).Done", "(*sync.WaitGroup).Wait", "internal/race.Acquire", "internal/synctest.IsAssociated[sync.WaitGroup]", "sync/atomic.CompareAndSwapUint64", "internal/race.Write", "sync.runtime_SemacquireWaitGroup"], unfollowed := true, recurses := true, leaving := true, apart := false, narrowed := true }
def FnExactGreatestThrustUptoSaid : Prop := fnExactGreatestThrustUptoRow.holds Tryz.pinned (OpenSpec.upto fnExactGreatestThrustSpec)

end Rows
end Go.Proofs.YtbpnbhemdbgmjaaGreat
