/-
  NARROWER THAN 'FOR EVERY INPUT', by the rows' own cells (each row's printed sentence says how): FnExactLeastArm: ifaces, laid · FnExactCanLift: ifaces, laid · FnLifts: ifaces, laid.
  DERIVED. THE GIVEN ROWS OF THIS SEAT. 3 by the template 'for every input the law returns true; each argument reads behind the call as it read before'; 0 by the template 'total and deterministic' (their statements: YtplabaneihjcoaaDoorTotals.lean).
  GIVEN WITH THE SEED: the statements are not yours to turn. If you find one false, say at which input.
  Laid BY PROGRAM, IN A SANDBOX (cutbox-rows.mjs): the forced cells as the released guide's own fill.sh prints them over the translation ab166a51f8b330c2… (all of the seat's roots in one cut). By AI agents, Wed Nov 11 2026. No macro, syntax, notation, axiom, sorry.
-/
import Derived.Test.YtplabaneihjcoaaDoorChecked
import GoSem.Claim
import GoSem.ClaimJoined
import GoSem.ClaimMapViews
import Derived.JoinedTies
import Derived.KernelRfl
namespace Go.Proofs.YtplabaneihjcoaaDoor
/- THE CELL 'sum', in the pinned program and in every row, IS THE sha256 OF THE DUMP (.gsa) THAT YtplabaneihjcoaaDoorProg.lean LOADS. Nothing in Lean hashes anything: it is a label: what it is worth is what the hold of that sum in a sandbox is worth. -/
noncomputable def Tryd.pinned : Pinned := { name := "ytplabaneihjcoaadoor", sum := "ab166a51f8b330c2484653afe8f10c11b3de82b6d27cff91c85f74cd2ff33278", checked := Tryd.checked }
namespace Rows
def none {H : Type} : Left H := { results := [], args := [] }

/- WHAT THE LISTED PACKAGE-LEVEL VARIABLES READ AS WHEN THE CALL BEGINS. Each datum BY PROGRAM (the guide's laid-datum.mjs) off the statement by which the dump's own 'gosem.cut.vars' lays the variable. In a bare row this is a premise. The card (YtplabaneihjcoaaDoorCards.lean) ties it to the program's text. -/
def laid_loop_example_g03301_impl_errTooHeavy {H : Type} : DataW H := .iface "*errors.errorString" (.ptr (.agg [.lit (.string [116, 111, 111, 32, 104, 101, 97, 118, 121])]))

/-- 'laws.FnExactLeastArm': WHATEVER THE INPUT: true; the input reads as it did. -/
def fnExactLeastArmSpec : ChangeSpec := { name := "fnExactLeastArm", vars := ["loop.example/g03301/impl.errTooHeavy"], fn := fun _ => fun
  | [d1, d2, d3, g1] => { results := [.lit (.bool true)], args := [d1, d2, d3], vars := [g1] }
  | _ => none }
def fnExactLeastArmRow : OpenClaim := { program := "ytplabaneihjcoaadoor", sum := "ab166a51f8b330c2484653afe8f10c11b3de82b6d27cff91c85f74cd2ff33278", func := "loop.example/g03301/laws.FnExactLeastArm", spec := "fnExactLeastArm", named := ["loop.example/g03301/impl.errTooHeavy"], ifaces := true, apart := false, laid := [("loop.example/g03301/impl.errTooHeavy", laid_loop_example_g03301_impl_errTooHeavy)] }
def FnExactLeastArmSaid : Prop := fnExactLeastArmRow.holds Tryd.pinned (OpenSpec.ofChange fnExactLeastArmSpec)

/-- ITS FALSE NEIGHBOUR: 'it returns false'. Refute it at one input. -/
def fnExactLeastArmWrong : ChangeSpec := { name := "fnExactLeastArm", vars := ["loop.example/g03301/impl.errTooHeavy"], fn := fun _ => fun
  | [d1, d2, d3, g1] => { results := [.lit (.bool false)], args := [d1, d2, d3], vars := [g1] }
  | _ => none }
def FnExactLeastArmWrongFalsely : Prop := fnExactLeastArmRow.holds Tryd.pinned (OpenSpec.ofChange fnExactLeastArmWrong)

/-- 'laws.FnExactCanLift': WHATEVER THE INPUT: true; the input reads as it did. -/
def fnExactCanLiftSpec : ChangeSpec := { name := "fnExactCanLift", vars := ["loop.example/g03301/impl.errTooHeavy"], fn := fun _ => fun
  | [d1, d2, g1] => { results := [.lit (.bool true)], args := [d1, d2], vars := [g1] }
  | _ => none }
def fnExactCanLiftRow : OpenClaim := { program := "ytplabaneihjcoaadoor", sum := "ab166a51f8b330c2484653afe8f10c11b3de82b6d27cff91c85f74cd2ff33278", func := "loop.example/g03301/laws.FnExactCanLift", spec := "fnExactCanLift", inPlace := ["internal/reflectlite.TypeOf"], unfollowed := true, recurses := true, named := ["loop.example/g03301/impl.errTooHeavy"], ifaces := true, apart := false, laid := [("loop.example/g03301/impl.errTooHeavy", laid_loop_example_g03301_impl_errTooHeavy)] }
def FnExactCanLiftSaid : Prop := fnExactCanLiftRow.holds Tryd.pinned (OpenSpec.ofChange fnExactCanLiftSpec)

/-- ITS FALSE NEIGHBOUR: 'it returns false'. Refute it at one input. -/
def fnExactCanLiftWrong : ChangeSpec := { name := "fnExactCanLift", vars := ["loop.example/g03301/impl.errTooHeavy"], fn := fun _ => fun
  | [d1, d2, g1] => { results := [.lit (.bool false)], args := [d1, d2], vars := [g1] }
  | _ => none }
def FnExactCanLiftWrongFalsely : Prop := fnExactCanLiftRow.holds Tryd.pinned (OpenSpec.ofChange fnExactCanLiftWrong)

/-- 'laws.FnLifts': WHATEVER THE INPUT: true; the input reads as it did. -/
def fnLiftsSpec : ChangeSpec := { name := "fnLifts", vars := ["loop.example/g03301/impl.errTooHeavy"], fn := fun _ => fun
  | [d, g1] => { results := [.lit (.bool true)], args := [d], vars := [g1] }
  | _ => none }
def fnLiftsRow : OpenClaim := { program := "ytplabaneihjcoaadoor", sum := "ab166a51f8b330c2484653afe8f10c11b3de82b6d27cff91c85f74cd2ff33278", func := "loop.example/g03301/laws.FnLifts", spec := "fnLifts", inPlace := ["internal/reflectlite.TypeOf"], unfollowed := true, recurses := true, named := ["loop.example/g03301/impl.errTooHeavy"], ifaces := true, apart := false, laid := [("loop.example/g03301/impl.errTooHeavy", laid_loop_example_g03301_impl_errTooHeavy)] }
def FnLiftsSaid : Prop := fnLiftsRow.holds Tryd.pinned (OpenSpec.ofChange fnLiftsSpec)

/-- ITS FALSE NEIGHBOUR: 'it returns false'. Refute it at one input. -/
def fnLiftsWrong : ChangeSpec := { name := "fnLifts", vars := ["loop.example/g03301/impl.errTooHeavy"], fn := fun _ => fun
  | [d, g1] => { results := [.lit (.bool false)], args := [d], vars := [g1] }
  | _ => none }
def FnLiftsWrongFalsely : Prop := fnLiftsRow.holds Tryd.pinned (OpenSpec.ofChange fnLiftsWrong)

/- THE SECOND FORM. 'bulk': how many values and letters a reading holds, each counted each time it is reached (what is shared counts as often as it is met; a slice's spare places count too). A statement '..UptoSaid' is the law's where the arguments, and the package variables that the reading takes, are together of bulk at most 1048576: NARROWER than '..Said'. Prove '..Said' where nothing that the law and all that it calls make is longer than what came in: it says more and counts as full. Else prove '..UptoSaid'. A law counts once. -/
mutual
def uptoBulk {H : Type} : DataW H → Nat
  | .lit (.string bytes) => bytes.length + 1
  | .lit _ => 1
  | .nil => 1
  | .ptr d => uptoBulk d + 1
  | .slice elems spare => uptoBulkAll elems + uptoBulkAll spare + 1
  | .agg parts => uptoBulkAll parts + 1
  | .iface _ d => uptoBulk d + 1
  | .map entries => uptoBulkEntries entries + 1
  | .held _ => 1
def uptoBulkAll {H : Type} : List (DataW H) → Nat
  | [] => 0
  | d :: r => uptoBulk d + uptoBulkAll r
def uptoBulkEntries {H : Type} : List (Lit × DataW H) → Nat
  | [] => 0
  | x :: r => uptoBulkEntry x + uptoBulkEntries r
def uptoBulkEntry {H : Type} : Lit × DataW H → Nat
  | (.string bytes, d) => bytes.length + uptoBulk d + 1
  | (_, d) => uptoBulk d + 1
 end
def uptoSmall : (H : Type) → List (DataW H) → Bool := fun _ ds => decide (uptoBulkAll ds ≤ 1048576)
def OpenSpec.upto (s : _root_.Go.ChangeSpec) : _root_.Go.OpenSpec := { _root_.Go.OpenSpec.ofChange s with cond := some uptoSmall }

/-- 'laws.FnExactLeastArm', WHERE WHAT IT READS IS OF BULK AT MOST 1048576: true; the input reads as it did. -/
def fnExactLeastArmUptoRow : OpenClaim := { program := "ytplabaneihjcoaadoor", sum := "ab166a51f8b330c2484653afe8f10c11b3de82b6d27cff91c85f74cd2ff33278", func := "loop.example/g03301/laws.FnExactLeastArm", spec := "fnExactLeastArm", named := ["loop.example/g03301/impl.errTooHeavy"], ifaces := true, apart := false, laid := [("loop.example/g03301/impl.errTooHeavy", laid_loop_example_g03301_impl_errTooHeavy)], narrowed := true }
def FnExactLeastArmUptoSaid : Prop := fnExactLeastArmUptoRow.holds Tryd.pinned (OpenSpec.upto fnExactLeastArmSpec)

/-- 'laws.FnExactCanLift', WHERE WHAT IT READS IS OF BULK AT MOST 1048576: true; the input reads as it did. -/
def fnExactCanLiftUptoRow : OpenClaim := { program := "ytplabaneihjcoaadoor", sum := "ab166a51f8b330c2484653afe8f10c11b3de82b6d27cff91c85f74cd2ff33278", func := "loop.example/g03301/laws.FnExactCanLift", spec := "fnExactCanLift", inPlace := ["internal/reflectlite.TypeOf"], unfollowed := true, recurses := true, named := ["loop.example/g03301/impl.errTooHeavy"], ifaces := true, apart := false, laid := [("loop.example/g03301/impl.errTooHeavy", laid_loop_example_g03301_impl_errTooHeavy)], narrowed := true }
def FnExactCanLiftUptoSaid : Prop := fnExactCanLiftUptoRow.holds Tryd.pinned (OpenSpec.upto fnExactCanLiftSpec)

/-- 'laws.FnLifts', WHERE WHAT IT READS IS OF BULK AT MOST 1048576: true; the input reads as it did. -/
def fnLiftsUptoRow : OpenClaim := { program := "ytplabaneihjcoaadoor", sum := "ab166a51f8b330c2484653afe8f10c11b3de82b6d27cff91c85f74cd2ff33278", func := "loop.example/g03301/laws.FnLifts", spec := "fnLifts", inPlace := ["internal/reflectlite.TypeOf"], unfollowed := true, recurses := true, named := ["loop.example/g03301/impl.errTooHeavy"], ifaces := true, apart := false, laid := [("loop.example/g03301/impl.errTooHeavy", laid_loop_example_g03301_impl_errTooHeavy)], narrowed := true }
def FnLiftsUptoSaid : Prop := fnLiftsUptoRow.holds Tryd.pinned (OpenSpec.upto fnLiftsSpec)

end Rows
end Go.Proofs.YtplabaneihjcoaaDoor
