/-
  Texts that the law stands on, part 6.
-/
import Derived.Test.YtbpnbhemdbgmjaaGreatE1
import Derived.Test.YtbpnbhemdbgmjaaGreatE5
import Derived.Test.YtbpnbhemdbgmjaaGreatC19
import Derived.Deep.RegionHeld3
set_option linter.unusedVariables false
set_option linter.unusedSimpArgs false
namespace Go.Proofs.YtbpnbhemdbgmjaaGreat
namespace X
open Go.RowKit
theorem toLoadS_ex (A : Option Addr) (n c : Nat) (zs : List Int) (w : World) (h : RecsAt w w.heap.size 3 A n zs) (hn : n ≤ 1048576) :
  Calls Tryzx.prog 57 #[.slice A n c] w fun e w' => ∃ g, e = .returned (.slice (some ⟨g, 0, none⟩) n n) ∧ w.heap.size ≤ g ∧ w'.rowIs g 123 (n * 3) (ints zs) ∧ Below w.heap.size w w' :=
 (toLoadS_any A n c zs w h hn).mono fun _ _ ⟨he, hr, hb⟩ => ⟨_, he, Nat.le_refl _, hr, hb⟩
end X
end Go.Proofs.YtbpnbhemdbgmjaaGreat
