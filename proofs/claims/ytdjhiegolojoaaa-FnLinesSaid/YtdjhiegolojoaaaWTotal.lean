/-
  Contracts: the weight left of a joint, and the weight of everything, in the reference and in the program.
-/
import Derived.Test.YtdjhiegolojoaaaWLeft
import Derived.Test.YtdjhiegolojoaaaWL07
namespace Go.Proofs.Ytdjhiegolojoaaa
open Go.RowKit
set_option linter.unusedSimpArgs false

theorem run_field_wt (a b : Int) (w : World) : (Instr.field 163 (.agg #[.int .i64 a, .int .i64 b]) 0).run Try.prog w = .ok (.int .i64 a) w := by
  simp [Instr.field, go_sem, asAgg]
theorem lfW_bd (zs : List Int) (n : Nat) (ls : List Int) (q : Nat) (k : Int) : -1400000 ≤ lfW zs n ls q k ∧ lfW zs n ls q k ≤ 1400000 := by
  cases h : lfB zs n ls q k
  · rw [(lf_f h).1]; omega
  · obtain ⟨h1, h2, h3⟩ := lfB_out h
    obtain ⟨K, rfl⟩ : ∃ K : Nat, k = (K : Int) := ⟨k.toNat, by omega⟩
    obtain ⟨hA, hq, hl⟩ := loadsB_out h1
    have hn := (archB_out hA).1
    have := leftW_bd zs hl hq K
    rw [(lf_t h).1]
    omega
end Go.Proofs.Ytdjhiegolojoaaa
