/-
  Contracts of the laws' helpers for records 'Thrust'.
-/
import Derived.Test.YtbcgckdjbabdjaaProg
import Derived.Test.YtbcgckdjbabdjaaOnly
import Derived.Test.YtbcgckdjbabdjaaNLLoad
import Derived.Deep.RegionHeld3
import Derived.Outline
namespace Go.Proofs.Ytbcgckdjbabdjaa
open Go.RowKit

theorem infoThrust : (Try.prog.info? 61).map (fun i => (i.zero, i.size, i.bytes)) = some (some (.agg #[.int .i64 0, .int .i64 0, .int .i64 0, .int .i64 0]), 4, 32) := by kernel_rfl

set_option maxHeartbeats 400000 in
theorem toThrust_any (x0 x1 x2 x3 : Int) (w : World) : Calls Try.prog 31 #[.agg #[.int .i64 x0, .int .i64 x1, .int .i64 x2, .int .i64 x3]] w fun e w' => e = .returned (.agg #[.int .i64 x0, .int .i64 x1, .int .i64 x2, .int .i64 x3]) ∧ Below w.heap.size w w' := by
  go_enter Try.func31, Try.ntmps31
  go_wp2
  exact bodyPost_ret (v := .agg #[.int .i64 x0, .int .i64 x1, .int .i64 x2, .int .i64 x3]) (by simp [results, Try.results31, go_sem]) rfl ⟨rfl, (((Below.refl _ _).alloc (Nat.le_refl _) _).alloc (by simp) _).alloc (by simp; omega) _⟩

end Go.Proofs.Ytbcgckdjbabdjaa
