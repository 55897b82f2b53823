/-
  Contracts of the laws' helpers for records 'Point'.
-/
import Derived.Test.YtdjhiegolojoaaaProg
import Derived.Test.YtdjhiegolojoaaaOnly
import Derived.Deep.RegionHeld3
import Derived.Outline
namespace Go.Proofs.Ytdjhiegolojoaaa
open Go.RowKit

theorem infoPoint : (Try.prog.info? 65).map (fun i => (i.zero, i.size, i.bytes)) = some (some (.agg #[.int .i64 0, .int .i64 0]), 2, 16) := by kernel_rfl

set_option maxHeartbeats 400000 in
theorem toPoint_any (x0 x1 : Int) (w : World) : Calls Try.prog 110 #[.agg #[.int .i64 x0, .int .i64 x1]] w fun e w' => e = .returned (.agg #[.int .i64 x0, .int .i64 x1]) ∧ Below w.heap.size w w' := by
  go_enter Try.func110, Try.ntmps110
  go_wp2
  exact bodyPost_ret (v := .agg #[.int .i64 x0, .int .i64 x1]) (by simp [results, Try.results110, go_sem]) rfl ⟨rfl, (((Below.refl _ _).alloc (Nat.le_refl _) _).alloc (by simp) _).alloc (by simp; omega) _⟩



set_option maxHeartbeats 400000 in
theorem eqPoint_same (x0 x1 : Int) (w : World) : Calls Try.prog 112 #[.agg #[.int .i64 x0, .int .i64 x1], .agg #[.int .i64 x0, .int .i64 x1]] w fun e w' => e = .returned (.bool true) ∧ Below w.heap.size w w' := by
  have t0 : (x0 != x0) = false := by simp
  have t1 : (x1 != x1) = false := by simp
  go_enter Try.func112, Try.ntmps112
  go_wp2
  go_ret
  exact ⟨rfl, ((Below.refl _ _).alloc (Nat.le_refl _) _).alloc (by simp) _⟩



end Go.Proofs.Ytdjhiegolojoaaa
