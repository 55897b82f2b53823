/-
  Words: boxes of one cell. No Go function is spoken of here.
-/
import Derived.Test.YtdjhiegolojoaaaLawKit
import Derived.Test.YtdjhiegolojoaaaRow
namespace Go.Proofs.Ytdjhiegolojoaaa
open Go.RowKit

theorem box_setS {w : World} {g : Nat} {t : TypeId} {f : Nat → Value} (v : Value) (h : RowF w g t 1 f) : Box (w.setCell ⟨g, 0, none⟩ v) g v :=
  ⟨by have := (h.set 0 v).cell (i := 0) (by omega); simpa using this, by simpa using h.lt⟩
theorem rowF_new1S (w : World) (u : Value) (t : TypeId) : RowF (w.alloc (.cells #[u] t)) w.heap.size t 1 (fun _ => u) := RowF.of_row (World.rowIs_alloc w #[u] t (fun _ => u) (fun i hi => by simp at hi; subst hi; rfl))
end Go.Proofs.Ytdjhiegolojoaaa
