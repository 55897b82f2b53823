/-
  A box of three ints; the word that carries the package's variable from call to call. No Go function is spoken of here.
-/
import Derived.Test.YtplabaneihjcoaaDoorWArmI
namespace Go.Proofs.YtplabaneihjcoaaDoor
open Go.RowKit
/-- A box of three ints. -/
def Box3 (w : World) (b : Nat) (p a x : Int) : Prop := (w.cell? ⟨b, 0, none⟩ = some (.int .i64 p) ∧ w.cell? ⟨b, 1, none⟩ = some (.int .i64 a) ∧ w.cell? ⟨b, 2, none⟩ = some (.int .i64 x)) ∧ b < w.heap.size
theorem Box3.after {w w1 : World} {b : Nat} {p a x : Int} (h : Box3 w b p a x) (hb : Below w.heap.size w w1) : Box3 w1 b p a x :=
  ⟨⟨(hb.cell (p := ⟨b, 0, none⟩) h.2).trans h.1.1, (hb.cell (p := ⟨b, 1, none⟩) h.2).trans h.1.2.1, (hb.cell (p := ⟨b, 2, none⟩) h.2).trans h.1.2.2⟩, Nat.lt_of_lt_of_le h.2 hb.size⟩
theorem Box3.new (w : World) (p a x : Int) (t : TypeId) : Box3 (w.alloc (.cells #[.int .i64 p, .int .i64 a, .int .i64 x] t)) w.heap.size p a x := by
  have hr : (w.alloc (.cells #[.int .i64 p, .int .i64 a, .int .i64 x] t)).rowIs w.heap.size t 3 (fun i => if i = 0 then .int .i64 p else if i = 1 then .int .i64 a else .int .i64 x) := World.rowIs_alloc w #[.int .i64 p, .int .i64 a, .int .i64 x] t _ (fun i hi => by simp at hi; match i, hi with | 0, _ => rfl | 1, _ => rfl | 2, _ => rfl)
  exact ⟨⟨hr.cell (i := 0) (by omega), hr.cell (i := 1) (by omega), hr.cell (i := 2) (by omega)⟩, by simp⟩
theorem ErrAt.after {w w1 : World} {T : TypeId} {v : Value} (h : ErrAt w T v) (hb : Below w.heap.size w w1) : ErrAt w1 T v := h.below h.lt hb
end Go.Proofs.YtplabaneihjcoaaDoor
