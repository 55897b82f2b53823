/-
  Words for the walks of the laws: what is carried from call to call. No Go function is spoken of here.
-/
import Derived.Test.YtdjhiegolojoaaaOnly
import Derived.Test.YtdjhiegolojoaaaWInts
namespace Go.Proofs.Ytdjhiegolojoaaa
open Go.RowKit

section
variable {w w1 w2 : World}
theorem below_then (h : Below w.heap.size w w1) (h' : Below w1.heap.size w1 w2) : Below w.heap.size w w2 := h.trans (h'.mono h.size)
theorem IntsAt.after {A : Option Addr} {n : Nat} {zs : List Int} (h : IntsAt w w.heap.size A n zs) (hb : Below w.heap.size w w1) : IntsAt w1 w1.heap.size A n zs := (h.below hb).mono hb.size
theorem below_box {o : Obj} (h : Below w.heap.size w w1) : Below w.heap.size w (w1.alloc o) := h.alloc h.size _
/-- A box of one cell: block b holds v. -/
def Box (w : World) (b : Nat) (v : Value) : Prop := w.cell? ⟨b, 0, none⟩ = some v ∧ b < w.heap.size
theorem Box.after {b : Nat} {v : Value} (h : Box w b v) (hb : Below w.heap.size w w1) : Box w1 b v := ⟨(hb.cell (p := ⟨b, 0, none⟩) h.2).trans h.1, Nat.lt_of_lt_of_le h.2 hb.size⟩
theorem Box.alloc {b : Nat} {v : Value} (h : Box w b v) (o : Obj) : Box (w.alloc o) b v := h.after ((Below.refl _ _).alloc (Nat.le_refl _) _)
theorem Box.new (w : World) (v : Value) (t : TypeId) : Box (w.alloc (.cells #[v] t)) w.heap.size v := ⟨cell_new1 w v t, by simp⟩
theorem Box.drewN {b : Nat} {v : Value} (h : Box w b v) (k : Nat) : Box (w.drewN k) b v := h
/-- A box of two cells: block b holds u and v. -/
def Box2 (w : World) (b : Nat) (u v : Value) : Prop := w.cell? ⟨b, 0, none⟩ = some u ∧ w.cell? ⟨b, 1, none⟩ = some v ∧ b < w.heap.size
theorem Box2.after {b : Nat} {u v : Value} (h : Box2 w b u v) (hb : Below w.heap.size w w1) : Box2 w1 b u v := ⟨(hb.cell (p := ⟨b, 0, none⟩) h.2.2).trans h.1, (hb.cell (p := ⟨b, 1, none⟩) h.2.2).trans h.2.1, Nat.lt_of_lt_of_le h.2.2 hb.size⟩
theorem Box2.new (w : World) (u v : Value) (t : TypeId) : Box2 (w.alloc (.cells #[u, v] t)) w.heap.size u v := by
  have hr : (w.alloc (.cells #[u, v] t)).rowIs w.heap.size t 2 (fun i => if i = 0 then u else v) := World.rowIs_alloc w #[u, v] t _ (fun i hi => by simp at hi; match i, hi with | 0, _ => rfl | 1, _ => rfl)
  exact ⟨hr.cell (by omega), hr.cell (by omega), by simp⟩
theorem below_undrew (h : Below w.drew.heap.size w.drew w1) : Below w.heap.size w w1 := ⟨h.os, h.tape, h.output, h.size, h.block⟩
theorem below_undrewN {k : Nat} (h : Below (w.drewN k).heap.size (w.drewN k) w1) : Below w.heap.size w w1 := ⟨h.os, h.tape, h.output, h.size, h.block⟩
end
/-- What a count of sizes leaves: nothing (-1), or the list is small. -/
def Sz1Post (l : Int) (n : Nat) (w : World) (e : Ending) (w' : World) : Prop :=
  ∃ r : Int, e = .returned (.int .i64 r) ∧ Below w.heap.size w w' ∧ (r = -1 ∨ (0 ≤ r ∧ r ≤ l ∧ (n : Int) ≤ l))
theorem sz1_any {P : Program} {f : FuncId} {args : Array Value} {l : Int} {n : Nat} {w : World} (_ : 0 ≤ l)
    (ok : (n : Int) ≤ l → Calls P f args w fun e w' => e = .returned (.int .i64 (l - n)) ∧ Below w.heap.size w w') (no : l < (n : Int) → Calls P f args w fun e w' => e = .returned (.int .i64 (-1)) ∧ Below w.heap.size w w') : Calls P f args w (Sz1Post l n w) := by
  by_cases h : (n : Int) ≤ l
  · exact (ok h).mono fun _ _ ⟨he, hb⟩ => ⟨_, he, hb, .inr ⟨by omega, by omega, h⟩⟩
  · exact (no (by omega)).mono fun _ _ ⟨he, hb⟩ => ⟨_, he, hb, .inl rfl⟩
theorem calls_below {P : Program} {f : FuncId} {args : Array Value} {w : World} {e0 : Ending} (h : Calls P f args w fun e w' => e = e0 ∧ w = w') : Calls P f args w fun e w' => e = e0 ∧ Below w.heap.size w w' :=
  h.mono fun _ _ ⟨he, hw⟩ => ⟨he, by subst hw; exact Below.refl _ _⟩

end Go.Proofs.Ytdjhiegolojoaaa
