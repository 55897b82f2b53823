/-
  Contracts: fair marks in the reference.
-/
import Derived.Test.YtplabaneihjcoaaWInts
import Derived.Test.YtplabaneihjcoaaOwn
import Derived.Test.YtplabaneihjcoaaPMarks
import Derived.Test.YtplabaneihjcoaaWSmall
import Derived.BigQuiet
import Derived.Laws.Cover1
namespace Go.Proofs.Ytplabaneihjcoaa
open Go.RowKit
set_option linter.unusedSimpArgs false

theorem OwnI.zeros (w : World) (E : TypeId) (n : Nat) (hn : n ≤ maxLen) : OwnI (w.alloc (.cells (madeCells #[.int .i64 0] n) E)) w.heap.size E w.heap.size n (List.replicate n 0) := by
  have h := World.ownsRow_lit (base := w.heap.size) (e := E) (size := 1) w (madeCells #[.int .i64 0] n) n (Nat.le_refl _) hn (by simp [size_madeCells])
  have e : (madeCells #[Value.int .i64 0] n).toList = (List.replicate n (0 : Int)).map (Value.int .i64) := by
    rw [List.map_replicate, toList_madeCells_one]
  unfold OwnI OwnV
  rw [List.length_replicate]
  rw [e] at h
  exact h
theorem run_max3m {P : Program} (ts : Array TypeId) (t : TypeId) (x y z : Int) (w : World) : (Builtin.max_ ts t #[.int .i64 x, .int .i64 y, .int .i64 z]).run P w = .ok (.int .i64 (max (max x y) z)) w := by
  rw [run_max_int3]
  congr 2
  omega
theorem ownV_base' {w : World} {base base' : Nat} {E : TypeId} {v : Value} {xs : List Int} (h : OwnV w base E v xs) (hb : base' ≤ base) : OwnV w base' E v xs := by
  refine ⟨h.1, ?_⟩
  rcases h.2 with h2 | ⟨g, cap, cur, h1, h2, h3⟩
  · exact .inl h2
  · exact .inr ⟨g, cap, cur, h1, Nat.le_trans hb h2, h3⟩
theorem IntsAt.after' {w w1 : World} {A : Option Addr} {n : Nat} {zs : List Int} (h : IntsAt w w.heap.size A n zs) (hb : Below w.heap.size w w1) : IntsAt w1 w1.heap.size A n zs := (h.below hb).mono hb.size
theorem fairB_best' {W : Nat → Int} {D : Nat → List Int} {N : Nat} (h : ∀ s, s < N → 0 ≤ W s) : ∀ k, k + 1 ≤ N → fairB W D (k + 1) = (D (bestS W k), W (bestS W k))
  | 0, _ => by simp [fairB, bestS]
  | k + 1, hk => by
    have ih := fairB_best' (D := D) h k (by omega)
    have h1 := h (bestS W k) (by have := bestS_le W k; omega)
    rw [fairB, ih]
    simp only [bestS]
    by_cases c : W (k + 1) < W (bestS W k)
    · rw [if_pos (.inr c), if_pos c]
    · rw [if_neg (by omega), if_neg c]
theorem below_drew {B : Nat} {a w : World} (h : Below B a w) : Below B a w.drew := ⟨h.os, h.tape, h.output, h.size, h.block⟩
/-- Weights and marks that fit. -/
structure MarkHyp (n : Nat) (ws ms : List Int) : Prop where
  n7 : n ≤ 7
  wl : ws.length = n
  ml : ms.length = n
  w : ∀ k, 0 ≤ nth ws k ∧ nth ws k ≤ 10000
  m : ∀ k, k < ms.length → 1 ≤ nth ms k ∧ nth ms k ≤ 3
def FairPost (w : World) (ws : List Int) (q : Int) (e : Ending) (w' : World) : Prop :=
  ∃ A k c, e = .returned (.tuple #[.slice A k c, .bool (fairOk ws q)]) ∧ OwnV w' w.heap.size 3 (.slice A k c) (if fairOk ws q = true then fairL ws q.toNat else []) ∧ Below w.heap.size w w'
theorem fairPost_f {w w' : World} {ws : List Int} {q : Int} {A : Option Addr} {k c : Nat} (h : fairOk ws q = false) (ho : OwnV w' w.heap.size 3 (.slice A k c) []) (hb : Below w.heap.size w w') : FairPost w ws q (.returned (.tuple #[.slice A k c, .bool false])) w' :=
  ⟨A, k, c, by rw [h], by rw [if_neg (by simp [h])]; exact ho, hb⟩
theorem fairPost_t {w w' : World} {ws : List Int} {q : Int} {A : Option Addr} {k c : Nat} (h : fairOk ws q = true) (ho : OwnV w' w.heap.size 3 (.slice A k c) (fairL ws q.toNat)) (hb : Below w.heap.size w w') : FairPost w ws q (.returned (.tuple #[.slice A k c, .bool true])) w' :=
  ⟨A, k, c, by rw [h], by rw [if_pos h]; exact ho, hb⟩
end Go.Proofs.Ytplabaneihjcoaa
