/-
  Contracts: the stone between two joints, in the reference and in the program.
-/
import Derived.Test.YtdjhiegolojoaaaWStoneI
import Derived.Test.YtdjhiegolojoaaaRow
namespace Go.Proofs.Ytdjhiegolojoaaa
open Go.RowKit

/-- The corners of the stone between two joints. -/
def btw (a0 a1 a2 a3 b0 b1 b2 b3 : Int) : List Int := [a0, a1, b0, b1, b2, b3, a2, a3]
def BtwPost (w : World) (zs : List Int) (e : Ending) (w' : World) : Prop :=
  ∃ A n c, e = .returned (.tuple #[.agg #[.slice A n c], .bool (stoneB zs 4)]) ∧ (stoneB zs 4 = true → n = 4 ∧ c = 4 ∧ ∃ g, A = some ⟨g, 0, none⟩ ∧ RowF w' g 65 8 (ints zs) ∧ w.heap.size ≤ g) ∧ (stoneB zs 4 = false → A = none ∧ n = 0 ∧ c = 0) ∧ Below w.heap.size w w'
theorem btwPost_t {w w' : World} {zs : List Int} {g : Nat} (h : stoneB zs 4 = true) (hr : RowF w' g 65 8 (ints zs)) (hg : w.heap.size ≤ g) (hb : Below w.heap.size w w') : BtwPost w zs (.returned (.tuple #[.agg #[.slice (some ⟨g, 0, none⟩) 4 4], .bool true])) w' :=
  ⟨_, _, _, by rw [h], fun _ => ⟨rfl, rfl, g, rfl, hr, hg⟩, fun h' => absurd h' (by rw [h]; simp), hb⟩
theorem btwPost_f {w w' : World} {zs : List Int} (h : stoneB zs 4 = false) (hb : Below w.heap.size w w') : BtwPost w zs (.returned (.tuple #[.agg #[.slice none 0 0], .bool false])) w' :=
  ⟨_, _, _, by rw [h], fun h' => absurd h' (by rw [h]; simp), fun _ => ⟨rfl, rfl, rfl⟩, hb⟩
theorem btw_row {w : World} {a0 a1 a2 a3 b0 b1 b2 b3 : Int} : (w.alloc (.cells #[.int .i64 a0, .int .i64 a1, .int .i64 b0, .int .i64 b1, .int .i64 b2, .int .i64 b3, .int .i64 a2, .int .i64 a3] 65)).rowIs w.heap.size 65 8 (ints (btw a0 a1 a2 a3 b0 b1 b2 b3)) :=
  World.rowIs_alloc w #[.int .i64 a0, .int .i64 a1, .int .i64 b0, .int .i64 b1, .int .i64 b2, .int .i64 b3, .int .i64 a2, .int .i64 a3] _ _ (fun j hj => by simp at hj; match j, hj with | 0, _ => rfl | 1, _ => rfl | 2, _ => rfl | 3, _ => rfl | 4, _ => rfl | 5, _ => rfl | 6, _ => rfl | 7, _ => rfl)

theorem cell_alloc_lt {w : World} {o : Obj} {g i : Nat} (h : g < w.heap.size) : (w.alloc o).cell? ⟨g, i, none⟩ = w.cell? ⟨g, i, none⟩ := World.cell?_of_block (a := ⟨g, i, none⟩) (Below.heap_alloc w o g h)
theorem cell_new2 {w : World} {u : Value} {t : TypeId} {g : Nat} (h : g = w.heap.size) : (w.alloc (.cells #[u] t)).cell? ⟨g, 0, none⟩ = some u := by subst h; exact cell_new0 w u t
theorem frozen_new2 {w : World} {u : Value} {t : TypeId} {g : Nat} (h : g = w.heap.size) : (w.alloc (.cells #[u] t)).frozen? ⟨g, 0, none⟩ = false := by subst h; exact World.rowIs.frozen (World.rowIs_alloc w #[u] t (fun _ => u) (fun i hi => by simp at hi; subst hi; rfl)) 0
theorem frozen_alloc_lt {w : World} {o : Obj} {g i : Nat} (h : g < w.heap.size) : (w.alloc o).frozen? ⟨g, i, none⟩ = w.frozen? ⟨g, i, none⟩ := World.frozen?_of_block (a := ⟨g, i, none⟩) (Below.heap_alloc w o g h)
theorem btw_ready (a0 a1 a2 a3 b0 b1 b2 b3 : Int) (w : World) : ∃ W5 : World, W5 = (((((w.alloc (.cells #[.int .i64 a0, .int .i64 a1, .int .i64 a2, .int .i64 a3] 67)).alloc (.cells #[.int .i64 b0, .int .i64 b1, .int .i64 b2, .int .i64 b3] 67)).alloc (.cells #[.slice none 0 0] 142)).alloc (.cells #[.int .i64 a0, .int .i64 a1, .int .i64 b0, .int .i64 b1, .int .i64 b2, .int .i64 b3, .int .i64 a2, .int .i64 a3] 65)).alloc (.cells #[.slice (some ⟨w.heap.size + 1 + 1 + 1, 0, none⟩) 4 4] 142)) ∧ RowF W5 (w.heap.size + 1 + 1 + 1) 65 8 (ints (btw a0 a1 a2 a3 b0 b1 b2 b3)) ∧ W5.cell? ⟨w.heap.size + 1 + 1, 0, none⟩ = some (.slice none 0 0) ∧ W5.frozen? ⟨w.heap.size + 1 + 1, 0, none⟩ = false ∧ W5.cell? ⟨w.heap.size + 1 + 1 + 1 + 1, 0, none⟩ = some (.slice (some ⟨w.heap.size + 1 + 1 + 1, 0, none⟩) 4 4) ∧ W5.heap.size = w.heap.size + 1 + 1 + 1 + 1 + 1 ∧ Below w.heap.size w W5 := by
  refine ⟨_, rfl, ?_, ?_, ?_, ?_, ?_, ?_⟩
  · have hr := btw_row (w := (((w.alloc (.cells #[.int .i64 a0, .int .i64 a1, .int .i64 a2, .int .i64 a3] 67)).alloc (.cells #[.int .i64 b0, .int .i64 b1, .int .i64 b2, .int .i64 b3] 67)).alloc (.cells #[.slice none 0 0] 142))) (a0 := a0) (a1 := a1) (a2 := a2) (a3 := a3) (b0 := b0) (b1 := b1) (b2 := b2) (b3 := b3)
    have e : (((w.alloc (.cells #[.int .i64 a0, .int .i64 a1, .int .i64 a2, .int .i64 a3] 67)).alloc (.cells #[.int .i64 b0, .int .i64 b1, .int .i64 b2, .int .i64 b3] 67)).alloc (.cells #[.slice none 0 0] 142)).heap.size = w.heap.size + 1 + 1 + 1 := by simp
    rw [e] at hr
    exact (RowF.of_row hr).alloc _
  · rw [cell_alloc_lt (by simp), cell_alloc_lt (by simp)]
    exact cell_new2 (by simp)
  · rw [frozen_alloc_lt (by simp), frozen_alloc_lt (by simp)]
    exact frozen_new2 (by simp)
  · exact cell_new2 (by simp)
  · simp
  · exact (((((Below.refl _ _).alloc (Nat.le_refl _) _).alloc (by simp) _).alloc (by simp; omega) _).alloc (by simp; omega) _).alloc (by simp; omega) _
set_option maxHeartbeats 1200000 in
theorem sBetween_any (a0 a1 a2 a3 b0 b1 b2 b3 : Int) (w : World) :
    Calls Try.prog 90 #[.agg #[.int .i64 a0, .int .i64 a1, .int .i64 a2, .int .i64 a3], .agg #[.int .i64 b0, .int .i64 b1, .int .i64 b2, .int .i64 b3]] w (BtwPost w (btw a0 a1 a2 a3 b0 b1 b2 b3)) := by
  obtain ⟨W5, hW, hrow, c2, f2, c4, hsz, hbw⟩ := btw_ready a0 a1 a2 a3 b0 b1 b2 b3 w
  have hrec : RecsAt W5 W5.heap.size 2 (some ⟨w.heap.size + 1 + 1 + 1, 0, none⟩) 4 (btw a0 a1 a2 a3 b0 b1 b2 b3) := RowF.recs (n := 4) (K := 2) hrow rfl
  have hlt := hrow.lt
  have HW := Lib.hid hW
  have HR := Lib.hid hrow
  have HZ := Lib.hid hsz
  have HBW := Lib.hid hbw
  have HC2 := Lib.hid c2
  have HF2 := Lib.hid f2
  have HC4 := Lib.hid c4
  clear hW hrow hsz hbw c2 f2 c4
  cases hS : stoneB (btw a0 a1 a2 a3 b0 b1 b2 b3) 4
  all_goals
    go_enter Try.func90, Try.ntmps90
    go_wp2_with fail
    rw [← HW.out]
    refine (sStoneOk_any _ 4 4 _ _ hrec).mono ?_
    rw [hS]
    rintro e w1 ⟨rfl, hb1⟩
    have g2 : w1.cell? ⟨w.heap.size + 1 + 1, 0, none⟩ = some (.slice none 0 0) := (hb1.cell (p := ⟨w.heap.size + 1 + 1, 0, none⟩) (by have := HZ.out; simp; omega)).trans HC2.out
    have k2 : w1.frozen? ⟨w.heap.size + 1 + 1, 0, none⟩ = false := (hb1.frozen (p := ⟨w.heap.size + 1 + 1, 0, none⟩) (by have := HZ.out; simp; omega)).trans HF2.out
    have g4 : w1.cell? ⟨w.heap.size + 1 + 1 + 1 + 1, 0, none⟩ = some (.slice (some ⟨w.heap.size + 1 + 1 + 1, 0, none⟩) 4 4) := (hb1.cell (p := ⟨w.heap.size + 1 + 1 + 1 + 1, 0, none⟩) (by have := HZ.out; simp; omega)).trans HC4.out
    have HR1 := Lib.hid (HR.out.after hb1)
    have HB1 := Lib.hid (HBW.out.trans (hb1.mono (by have := HZ.out; omega)))
    clear hrec hlt hb1
    go_wp2
  · refine bodyPost_ret (v := .tuple #[.agg #[.slice none 0 0], .bool false]) (by simp [results, Try.results90, go_sem, *]) rfl ?_
    exact btwPost_f hS (HB1.out.setCell (by simp; omega) _)
  · refine bodyPost_ret (v := .tuple #[.agg #[.slice (some ⟨w.heap.size + 1 + 1 + 1, 0, none⟩) 4 4], .bool true]) (by simp [results, Try.results90, go_sem, *]) rfl ?_
    exact btwPost_t hS (HR1.out.set_other (by simp) _) (by omega) (HB1.out.setCell (by simp; omega) _)
set_option maxHeartbeats 1200000 in
theorem iBetween_any (a0 a1 a2 a3 b0 b1 b2 b3 : Int) (w : World) :
    Calls Try.prog 98 #[.agg #[.int .i64 a0, .int .i64 a1, .int .i64 a2, .int .i64 a3], .agg #[.int .i64 b0, .int .i64 b1, .int .i64 b2, .int .i64 b3]] w (BtwPost w (btw a0 a1 a2 a3 b0 b1 b2 b3)) := by
  obtain ⟨W5, hW, hrow, c2, f2, c4, hsz, hbw⟩ := btw_ready a0 a1 a2 a3 b0 b1 b2 b3 w
  have hrec : RecsAt W5 W5.heap.size 2 (some ⟨w.heap.size + 1 + 1 + 1, 0, none⟩) 4 (btw a0 a1 a2 a3 b0 b1 b2 b3) := RowF.recs (n := 4) (K := 2) hrow rfl
  have hlt := hrow.lt
  have HW := Lib.hid hW
  have HR := Lib.hid hrow
  have HZ := Lib.hid hsz
  have HBW := Lib.hid hbw
  have HC2 := Lib.hid c2
  have HF2 := Lib.hid f2
  have HC4 := Lib.hid c4
  clear hW hrow hsz hbw c2 f2 c4
  cases hS : stoneB (btw a0 a1 a2 a3 b0 b1 b2 b3) 4
  all_goals
    go_enter Try.func98, Try.ntmps98
    go_wp2_with fail
    rw [← HW.out]
    refine (iStoneOk_any _ 4 4 _ _ hrec).mono ?_
    rw [hS]
    rintro e w1 ⟨rfl, hb1⟩
    have g2 : w1.cell? ⟨w.heap.size + 1 + 1, 0, none⟩ = some (.slice none 0 0) := (hb1.cell (p := ⟨w.heap.size + 1 + 1, 0, none⟩) (by have := HZ.out; simp; omega)).trans HC2.out
    have k2 : w1.frozen? ⟨w.heap.size + 1 + 1, 0, none⟩ = false := (hb1.frozen (p := ⟨w.heap.size + 1 + 1, 0, none⟩) (by have := HZ.out; simp; omega)).trans HF2.out
    have g4 : w1.cell? ⟨w.heap.size + 1 + 1 + 1 + 1, 0, none⟩ = some (.slice (some ⟨w.heap.size + 1 + 1 + 1, 0, none⟩) 4 4) := (hb1.cell (p := ⟨w.heap.size + 1 + 1 + 1 + 1, 0, none⟩) (by have := HZ.out; simp; omega)).trans HC4.out
    have HR1 := Lib.hid (HR.out.after hb1)
    have HB1 := Lib.hid (HBW.out.trans (hb1.mono (by have := HZ.out; omega)))
    clear hrec hlt hb1
    go_wp2
  · refine bodyPost_ret (v := .tuple #[.agg #[.slice none 0 0], .bool false]) (by simp [results, Try.results98, go_sem, *]) rfl ?_
    exact btwPost_f hS (HB1.out.setCell (by simp; omega) _)
  · refine bodyPost_ret (v := .tuple #[.agg #[.slice (some ⟨w.heap.size + 1 + 1 + 1, 0, none⟩) 4 4], .bool true]) (by simp [results, Try.results98, go_sem, *]) rfl ?_
    exact btwPost_t hS (HR1.out.set_other (by simp) _) (by omega) (HB1.out.setCell (by simp; omega) _)
end Go.Proofs.Ytdjhiegolojoaaa
