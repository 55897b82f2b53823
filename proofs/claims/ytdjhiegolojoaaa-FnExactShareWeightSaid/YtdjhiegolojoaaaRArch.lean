/-
  Contracts of the laws' helpers for an arch.
-/
import Derived.Test.YtdjhiegolojoaaaRJoint
namespace Go.Proofs.Ytdjhiegolojoaaa
open Go.RowKit

theorem toArch_any (A : Option Addr) (n c : Nat) (zs : List Int) (w : World) (h : RecsAt w w.heap.size 4 A n zs) (hn : n ≤ 1048576) :
    Calls Try.prog 52 #[.agg #[.slice A n c]] w fun e w' => ∃ g, e = .returned (.agg #[.slice (some ⟨g, 0, none⟩) n n]) ∧ w.heap.size ≤ g ∧ w'.rowIs g 67 (n * 4) (ints zs) ∧ Below w.heap.size w w' := by
  have H3 : RecsAt (((w.alloc (.cells #[.slice A n c] 96)).alloc (.cells #[.slice none 0 0] 41)).alloc (.cells #[.slice none 0 0] 41)) (((w.alloc (.cells #[.slice A n c] 96)).alloc (.cells #[.slice none 0 0] 41)).alloc (.cells #[.slice none 0 0] 41)).heap.size 4 A n zs :=
    (((h.alloc (Nat.le_refl _) _).alloc (by simp) _).alloc (by simp; omega) _).mono (by simp; omega)
  go_enter Try.func52, Try.ntmps52
  go_wp2_with fail
  refine (toJointS_any _ _ _ zs _ H3 hn).mono ?_
  rintro e w1 ⟨rfl, r1, hb1⟩
  have rr : RowF w1 (w.heap.size + 1) 41 1 (fun _ => .slice none 0 0) := by
    have h := ((RowF.of_row (World.rowIs_alloc (w.alloc (.cells #[.slice A n c] 96)) #[.slice none 0 0] 41 (fun _ => .slice none 0 0) (fun j hj => by simp at hj; subst hj; rfl))).alloc (.cells #[.slice none 0 0] 41)).after hb1
    simpa using h
  have ro : RowF w1 (w.heap.size + 1 + 1) 41 1 (fun _ => .slice none 0 0) := by
    have h := (RowF.of_row (World.rowIs_alloc ((w.alloc (.cells #[.slice A n c] 96)).alloc (.cells #[.slice none 0 0] 41)) #[.slice none 0 0] 41 (fun _ => .slice none 0 0) (fun j hj => by simp at hj; subst hj; rfl))).after hb1
    simpa using h
  have e1 := rr.cell (i := 0) (by omega)
  have e2 := ro.cell (i := 0) (by omega)
  have f1 := rr.frozen 0
  have f2 := ro.frozen 0
  have HB1 := Lib.hid (((((Below.refl _ w).alloc (Nat.le_refl _) _).alloc (by simp) _).alloc (by simp; omega) _).trans (hb1.mono (by simp; omega)))
  have HR := Lib.hid r1
  clear r1 hb1 rr ro H3
  go_wp2
  refine bodyPost_ret (v := .agg #[.slice (some ⟨w.heap.size + 1 + 1 + 1, 0, none⟩) n n]) (by simp [results, Try.results52, go_sem, *]) rfl ⟨w.heap.size + 1 + 1 + 1, rfl, by omega, ?_, ?_⟩
  · have h := HR.out
    simp at h
    exact (h.of_block (Below.heap_setCell _ _ _ _ (by simp <;> omega))).of_block (Below.heap_setCell _ _ _ _ (by simp <;> omega))
  · exact (HB1.out.setCell (p := ⟨w.heap.size + 1 + 1, 0, none⟩) (by simp; omega) _).setCell (p := ⟨w.heap.size + 1, 0, none⟩) (by simp) _
theorem szArch_ok (A : Option Addr) (n c : Nat) (l : Int) (w : World) (h0 : 0 ≤ l) (h1 : l ≤ 1048576) (hn : n ≤ 9223372036854775807) (h : (n : Int) ≤ l) : Calls Try.prog 48 #[.agg #[.slice A n c], .int .i64 l] w fun e w' => e = .returned (.int .i64 (l - n)) ∧ Below w.heap.size w w' := by
  have ht : ¬ l - (n : Int) < 0 := by omega
  go_enter Try.func48, Try.ntmps48
  go_wp2_with (go_at_call 75; refine (szJointS_ok _ _ _ _ _ h0 h1 hn h).mono ?_; rintro e w' ⟨rfl, rfl⟩)
  go_ret
  exact ⟨rfl, (Below.refl _ _).alloc (Nat.le_refl _) _⟩
theorem szArch_no (A : Option Addr) (n c : Nat) (l : Int) (w : World) (h0 : 0 ≤ l) (h1 : l ≤ 1048576) (hn : n ≤ 9223372036854775807) (h : l < (n : Int)) : Calls Try.prog 48 #[.agg #[.slice A n c], .int .i64 l] w fun e w' => e = .returned (.int .i64 (-1)) ∧ Below w.heap.size w w' := by
  go_enter Try.func48, Try.ntmps48
  go_wp2_with (go_at_call 75; refine (szJointS_no _ _ _ _ _ h0 h1 hn h).mono ?_; rintro e w' ⟨rfl, rfl⟩)
  go_ret
  exact ⟨rfl, (Below.refl _ _).alloc (Nat.le_refl _) _⟩
theorem eqArch_same (A A' : Option Addr) (n c c' : Nat) (zs : List Int) (w : World) (hx : RecsAt w w.heap.size 4 A n zs) (hy : RecsAt w w.heap.size 4 A' n zs) (hn : n ≤ 1048576) :
    Calls Try.prog 57 #[.agg #[.slice A n c], .agg #[.slice A' n c']] w fun e w' => e = .returned (.bool true) ∧ Below w.heap.size w w' := by
  have hx2 := ((hx.alloc (Nat.le_refl _) (.cells #[.slice A n c] 41)).alloc (by simp) (.cells #[.slice A' n c'] 41)).mono (B' := ((w.alloc (.cells #[.slice A n c] 41)).alloc (.cells #[.slice A' n c'] 41)).heap.size) (by simp; omega)
  have hy2 := ((hy.alloc (Nat.le_refl _) (.cells #[.slice A n c] 41)).alloc (by simp) (.cells #[.slice A' n c'] 41)).mono (B' := ((w.alloc (.cells #[.slice A n c] 41)).alloc (.cells #[.slice A' n c'] 41)).heap.size) (by simp; omega)
  go_enter Try.func57, Try.ntmps57
  go_wp2_with fail
  refine (eqJointS_same _ _ _ _ _ zs _ hx2 hy2 hn).mono ?_
  rintro e w1 ⟨rfl, hb1⟩
  go_wp2
  go_ret
  exact ⟨rfl, (((Below.refl _ w).alloc (Nat.le_refl _) _).alloc (by simp) _).trans (hb1.mono (by simp; omega))⟩
end Go.Proofs.Ytdjhiegolojoaaa
