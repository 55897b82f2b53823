/-
  Contract: the shapes of arches that a draw begins with.
-/
import Derived.Test.YtplabaneihjcoaaWDraw
import Derived.Test.YtplabaneihjcoaaWArch
import Derived.Test.YtplabaneihjcoaaOwnR
import Derived.Test.YtplabaneihjcoaaBoxS
import Derived.IntWalk
namespace Go.Proofs.Ytplabaneihjcoaa
open Go.RowKit
set_option linter.unusedSimpArgs false
set_option linter.unusedVariables false

/-- A valid arch comes back, in a row of its own. -/
def ShpPost (w : World) (e : Ending) (w' : World) : Prop :=
  ∃ (g m : Nat) (zs : List Int), e = .returned (.agg #[.slice (some ⟨g, 0, none⟩) m m]) ∧ w.heap.size < g ∧ RowF w' g 105 (m * 4) (ints zs) ∧ zs.length = m * 4 ∧ archB zs m = true ∧ Below w.heap.size w w'
theorem rowF_lit (w : World) (t : TypeId) (zs : List Int) (m : Nat) (hs : zs.length = m) : RowF (w.alloc (.cells (zs.map (Value.int .i64)).toArray t)) w.heap.size t m (ints zs) := by
  subst hs
  have h := World.rowIs_alloc w (zs.map (Value.int .i64)).toArray t (ints zs) (fun j hj => by
    simp at hj
    simp [ints, nth_get _ _ hj, hj])
  have e : (zs.map (Value.int .i64)).toArray.size = zs.length := by simp
  rw [e] at h
  exact RowF.of_row h

def shp0 : List Int := [-8, 0, -11, 0, -6, 5, -8, 7, -2, 8, -3, 11, 2, 8, 3, 11, 6, 5, 8, 7, 8, 0, 11, 0]
theorem shp0_ok : archB shp0 6 = true := by decide
def shp1 : List Int := [0, 0, -2, 3, 5, 2, 4, 6, 11, 2, 12, 6, 16, 0, 18, 3]
theorem shp1_ok : archB shp1 4 = true := by decide
def shp2 : List Int := [0, 0, -3, 0, 2, 6, 0, 8, 6, 11, 6, 14, 10, 6, 12, 8, 12, 0, 15, 0]
theorem shp2_ok : archB shp2 5 = true := by decide
def shp3 : List Int := [0, 0, -1, 4, 4, 0, 4, 4, 8, 0, 8, 4, 12, 0, 13, 4]
theorem shp3_ok : archB shp3 4 = true := by decide
def shp4 : List Int := [-9, 0, -10, 0, -6, 7, -7, 8, 0, 9, 0, 10, 6, 7, 7, 8, 9, 0, 10, 0]
theorem shp4_ok : archB shp4 5 = true := by decide
def shp5 : List Int := [0, 0, -2, 2, 6, 4, 6, 7, 12, 2, 14, 4]
theorem shp5_ok : archB shp5 3 = true := by decide

set_option maxRecDepth 100000 in
set_option maxHeartbeats 12800000 in
theorem l06Shape_any (k : Int) (w : World) (h0 : 0 ≤ k) (h1 : k < 6) : Calls Try.prog 79 #[.int .i64 k] w (ShpPost w) := by
  have HB0 : Hid (Below w.heap.size w (w.alloc (.cells #[.slice none 0 0] 48))) := Lib.hid ((Below.refl _ _).alloc (Nat.le_refl _) _)
  have h : k = 0 ∨ k = 1 ∨ k = 2 ∨ k = 3 ∨ k = 4 ∨ k = 5 := by omega
  clear h0 h1
  rcases h with rfl | rfl | rfl | rfl | rfl | rfl
  · go_enter Try.func79, Try.ntmps79
    go_wp2
    refine bodyPost_ret (v := .agg #[.slice (some ⟨w.heap.size + 1, 0, none⟩) 6 6]) (by simp [results, Try.results79, go_sem]) rfl ?_
    refine ⟨w.heap.size + 1, 6, shp0, rfl, by omega, ?_, rfl, shp0_ok, ?_⟩
    · have h := rowF_lit (w.alloc (.cells #[.slice (some ⟨w.heap.size + 1, 0, none⟩) 6 6] 48)) 105 shp0 (6 * 4) rfl
      rw [World.size_alloc] at h
      exact h
    · exact (((Below.refl _ _).alloc (Nat.le_refl _) _).alloc (by simp) _)
  · go_enter Try.func79, Try.ntmps79
    go_wp2
    refine bodyPost_ret (v := .agg #[.slice (some ⟨w.heap.size + 1, 0, none⟩) 4 4]) (by simp [results, Try.results79, go_sem]) rfl ?_
    refine ⟨w.heap.size + 1, 4, shp1, rfl, by omega, ?_, rfl, shp1_ok, ?_⟩
    · have h := rowF_lit (w.alloc (.cells #[.slice (some ⟨w.heap.size + 1, 0, none⟩) 4 4] 48)) 105 shp1 (4 * 4) rfl
      rw [World.size_alloc] at h
      exact h
    · exact (((Below.refl _ _).alloc (Nat.le_refl _) _).alloc (by simp) _)
  · go_enter Try.func79, Try.ntmps79
    go_wp2
    refine bodyPost_ret (v := .agg #[.slice (some ⟨w.heap.size + 1, 0, none⟩) 5 5]) (by simp [results, Try.results79, go_sem]) rfl ?_
    refine ⟨w.heap.size + 1, 5, shp2, rfl, by omega, ?_, rfl, shp2_ok, ?_⟩
    · have h := rowF_lit (w.alloc (.cells #[.slice (some ⟨w.heap.size + 1, 0, none⟩) 5 5] 48)) 105 shp2 (5 * 4) rfl
      rw [World.size_alloc] at h
      exact h
    · exact (((Below.refl _ _).alloc (Nat.le_refl _) _).alloc (by simp) _)
  · go_enter Try.func79, Try.ntmps79
    go_wp2
    refine bodyPost_ret (v := .agg #[.slice (some ⟨w.heap.size + 1, 0, none⟩) 4 4]) (by simp [results, Try.results79, go_sem]) rfl ?_
    refine ⟨w.heap.size + 1, 4, shp3, rfl, by omega, ?_, rfl, shp3_ok, ?_⟩
    · have h := rowF_lit (w.alloc (.cells #[.slice (some ⟨w.heap.size + 1, 0, none⟩) 4 4] 48)) 105 shp3 (4 * 4) rfl
      rw [World.size_alloc] at h
      exact h
    · exact (((Below.refl _ _).alloc (Nat.le_refl _) _).alloc (by simp) _)
  · go_enter Try.func79, Try.ntmps79
    go_wp2
    refine bodyPost_ret (v := .agg #[.slice (some ⟨w.heap.size + 1, 0, none⟩) 5 5]) (by simp [results, Try.results79, go_sem]) rfl ?_
    refine ⟨w.heap.size + 1, 5, shp4, rfl, by omega, ?_, rfl, shp4_ok, ?_⟩
    · have h := rowF_lit (w.alloc (.cells #[.slice (some ⟨w.heap.size + 1, 0, none⟩) 5 5] 48)) 105 shp4 (5 * 4) rfl
      rw [World.size_alloc] at h
      exact h
    · exact (((Below.refl _ _).alloc (Nat.le_refl _) _).alloc (by simp) _)
  · go_enter Try.func79, Try.ntmps79
    go_wp2
    refine bodyPost_ret (v := .agg #[.slice (some ⟨w.heap.size + 1, 0, none⟩) 3 3]) (by simp [results, Try.results79, go_sem]) rfl ?_
    refine ⟨w.heap.size + 1, 3, shp5, rfl, by omega, ?_, rfl, shp5_ok, ?_⟩
    · have h := rowF_lit (w.alloc (.cells #[.slice (some ⟨w.heap.size + 1, 0, none⟩) 3 3] 48)) 105 shp5 (3 * 4) rfl
      rw [World.size_alloc] at h
      exact h
    · exact (((Below.refl _ _).alloc (Nat.le_refl _) _).alloc (by simp) _)
end Go.Proofs.Ytplabaneihjcoaa
