/-
  Contract: the fewest trips, in the program.
-/
import Derived.Test.YtplabaneihjcoaaDoorWFewI
import Derived.Test.YtplabaneihjcoaaDoorWLift
namespace Go.Proofs.YtplabaneihjcoaaDoor
open Go.RowKit
set_option linter.unusedVariables false

def tripsL (p a x : Int) (zs : List Int) : Int := if liftB p a x = true then fewI zs (capI p a x) else -1
theorem tripsL_t {p a x : Int} {zs : List Int} (h : liftB p a x = true) : tripsL p a x zs = fewI zs (capI p a x) := by simp [tripsL, h]
theorem tripsL_f {p a x : Int} {zs : List Int} (h : liftB p a x = false) : tripsL p a x zs = -1 := by simp [tripsL, h]
theorem few_big {zs : List Int} {len : Int} (h : 1000 < len) : fewI zs len = -1 := fewI_f (okB_f1 (inB_f (by omega)))

set_option maxHeartbeats 400000 in
theorem iFewestTrips_any (p a x : Int) (A : Option Addr) (n c : Nat) (zs : List Int) (w : World) (h : IntsAt w w.heap.size A n zs) (hn : n ≤ 1048576) :
    Calls Tryd.prog 21 #[.agg #[.int .i64 p, .int .i64 a, .int .i64 x], .slice A n c] w fun e w' => e = .returned (.int .i64 (tripsL p a x zs)) ∧ Below w.heap.size w w' := by
  cases hL : liftB p a x
  · have HF := Lib.hid (tripsL_f (zs := zs) hL)
    go_enter Tryd.func21, Tryd.ntmps21
    go_wp2_with (go_at_call 19; refine (iLiftOk_any _ _ _ _).mono ?_; rintro e w1 ⟨rfl, hb1⟩)
    go_ret
    exact ⟨ret_int HF.out.symm, ((Below.refl _ _).alloc (Nat.le_refl _) _).trans (hb1.mono (by simp))⟩
  · have HF := Lib.hid (tripsL_t (zs := zs) hL)
    go_enter Tryd.func21, Tryd.ntmps21
    go_wp2_with fail
    refine (iLiftOk_any _ _ _ _).mono ?_
    rintro e w1 ⟨rfl, hb1⟩
    obtain ⟨hc1, hf1⟩ := bcell hb1
    have z1 : w.heap.size < w1.heap.size := by have := hb1.size; simp at this; omega
    go_wp2_with fail
    refine (iCapacityOf_any _ _ _ _).mono ?_
    rintro e w2 ⟨rfl, hb2⟩
    have hB : Below w.heap.size w w2 := (((Below.refl _ _).alloc (Nat.le_refl _) _).trans (hb1.mono (by simp))).trans (hb2.mono (by omega))
    have h2 := (h.below hB).mono hB.size
    clear hc1 hf1
    go_wp2_with fail
    refine (iFewestBlocks_any _ _ _ zs _ _ h2 hn).mono ?_
    rintro e w4 ⟨rfl, hb4⟩
    go_wp2
    go_ret
    exact ⟨ret_int HF.out.symm, hB.trans (hb4.mono hB.size)⟩

end Go.Proofs.YtplabaneihjcoaaDoor
