/-
  Contracts: 'liftWeight' (an error that a variable of the package holds, or nil) and the least arm of a lift, in the program; the law.
-/
import Derived.Test.YtplabaneihjcoaaDoorWArm
namespace Go.Proofs.YtplabaneihjcoaaDoor
open Go.RowKit
set_option linter.unusedSimpArgs false

/-- The package's variable holds this error in world w. -/
def ErrAt (w : World) (T : TypeId) (v : Value) : Prop := 0 < w.heap.size ∧ w.cell? ⟨0, 0, none⟩ = some (.iface T v)
theorem ErrAt.lt {w : World} {T : TypeId} {v : Value} (h : ErrAt w T v) : 0 < w.heap.size := h.1
theorem ErrAt.below {w w' : World} {T : TypeId} {v : Value} {n : Nat} (h : ErrAt w T v) (hn : 0 < n) (hb : Below n w w') : ErrAt w' T v :=
  ⟨Nat.lt_of_lt_of_le h.1 hb.size, (hb.cell (p := ⟨0, 0, none⟩) hn).trans h.2⟩

set_option maxRecDepth 100000 in
set_option maxHeartbeats 800000 in
theorem liftW_no (p a x t : Int) (w : World) (ht : ¬ capI p a x < t) :
    Calls Tryd.prog 24 #[.agg #[.int .i64 p, .int .i64 a, .int .i64 x], .int .i64 t] w fun e w' => e = .returned .nilIface ∧ Below w.heap.size w w' := by
  go_enter Tryd.func24, Tryd.ntmps24
  go_wp2_with (go_at_call 17; refine (iCapacityOf_any _ _ _ _).mono ?_; rintro e w1 ⟨rfl, hb1⟩)
  go_ret
  exact ⟨rfl, ((Below.refl _ _).alloc (Nat.le_refl _) _).trans (hb1.mono (by simp))⟩

set_option maxRecDepth 100000 in
set_option maxHeartbeats 800000 in
theorem liftW_yes (p a x t : Int) (T : TypeId) (v : Value) (w : World) (hE : ErrAt w T v) (ht : capI p a x < t) :
    Calls Tryd.prog 24 #[.agg #[.int .i64 p, .int .i64 a, .int .i64 x], .int .i64 t] w fun e w' => e = .returned (.iface T v) ∧ Below w.heap.size w w' := by
  have HE := Lib.hid hE
  clear hE
  go_enter Tryd.func24, Tryd.ntmps24
  go_wp2_with fail
  refine (iCapacityOf_any _ _ _ _).mono ?_
  rintro e w1 ⟨rfl, hb1⟩
  have hB : Below w.heap.size w w1 := ((Below.refl _ _).alloc (Nat.le_refl _) _).trans (hb1.mono (by simp))
  have hg := (HE.out.below HE.out.1 hB).2
  have HB := Lib.hid hB
  clear hB hb1
  go_wp2
  go_ret
  exact ⟨rfl, HB.out⟩

set_option maxRecDepth 100000 in
set_option maxHeartbeats 800000 in
theorem iLeastArm_any (p x t : Int) (T : TypeId) (v : Value) (w : World) (hE : ErrAt w T v) : Calls Tryd.prog 7 #[.int .i64 p, .int .i64 x, .int .i64 t] w fun e w' => e = .returned (.int .i64 (armI p x t)) ∧ Below w.heap.size w w' := by
  have HE := Lib.hid hE
  clear hE
  go_enter Tryd.func7, Tryd.ntmps7
  go_wp2
  go_loopw [7] (fun i wr => ∃ k : Nat, k ≤ 200 ∧ i = .int .i64 ((k : Int) + 1) ∧ armAt p x t k ∧ Below w.heap.size w wr) (fun i _ => 201 - (intOf i).toNat)
  case atStart => exact ⟨0, by omega, by simp, armAt_0 p x t, Below.refl _ _⟩
  case round =>
    obtain ⟨k, hk, rfl, hat, hb⟩ := hrel
    have HA := Lib.hid hat
    have hz := hb.size
    have HB0 := Lib.hid (hb.alloc hz (.cells #[.int .i64 p, .int .i64 ((k : Int) + 1), .int .i64 x] 31))
    clear hat
    by_cases hlt : k < 200
    · have hle : (k : Int) + 1 ≤ 200 := by omega
      have HK := Lib.hid hlt
      cases hl : liftB p ((k : Int) + 1) x
      · have HF := Lib.hid (armB_f1 (t := t) hl)
        go_wp2_with fail
        refine (iLiftOk_any _ _ _ _).mono ?_
        rw [hl]
        rintro e w1 ⟨rfl, hb1⟩
        have HB := Lib.hid (HB0.out.trans (hb1.mono (by simp; omega)))
        clear hb1 hb
        go_wp2
        go_roundw
        case rel => exact ⟨k + 1, by omega, by go_num, armAt_next HA.out HK.out HF.out, HB.out⟩
        case measure => simp [intOf]; omega
      · by_cases hc : t ≤ capI p ((k : Int) + 1) x
        · have HF := Lib.hid (armB_t hl hc)
          go_wp2_with fail
          refine (iLiftOk_any _ _ _ _).mono ?_
          rw [hl]
          rintro e w1 ⟨rfl, hb1⟩
          obtain ⟨hc1, hf1⟩ := bcell hb1
          have HB := Lib.hid (HB0.out.trans (hb1.mono (by simp; omega)))
          have hz1 := hb1.size
          clear hb
          go_wp2_with fail
          refine (liftW_no _ _ _ _ _ (by omega)).mono ?_
          rintro e w2 ⟨rfl, hb2⟩
          have HC := Lib.hid (HB.out.trans (hb2.mono (by have := hb1.size; simp at this; omega)))
          clear hb2
          go_wp2
          go_ret
          exact ⟨ret_int (armAt_hit HA.out HK.out HF.out).symm, HC.out⟩
        · have HF := Lib.hid (armB_f2 (p := p) (x := x) hc)
          go_wp2_with fail
          refine (iLiftOk_any _ _ _ _).mono ?_
          rw [hl]
          rintro e w1 ⟨rfl, hb1⟩
          obtain ⟨hc1, hf1⟩ := bcell hb1
          have HB := Lib.hid (HB0.out.trans (hb1.mono (by simp; omega)))
          have hz1 := hb1.size
          clear hb
          go_wp2_with fail
          refine (liftW_yes _ _ _ _ T v _ (HE.out.below HE.out.1 HB.out) (by omega)).mono ?_
          rintro e w2 ⟨rfl, hb2⟩
          have HC := Lib.hid (HB.out.trans (hb2.mono (by have := hb1.size; simp at this; omega)))
          clear hb2
          go_wp2
          go_roundw
          case rel => exact ⟨k + 1, by omega, by go_num, armAt_next HA.out HK.out HF.out, HC.out⟩
          case measure => simp [intOf]; omega
    · obtain rfl : k = 200 := by omega
      go_wp2
      go_ret
      exact ⟨ret_int (armAt_end HA.out).symm, hb⟩

theorem fnExactLeastArm.walk (p x t : Int) (T : TypeId) (v : Value) (w : World) (hE : ErrAt w T v) :
    Calls Tryd.prog 3 #[.int .i64 p, .int .i64 x, .int .i64 t] w fun e w' => e = .returned (.bool true) ∧ Below w.heap.size w w' := by
  go_enter Tryd.func3, Tryd.ntmps3
  go_wp2_with fail
  refine (sLeastArm_any _ _ _ _).mono ?_
  rintro e w1 ⟨rfl, hb1⟩
  go_wp2_with fail
  refine (iLeastArm_any _ _ _ T v _ (hE.below hE.1 hb1)).mono ?_
  rintro e w2 ⟨rfl, hb2⟩
  go_wp2
  go_ret
  exact ⟨rfl, hb1.trans (hb2.mono hb1.size)⟩

end Go.Proofs.YtplabaneihjcoaaDoor
