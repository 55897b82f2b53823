/-
  Contracts: the least arm of a lift, in the reference and in the program (there by way of an error that a variable of the package holds), and the law.
-/
import Derived.Test.YtplabaneihjcoaaDoorWLift
import Derived.LaidEql
namespace Go.Proofs.YtplabaneihjcoaaDoor
open Go.RowKit
set_option linter.unusedSimpArgs false

/-- With this arm the weight can be lifted. -/
def armB (p x t a : Int) : Bool := liftB p a x && decide (t ≤ capI p a x)
theorem armB_f1 {p x t a : Int} (h : liftB p a x = false) : armB p x t a = false := by simp [armB, h]
theorem armB_f2 {p x t a : Int} (h : ¬ t ≤ capI p a x) : armB p x t a = false := by simp [armB, h]
theorem armB_t {p x t a : Int} (h : liftB p a x = true) (h2 : t ≤ capI p a x) : armB p x t a = true := by simp [armB, h, h2]
/-- The first arm from a on, of m arms. -/
def armF (p x t : Int) : Nat → Int → Int
  | 0, _ => -1
  | m + 1, a => if armB p x t a = true then a else armF p x t m (a + 1)
def armI (p x t : Int) : Int := armF p x t 200 1
theorem armF_t {p x t : Int} {m : Nat} {a : Int} (h : armB p x t a = true) : armF p x t (m + 1) a = a := by simp [armF, h]
theorem armF_f {p x t : Int} {m : Nat} {a : Int} (h : armB p x t a = false) : armF p x t (m + 1) a = armF p x t m (a + 1) := by simp [armF, h]
theorem armF_bd (p x t : Int) : ∀ (m : Nat) (a : Int), 1 ≤ a → a + m ≤ 1000 → -1 ≤ armF p x t m a ∧ armF p x t m a ≤ 1000
  | 0, _, _, _ => by simp [armF]
  | m + 1, a, h1, h2 => by
    unfold armF
    split
    · omega
    · exact armF_bd p x t m (a + 1) (by omega) (by omega)
/-- From arm k + 1 on the search says what the whole search says. -/
def armAt (p x t : Int) (k : Nat) : Prop := armI p x t = armF p x t (200 - k) ((k : Int) + 1)
theorem armAt_0 (p x t : Int) : armAt p x t 0 := rfl
theorem armAt_next {p x t : Int} {k : Nat} (h : armAt p x t k) (hk : k < 200) (hb : armB p x t ((k : Int) + 1) = false) : armAt p x t (k + 1) := by
  unfold armAt at *
  obtain ⟨m, hm⟩ : ∃ m, 200 - k = m + 1 := ⟨199 - k, by omega⟩
  rw [hm, armF_f hb] at h
  rw [h, show 200 - (k + 1) = m by omega]
  simp
theorem armAt_hit {p x t : Int} {k : Nat} (h : armAt p x t k) (hk : k < 200) (hb : armB p x t ((k : Int) + 1) = true) : armI p x t = (k : Int) + 1 := by
  unfold armAt at h
  obtain ⟨m, hm⟩ : ∃ m, 200 - k = m + 1 := ⟨199 - k, by omega⟩
  rw [hm, armF_t hb] at h
  exact h
theorem armAt_end {p x t : Int} (h : armAt p x t 200) : armI p x t = -1 := by
  unfold armAt at h
  simpa [armF] using h

set_option maxRecDepth 100000 in
set_option maxHeartbeats 800000 in
theorem sLeastArm_any (p x t : Int) (w : World) : Calls Tryd.prog 6 #[.int .i64 p, .int .i64 x, .int .i64 t] w fun e w' => e = .returned (.int .i64 (armI p x t)) ∧ Below w.heap.size w w' := by
  go_enter Tryd.func6, Tryd.ntmps6
  go_wp2
  go_loopw [7] (fun i wr => ∃ k : Nat, k ≤ 200 ∧ i = .int .i64 ((k : Int) + 1) ∧ armAt p x t k ∧ Below w.heap.size w wr) (fun i _ => 201 - (intOf i).toNat)
  case atStart => exact ⟨0, by omega, by simp, armAt_0 p x t, Below.refl _ _⟩
  case round =>
    obtain ⟨k, hk, rfl, hat, hb⟩ := hrel
    have HA := Lib.hid hat
    have hz := hb.size
    have HB0 := Lib.hid (hb.alloc hz (.cells #[.int .i64 p, .int .i64 ((k : Int) + 1), .int .i64 x] 31))
    clear hat
    by_cases hlt : k < 200
    · have hle : (k : Int) + 1 ≤ 200 := by omega
      have HK := Lib.hid hlt
      cases hl : liftB p ((k : Int) + 1) x
      · have HF := Lib.hid (armB_f1 (t := t) hl)
        go_wp2_with fail
        refine (sLiftOk_any _ _ _ _).mono ?_
        rw [hl]
        rintro e w1 ⟨rfl, hb1⟩
        have HB := Lib.hid (HB0.out.trans (hb1.mono (by simp; omega)))
        clear hb1 hb
        go_wp2
        go_roundw
        case rel => exact ⟨k + 1, by omega, by go_num, armAt_next HA.out HK.out HF.out, HB.out⟩
        case measure => simp [intOf]; omega
      · have hl' := Lib.hid hl
        by_cases hc : t ≤ capI p ((k : Int) + 1) x
        · have HF := Lib.hid (armB_t hl hc)
          have hcap := capI_bd p ((k : Int) + 1) x
          go_wp2_with fail
          refine (sLiftOk_any _ _ _ _).mono ?_
          rw [hl]
          rintro e w1 ⟨rfl, hb1⟩
          obtain ⟨hc1, hf1⟩ := bcell hb1
          have HB := Lib.hid (HB0.out.trans (hb1.mono (by simp; omega)))
          have hz1 := hb1.size
          clear hb
          go_wp2_with fail
          refine (sCapacityOf_any _ _ _ _).mono ?_
          rintro e w2 ⟨rfl, hb2⟩
          have HC := Lib.hid (HB.out.trans (hb2.mono (by have := hb1.size; simp at this; omega)))
          clear hb2
          go_wp2
          go_ret
          exact ⟨ret_int (armAt_hit HA.out HK.out HF.out).symm, HC.out⟩
        · have HF := Lib.hid (armB_f2 (p := p) (x := x) hc)
          have hcap := capI_bd p ((k : Int) + 1) x
          go_wp2_with fail
          refine (sLiftOk_any _ _ _ _).mono ?_
          rw [hl]
          rintro e w1 ⟨rfl, hb1⟩
          obtain ⟨hc1, hf1⟩ := bcell hb1
          have HB := Lib.hid (HB0.out.trans (hb1.mono (by simp; omega)))
          have hz1 := hb1.size
          clear hb
          go_wp2_with fail
          refine (sCapacityOf_any _ _ _ _).mono ?_
          rintro e w2 ⟨rfl, hb2⟩
          have HC := Lib.hid (HB.out.trans (hb2.mono (by have := hb1.size; simp at this; omega)))
          clear hb2
          go_wp2
          go_roundw
          case rel => exact ⟨k + 1, by omega, by go_num, armAt_next HA.out HK.out HF.out, HC.out⟩
          case measure => simp [intOf]; omega
    · obtain rfl : k = 200 := by omega
      go_wp2
      go_ret
      exact ⟨ret_int (armAt_end HA.out).symm, hb⟩

end Go.Proofs.YtplabaneihjcoaaDoor
