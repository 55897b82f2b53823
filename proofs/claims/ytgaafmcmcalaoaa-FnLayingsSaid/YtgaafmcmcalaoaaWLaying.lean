/-
  Contracts: IsLaying, in the reference and in the program.
-/
import Derived.Test.YtgaafmcmcalaoaaWSides
import Derived.Test.YtgaafmcmcalaoaaWInts
namespace Go.Proofs.Ytgaafmcmcalaoaa
open Go.RowKit
set_option linter.unusedSimpArgs false

def layB (m : Int) (zs : List Int) (len : Nat) : Bool := inB m 1 8 && (decide ((len : Int) = m) && decide (((sidesL m zs).length : Int) = m))
theorem layB_1 {m : Int} (zs : List Int) (len : Nat) (h : inB m 1 8 = false) : layB m zs len = false := by simp [layB, h]
theorem layB_2 {m : Int} (zs : List Int) {len : Nat} (h : ¬ (len : Int) = m) : layB m zs len = false := by simp [layB, h]
theorem layB_3 {m : Int} {zs : List Int} (len : Nat) (h : ¬ ((sidesL m zs).length : Int) = m) : layB m zs len = false := by simp [layB, h]
theorem layB_t {m : Int} {zs : List Int} {len : Nat} (h1 : inB m 1 8 = true) (h2 : (len : Int) = m) (h3 : ((sidesL m zs).length : Int) = m) : layB m zs len = true := by simp [layB, h1, h2, h3]

theorem iIsLaying_any (m : Int) (A : Option Addr) (len cap : Nat) (zs : List Int) (w : World) (hc : IntsAt w w.heap.size A len zs) :
    Calls Try.prog 10 #[.int .i64 m, .slice A len cap] w fun e w' => e = .returned (.bool (layB m zs len)) ∧ Below w.heap.size w w' := by
  cases h1 : inB m 1 8
  · have HF := Lib.hid (layB_1 zs len h1)
    go_enter Try.func10, Try.ntmps10
    go_wp2_with (go_at_call 34; refine (within_any _ _ _ _).mono ?_; rw [h1]; rintro e w' ⟨rfl, rfl⟩)
    go_ret
    exact ⟨ret_bool HF.out.symm, Below.refl _ _⟩
  · have hm := inB_iff.1 h1
    by_cases h2 : (len : Int) = m
    · have hl8 : len ≤ 8 := by omega
      have t2 : ((len : Int) == m) = true := by simp [h2]
      have HX : Hid (layB m zs len = ((((sidesL m zs).length : Nat) : Int) == m)) := by
        show layB m zs len = ((((sidesL m zs).length : Nat) : Int) == m)
        simp [layB, h1, h2, BEq.beq]
      clear h2
      go_enter Try.func10, Try.ntmps10
      go_wp2_with (go_at_call 34; refine (within_any _ _ _ _).mono ?_; rw [h1]; rintro e w' ⟨rfl, rfl⟩)
      refine (laidOf_any m A len cap zs hm hl8 _ hc).mono ?_
      rintro e w1 ⟨rfl, hb1⟩
      go_wp2
      go_ret
      exact ⟨ret_bool HX.out.symm, hb1⟩
    · have HF := Lib.hid (layB_2 zs h2)
      have t2 : ((len : Int) == m) = false := by simp [h2]
      clear h2
      go_enter Try.func10, Try.ntmps10
      go_wp2_with (go_at_call 34; refine (within_any _ _ _ _).mono ?_; rw [h1]; rintro e w' ⟨rfl, rfl⟩)
      go_ret
      exact ⟨ret_bool HF.out.symm, Below.refl _ _⟩

set_option maxHeartbeats 800000 in
theorem sIsLaying_any (m : Int) (A : Option Addr) (len cap : Nat) (zs : List Int) (w : World) (hc : IntsAt w w.heap.size A len zs) :
    Calls Try.prog 8 #[.int .i64 m, .slice A len cap] w fun e w' => e = .returned (.bool (layB m zs len)) ∧ w = w' := by
  cases h1 : inB m 1 8
  · have HF := Lib.hid (layB_1 zs len h1)
    go_enter Try.func8, Try.ntmps8
    go_wp2_with (go_at_call 33; refine (l01In_any _ _ _ _).mono ?_; rw [h1]; rintro e w' ⟨rfl, rfl⟩)
    go_ret
    exact ⟨ret_bool HF.out.symm, rfl⟩
  · have hm := inB_iff.1 h1
    by_cases h2 : (len : Int) = m
    · subst h2
      have t2 : ((len : Int) != (len : Int)) = false := by simp
      have HC := Lib.hid hc
      have HZ := Lib.hid hc.1
      have HT := Lib.hid (fun h3 => layB_t (zs := zs) h1 rfl h3)
      clear hc
      go_enter Try.func8, Try.ntmps8
      go_wp2_with (go_at_call 33; refine (l01In_any _ _ _ _).mono ?_; rw [h1]; rintro e w' ⟨rfl, rfl⟩)
      clear h1
      go_loop [5, 6, 7] (fun a b i => ∃ (k : Nat) (lf rt : Int), k ≤ len ∧ i = .int .i64 k ∧ a = .int .i64 lf ∧ b = .int .i64 ((len : Int) - 1 - rt) ∧ 0 ≤ lf ∧ 0 ≤ rt ∧ lf ≤ k ∧ rt ≤ k ∧ Hid (lf + rt = k) ∧ Hid ((sidesL len zs).length = k + (layGo len (zs.drop k) lf rt).length)) (fun _ _ i => len - (intOf i).toNat)
      case atStart => exact ⟨0, 0, 0, Nat.zero_le _, rfl, rfl, by go_num, by omega, by omega, by omega, by omega, rfl, by show _ = _; simp [sidesL]⟩
      case round =>
        obtain ⟨k, lf, rt, hk, rfl, rfl, rfl, hl0, hr0, hlk, hrk, HS, HP⟩ := hrel
        by_cases hlt : k < len
        · obtain ⟨b, off, rfl, hbB, hcc⟩ := HC.out.2 (by omega)
          have x0 := hcc k hlt
          have hkz : k < zs.length := by rw [HZ.out]; exact hlt
          have e0 : ¬ lf + rt = (len : Int) := by have := HS.out; omega
          clear hcc
          by_cases e1 : nth zs k = lf
          · have t3 : (nth zs k == lf) = true := by simp [e1]
            have HF := Lib.hid (layGo_left (r := rt) hkz e0 e1)
            clear e0 e1
            go_wp2
            go_round
            case rel => exact ⟨k + 1, lf + 1, rt, by omega, by go_num, by go_num, rfl, by omega, hr0, by omega, by omega, by have := HS.out; show _ = _; omega, by have h := HP.out; rw [HF.out] at h; show _ = _; simp at h; omega⟩
            case measure => simp [intOf]; omega
          · have t3 : (nth zs k == lf) = false := by simp [e1]
            by_cases e2 : nth zs k = (len : Int) - 1 - rt
            · have t4 : (nth zs k == (len : Int) - 1 - rt) = true := by simp [e2]
              have HF := Lib.hid (layGo_right (l := lf) hkz e0 e1 e2)
              clear e0 e1 e2
              go_wp2
              go_round
              case rel => exact ⟨k + 1, lf, rt + 1, by omega, by go_num, rfl, by go_num, hl0, by omega, by omega, by omega, by have := HS.out; show _ = _; omega, by have h := HP.out; rw [HF.out] at h; show _ = _; simp at h; omega⟩
              case measure => simp [intOf]; omega
            · have t4 : (nth zs k == (len : Int) - 1 - rt) = false := by simp [e2]
              have HF := Lib.hid (layGo_no hkz e0 e1 e2)
              have HB := Lib.hid (layB_3 (m := len) (zs := zs) len (by have h := HP.out; rw [HF.out] at h; simp at h; omega))
              clear e0 e1 e2
              go_wp2
              go_ret
              exact ⟨ret_bool HB.out.symm, rfl⟩
        · obtain rfl : k = len := by omega
          have HF := Lib.hid (layGo_end (n := (k : Int)) (l := lf) (r := rt) (zs := zs) (k := k) (by rw [HZ.out]; exact Nat.le_refl _))
          have HB := Lib.hid (HT.out (by have h := HP.out; rw [HF.out] at h; simp at h; omega))
          go_wp2
          go_ret
          exact ⟨ret_bool HB.out.symm, rfl⟩
    · have HF := Lib.hid (layB_2 zs h2)
      have t2 : ((len : Int) != m) = true := by simp [h2]
      clear h2
      go_enter Try.func8, Try.ntmps8
      go_wp2_with (go_at_call 33; refine (l01In_any _ _ _ _).mono ?_; rw [h1]; rintro e w' ⟨rfl, rfl⟩)
      go_ret
      exact ⟨ret_bool HF.out.symm, rfl⟩
end Go.Proofs.Ytgaafmcmcalaoaa
