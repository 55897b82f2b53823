/-
  Contracts: KeyOf and CountCracks, in the program and in the reference.
-/
import Derived.Test.YtfjnodjklidgfaaWInts
namespace Go.Proofs.Ytfjnodjklidgfaa
open Go.RowKit

/-- The last number of a list; -1 if there is none. -/
def keyL (zs : List Int) : Int := if zs.length = 0 then -1 else nth zs (zs.length - 1)

set_option maxHeartbeats 400000 in
theorem sKeyOf_any (A : Option Addr) (n c : Nat) (zs : List Int) (w : World) (h : IntsAt w w.heap.size A n zs) (hn : n ≤ 1048576) :
    Calls Try.prog 23 #[.slice A n c] w fun e w' => e = .returned (.int .i64 (keyL zs)) ∧ w = w' := by
  by_cases h0 : n = 0
  · have ht : ((n : Int) == 0) = true := by simp [h0]
    have HK := Lib.hid (show keyL zs = -1 by simp [keyL, h.1, h0])
    clear h0 h
    go_enter Try.func23, Try.ntmps23
    go_wp2
    go_ret
    exact ⟨ret_int HK.out.symm, rfl⟩
  · have ht : ((n : Int) == 0) = false := by simp; omega
    obtain ⟨b, off, rfl, hb, hc⟩ := h.2 (by omega)
    have hn1 : (1 : Int) ≤ (n : Int) := by omega
    have hcc : w.cell? ⟨b, off + (n - 1), none⟩ = some (.int .i64 (nth zs (n - 1))) := hc (n - 1) (by omega)
    have HK := Lib.hid (show keyL zs = nth zs (n - 1) by simp [keyL, h.1, h0])
    clear h hc h0
    go_enter Try.func23, Try.ntmps23
    go_wp2
    go_ret
    exact ⟨ret_int HK.out.symm, rfl⟩

set_option maxHeartbeats 400000 in
theorem iKeyOf_any (A : Option Addr) (n c : Nat) (zs : List Int) (w : World) (h : IntsAt w w.heap.size A n zs) (hn : n ≤ 1048576) :
    Calls Try.prog 25 #[.slice A n c] w fun e w' => e = .returned (.int .i64 (keyL zs)) ∧ w = w' := by
  by_cases h0 : n = 0
  · have ht : ((n : Int) == 0) = true := by simp [h0]
    have HK := Lib.hid (show keyL zs = -1 by simp [keyL, h.1, h0])
    clear h0 h
    go_enter Try.func25, Try.ntmps25
    go_wp2
    go_ret
    exact ⟨ret_int HK.out.symm, rfl⟩
  · have ht : ((n : Int) == 0) = false := by simp; omega
    obtain ⟨b, off, rfl, hb, hc⟩ := h.2 (by omega)
    have hn1 : (1 : Int) ≤ (n : Int) := by omega
    have hcc : w.cell? ⟨b, off + (n - 1), none⟩ = some (.int .i64 (nth zs (n - 1))) := hc (n - 1) (by omega)
    have HK := Lib.hid (show keyL zs = nth zs (n - 1) by simp [keyL, h.1, h0])
    clear h hc h0
    go_enter Try.func25, Try.ntmps25
    go_wp2
    go_ret
    exact ⟨ret_int HK.out.symm, rfl⟩

/-- How many of the first k numbers are not 0. -/
def cnt (zs : List Int) : Nat → Nat
  | 0 => 0
  | k + 1 => cnt zs k + (if nth zs k = 0 then 0 else 1)
theorem cnt_le (zs : List Int) : ∀ k, cnt zs k ≤ k
  | 0 => Nat.le_refl _
  | k + 1 => by have := cnt_le zs k; unfold cnt; split <;> omega
theorem cnt_hit {zs : List Int} {k : Nat} (h : nth zs k ≠ 0) : cnt zs (k + 1) = cnt zs k + 1 := by simp [cnt, h]
theorem cnt_miss {zs : List Int} {k : Nat} (h : nth zs k = 0) : cnt zs (k + 1) = cnt zs k := by simp [cnt, h]

set_option maxHeartbeats 400000 in
theorem sCountCracks_any (A : Option Addr) (n c : Nat) (zs : List Int) (w : World) (h : IntsAt w w.heap.size A n zs) (hn : n ≤ 1048576) :
    Calls Try.prog 27 #[.slice A n c] w fun e w' => e = .returned (.int .i64 (cnt zs n)) ∧ w = w' := by
  have H := Lib.hid h
  clear h
  go_enter Try.func27, Try.ntmps27
  go_wp2
  go_loop [3, 4] (fun r i => ∃ k : Nat, k ≤ n ∧ i = .int .i64 k ∧ r = .int .i64 (cnt zs k)) (fun _ i => n - (intOf i).toNat)
  case atStart => exact ⟨0, Nat.zero_le _, rfl, rfl⟩
  case round =>
    obtain ⟨k, hk, rfl, rfl⟩ := hrel
    have hcl := cnt_le zs k
    by_cases hlt : k < n
    · obtain ⟨b, off, rfl, hbB, hc⟩ := H.out.2 (by omega)
      have hcx : w.cell? ⟨b, off + k, none⟩ = some (.int .i64 (nth zs k)) := hc k hlt
      clear hc
      by_cases h0 : nth zs k = 0
      · have ht : (nth zs k != 0) = false := by simp [h0]
        have HE := Lib.hid (cnt_miss h0)
        clear h0
        go_wp2
        go_round
        case rel => exact ⟨k + 1, by omega, by go_num, by rw [HE.out]⟩
        case measure => simp [intOf]; omega
      · have ht : (nth zs k != 0) = true := by simp [h0]
        have HE := Lib.hid (cnt_hit h0)
        clear h0
        go_wp2
        go_round
        case rel => exact ⟨k + 1, by omega, by go_num, by rw [HE.out]; go_num⟩
        case measure => simp [intOf]; omega
    · have hkn : k = n := by omega
      subst hkn
      go_wp2
      go_ret
      exact ⟨rfl, rfl⟩

set_option maxHeartbeats 400000 in
theorem iCountCracks_any (A : Option Addr) (n c : Nat) (zs : List Int) (w : World) (h : IntsAt w w.heap.size A n zs) (hn : n ≤ 1048576) :
    Calls Try.prog 28 #[.slice A n c] w fun e w' => e = .returned (.int .i64 (cnt zs n)) ∧ w = w' := by
  have H := Lib.hid h
  clear h
  go_enter Try.func28, Try.ntmps28
  go_wp2
  go_loop [3, 8, 5] (fun r i _ => ∃ k : Nat, k ≤ n ∧ i = .int .i64 k ∧ r = .int .i64 (cnt zs k)) (fun _ i _ => n - (intOf i).toNat)
  case atStart => exact ⟨0, Nat.zero_le _, rfl, rfl⟩
  case round =>
    obtain ⟨k, hk, rfl, rfl⟩ := hrel
    have hcl := cnt_le zs k
    by_cases hlt : k < n
    · obtain ⟨b, off, rfl, hbB, hc⟩ := H.out.2 (by omega)
      have hcx : w.cell? ⟨b, off + k, none⟩ = some (.int .i64 (nth zs k)) := hc k hlt
      clear hc
      by_cases h0 : nth zs k = 0
      · have ht : (nth zs k != 0) = false := by simp [h0]
        have HE := Lib.hid (cnt_miss h0)
        clear h0
        go_wp2
        go_round
        case rel => exact ⟨k + 1, by omega, by go_num, by rw [HE.out]⟩
        case measure => simp [intOf]; omega
      · have ht : (nth zs k != 0) = true := by simp [h0]
        have HE := Lib.hid (cnt_hit h0)
        clear h0
        go_wp2
        go_round
        case rel => exact ⟨k + 1, by omega, by go_num, by rw [HE.out]; go_num⟩
        case measure => simp [intOf]; omega
    · have hkn : k = n := by omega
      subst hkn
      go_wp2
      go_ret
      exact ⟨rfl, rfl⟩

end Go.Proofs.Ytfjnodjklidgfaa
