/-
  Contracts: marks of grown rows of joints and loads, and whether they hold.
-/
import Derived.Test.YtdjhiegolojoaaaRJoint
import Derived.Test.YtdjhiegolojoaaaRLoad
import Derived.Test.YtdjhiegolojoaaaWMark
import Derived.Test.YtdjhiegolojoaaaRow
namespace Go.Proofs.Ytdjhiegolojoaaa
open Go.RowKit
set_option linter.unusedSimpArgs false
set_option linter.unusedVariables false

set_option maxHeartbeats 800000 in
theorem markJointS_rowF (g n c : Nat) (f : Nat → Value) (k0 : Int) (w : World) (h : RowF w g 67 (n * 4) f) (hf : IntRow f) (hn : n ≤ 1048576) (h0 : 0 ≤ k0) (h1 : k0 ≤ 1000000000) :
    Calls Try.prog 59 #[.slice (some ⟨g, 0, none⟩) n c, .int .i64 k0] w fun e w' => e = .returned (.int .i64 (k0 + (n * 4 : Nat))) ∧ RowF w' g 67 (n * 4) (marks f k0 (n * 4)) ∧ Only g w w' := by
  have H := Lib.hid h
  have HFI := Lib.hid hf
  clear h hf
  go_enter Try.func59, Try.ntmps59
  go_wp2
  go_loopw [1, 5] (fun m i wr => ∃ k : Nat, k ≤ n ∧ i = .int .i64 k ∧ m = .int .i64 (k0 + (k * 4 : Nat)) ∧ RowF wr g 67 (n * 4) (marks f k0 (k * 4)) ∧ Only g w wr) (fun _ i _ => n - (intOf i).toNat)
  case atStart => exact ⟨0, Nat.zero_le _, rfl, by simp, by rw [Nat.zero_mul]; exact H.out.congr (fun j _ => (marks_0 f k0 j).symm), Only.refl _ _⟩
  case round =>
    obtain ⟨k, hk, rfl, rfl, hrow, ho⟩ := hrel
    have HR := Lib.hid hrow
    have HO := Lib.hid ho
    by_cases hlt : k < n
    ·
      obtain ⟨v0, e0⟩ : ∃ z : Int, marks f k0 (k * 4) (k * 4) = .int .i64 z := by
        obtain ⟨z, e⟩ := HFI.out (k * 4)
        exact ⟨z, by rw [marks, if_neg (by omega)]; exact e⟩
      have hc0 : wr.cell? ⟨g, k * 4, none⟩ = some (.int .i64 v0) := by rw [HR.out.cell (by omega), e0]
      have hf0 : wr.frozen? ⟨g, k * 4, none⟩ = false := HR.out.frozen _
      clear e0
      obtain ⟨v1, e1⟩ : ∃ z : Int, marks f k0 (k * 4) (k * 4 + 1) = .int .i64 z := by
        obtain ⟨z, e⟩ := HFI.out (k * 4 + 1)
        exact ⟨z, by rw [marks, if_neg (by omega)]; exact e⟩
      have hc1 : wr.cell? ⟨g, k * 4 + 1, none⟩ = some (.int .i64 v1) := by rw [HR.out.cell (by omega), e1]
      have hf1 : wr.frozen? ⟨g, k * 4 + 1, none⟩ = false := HR.out.frozen _
      clear e1
      obtain ⟨v2, e2⟩ : ∃ z : Int, marks f k0 (k * 4) (k * 4 + 2) = .int .i64 z := by
        obtain ⟨z, e⟩ := HFI.out (k * 4 + 2)
        exact ⟨z, by rw [marks, if_neg (by omega)]; exact e⟩
      have hc2 : wr.cell? ⟨g, k * 4 + 2, none⟩ = some (.int .i64 v2) := by rw [HR.out.cell (by omega), e2]
      have hf2 : wr.frozen? ⟨g, k * 4 + 2, none⟩ = false := HR.out.frozen _
      clear e2
      obtain ⟨v3, e3⟩ : ∃ z : Int, marks f k0 (k * 4) (k * 4 + 3) = .int .i64 z := by
        obtain ⟨z, e⟩ := HFI.out (k * 4 + 3)
        exact ⟨z, by rw [marks, if_neg (by omega)]; exact e⟩
      have hc3 : wr.cell? ⟨g, k * 4 + 3, none⟩ = some (.int .i64 v3) := by rw [HR.out.cell (by omega), e3]
      have hf3 : wr.frozen? ⟨g, k * 4 + 3, none⟩ = false := HR.out.frozen _
      clear e3
      clear hrow ho
      have hkk : (((k * 4 : Nat) : Nat) : Int) ≤ 1073741824 := by omega
      go_wp2
      go_roundw
      case rel =>
        refine ⟨k + 1, by omega, by go_num, by go_num, ?_, ((((HO.out.setCell _ _).setCell _ _).setCell _ _).setCell _ _)⟩
        have hs := (RowF.congr (RowF.set (RowF.congr (RowF.set (RowF.congr (RowF.set (RowF.congr (RowF.set HR.out (k * 4) (.int .i64 (k0 + ((k * 4 : Nat) : Int)))) (fun j _ => marks_step f k0 (k * 4) j)) (k * 4 + 1) (.int .i64 (k0 + ((k * 4 + 1 : Nat) : Int)))) (fun j _ => marks_step f k0 (k * 4 + 1) j)) (k * 4 + 2) (.int .i64 (k0 + ((k * 4 + 2 : Nat) : Int)))) (fun j _ => marks_step f k0 (k * 4 + 2) j)) (k * 4 + 3) (.int .i64 (k0 + ((k * 4 + 3 : Nat) : Int)))) (fun j _ => marks_step f k0 (k * 4 + 3) j))
        rw [Nat.add_mul, Nat.one_mul]
        simpa [Int.add_assoc] using hs
      case measure => simp [intOf]; omega
    · have hkn : k = n := by omega
      subst hkn
      clear hrow ho
      go_wp2
      go_ret
      exact ⟨rfl, HR.out, HO.out⟩

set_option maxHeartbeats 800000 in
theorem markLoadS_rowF (g n c : Nat) (f : Nat → Value) (k0 : Int) (w : World) (h : RowF w g 69 (n * 3) f) (hf : IntRow f) (hn : n ≤ 1048576) (h0 : 0 ≤ k0) (h1 : k0 ≤ 1000000000) :
    Calls Try.prog 60 #[.slice (some ⟨g, 0, none⟩) n c, .int .i64 k0] w fun e w' => e = .returned (.int .i64 (k0 + (n * 3 : Nat))) ∧ RowF w' g 69 (n * 3) (marks f k0 (n * 3)) ∧ Only g w w' := by
  have H := Lib.hid h
  have HFI := Lib.hid hf
  clear h hf
  go_enter Try.func60, Try.ntmps60
  go_wp2
  go_loopw [1, 5] (fun m i wr => ∃ k : Nat, k ≤ n ∧ i = .int .i64 k ∧ m = .int .i64 (k0 + (k * 3 : Nat)) ∧ RowF wr g 69 (n * 3) (marks f k0 (k * 3)) ∧ Only g w wr) (fun _ i _ => n - (intOf i).toNat)
  case atStart => exact ⟨0, Nat.zero_le _, rfl, by simp, by rw [Nat.zero_mul]; exact H.out.congr (fun j _ => (marks_0 f k0 j).symm), Only.refl _ _⟩
  case round =>
    obtain ⟨k, hk, rfl, rfl, hrow, ho⟩ := hrel
    have HR := Lib.hid hrow
    have HO := Lib.hid ho
    by_cases hlt : k < n
    ·
      obtain ⟨v0, e0⟩ : ∃ z : Int, marks f k0 (k * 3) (k * 3) = .int .i64 z := by
        obtain ⟨z, e⟩ := HFI.out (k * 3)
        exact ⟨z, by rw [marks, if_neg (by omega)]; exact e⟩
      have hc0 : wr.cell? ⟨g, k * 3, none⟩ = some (.int .i64 v0) := by rw [HR.out.cell (by omega), e0]
      have hf0 : wr.frozen? ⟨g, k * 3, none⟩ = false := HR.out.frozen _
      clear e0
      obtain ⟨v1, e1⟩ : ∃ z : Int, marks f k0 (k * 3) (k * 3 + 1) = .int .i64 z := by
        obtain ⟨z, e⟩ := HFI.out (k * 3 + 1)
        exact ⟨z, by rw [marks, if_neg (by omega)]; exact e⟩
      have hc1 : wr.cell? ⟨g, k * 3 + 1, none⟩ = some (.int .i64 v1) := by rw [HR.out.cell (by omega), e1]
      have hf1 : wr.frozen? ⟨g, k * 3 + 1, none⟩ = false := HR.out.frozen _
      clear e1
      obtain ⟨v2, e2⟩ : ∃ z : Int, marks f k0 (k * 3) (k * 3 + 2) = .int .i64 z := by
        obtain ⟨z, e⟩ := HFI.out (k * 3 + 2)
        exact ⟨z, by rw [marks, if_neg (by omega)]; exact e⟩
      have hc2 : wr.cell? ⟨g, k * 3 + 2, none⟩ = some (.int .i64 v2) := by rw [HR.out.cell (by omega), e2]
      have hf2 : wr.frozen? ⟨g, k * 3 + 2, none⟩ = false := HR.out.frozen _
      clear e2
      clear hrow ho
      have hkk : (((k * 3 : Nat) : Nat) : Int) ≤ 1073741824 := by omega
      go_wp2
      go_roundw
      case rel =>
        refine ⟨k + 1, by omega, by go_num, by go_num, ?_, (((HO.out.setCell _ _).setCell _ _).setCell _ _)⟩
        have hs := (RowF.congr (RowF.set (RowF.congr (RowF.set (RowF.congr (RowF.set HR.out (k * 3) (.int .i64 (k0 + ((k * 3 : Nat) : Int)))) (fun j _ => marks_step f k0 (k * 3) j)) (k * 3 + 1) (.int .i64 (k0 + ((k * 3 + 1 : Nat) : Int)))) (fun j _ => marks_step f k0 (k * 3 + 1) j)) (k * 3 + 2) (.int .i64 (k0 + ((k * 3 + 2 : Nat) : Int)))) (fun j _ => marks_step f k0 (k * 3 + 2) j))
        rw [Nat.add_mul, Nat.one_mul]
        simpa [Int.add_assoc] using hs
      case measure => simp [intOf]; omega
    · have hkn : k = n := by omega
      subst hkn
      clear hrow ho
      go_wp2
      go_ret
      exact ⟨rfl, HR.out, HO.out⟩

set_option maxHeartbeats 800000 in
theorem heldJointS_any (A : Option Addr) (n c : Nat) (k0 : Int) (w : World) (h : RecsAt w w.heap.size 4 A n (iota k0 (n * 4))) (hn : n ≤ 1048576) (h0 : 0 ≤ k0) (h1 : k0 ≤ 1000000000) :
    Calls Try.prog 61 #[.slice A n c, .int .i64 k0] w fun e w' => e = .returned (.int .i64 (k0 + (n * 4 : Nat))) ∧ w = w' := by
  have H := Lib.hid h
  clear h
  go_enter Try.func61, Try.ntmps61
  go_wp2
  go_loop [1, 5] (fun m i => ∃ k : Nat, k ≤ n ∧ i = .int .i64 k ∧ m = .int .i64 (k0 + (k * 4 : Nat))) (fun _ i => n - (intOf i).toNat)
  case atStart => exact ⟨0, Nat.zero_le _, rfl, by simp⟩
  case round =>
    obtain ⟨k, hk, rfl, rfl⟩ := hrel
    by_cases hlt : k < n
    · obtain ⟨b, off, rfl, hbB, hc⟩ := H.out.2 (by omega)
      have x0 := hc (k * 4) (by omega)
      have x1 := hc (k * 4 + 1) (by omega)
      have x2 := hc (k * 4 + 2) (by omega)
      have x3 := hc (k * 4 + 3) (by omega)
      rw [nth_iota (by omega)] at x0 x1 x2 x3
      rw [show off + (k * 4 + 1) = off + k * 4 + 1 by omega] at x1
      rw [show off + (k * 4 + 2) = off + k * 4 + 2 by omega] at x2
      rw [show off + (k * 4 + 3) = off + k * 4 + 3 by omega] at x3
      obtain ⟨z, hz⟩ : ∃ z : Int, z = k0 + ((k * 4 : Nat) : Int) := ⟨_, rfl⟩
      have hzb : 0 ≤ z ∧ z ≤ 1010000000 := by omega
      rw [← hz] at x0 ⊢
      rw [show k0 + ((k * 4 + 1 : Nat) : Int) = z + 1 by omega] at x1
      rw [show k0 + ((k * 4 + 2 : Nat) : Int) = z + 1 + 1 by omega] at x2
      rw [show k0 + ((k * 4 + 3 : Nat) : Int) = z + 1 + 1 + 1 by omega] at x3
      have HZ := Lib.hid (show z + 1 + 1 + 1 + 1 = k0 + (((k + 1) * 4 : Nat) : Int) by omega)
      have t0 : (z != z) = false := by simp
      have t1 : (z + 1 != z + 1) = false := by simp
      have t2 : (z + 1 + 1 != z + 1 + 1) = false := by simp
      have t3 : (z + 1 + 1 + 1 != z + 1 + 1 + 1) = false := by simp
      clear hc hz
      go_wp2
      go_round
      case rel => exact ⟨k + 1, by omega, by go_num, by first | rw [← HZ.out] | (rw [← HZ.out]; simp [Int.add_assoc])⟩
      case measure => simp [intOf]; omega
    · have hkn : k = n := by omega
      subst hkn
      go_wp2
      go_ret
      exact ⟨rfl, rfl⟩

set_option maxHeartbeats 800000 in
theorem heldLoadS_any (A : Option Addr) (n c : Nat) (k0 : Int) (w : World) (h : RecsAt w w.heap.size 3 A n (iota k0 (n * 3))) (hn : n ≤ 1048576) (h0 : 0 ≤ k0) (h1 : k0 ≤ 1000000000) :
    Calls Try.prog 62 #[.slice A n c, .int .i64 k0] w fun e w' => e = .returned (.int .i64 (k0 + (n * 3 : Nat))) ∧ w = w' := by
  have H := Lib.hid h
  clear h
  go_enter Try.func62, Try.ntmps62
  go_wp2
  go_loop [1, 5] (fun m i => ∃ k : Nat, k ≤ n ∧ i = .int .i64 k ∧ m = .int .i64 (k0 + (k * 3 : Nat))) (fun _ i => n - (intOf i).toNat)
  case atStart => exact ⟨0, Nat.zero_le _, rfl, by simp⟩
  case round =>
    obtain ⟨k, hk, rfl, rfl⟩ := hrel
    by_cases hlt : k < n
    · obtain ⟨b, off, rfl, hbB, hc⟩ := H.out.2 (by omega)
      have x0 := hc (k * 3) (by omega)
      have x1 := hc (k * 3 + 1) (by omega)
      have x2 := hc (k * 3 + 2) (by omega)
      rw [nth_iota (by omega)] at x0 x1 x2
      rw [show off + (k * 3 + 1) = off + k * 3 + 1 by omega] at x1
      rw [show off + (k * 3 + 2) = off + k * 3 + 2 by omega] at x2
      obtain ⟨z, hz⟩ : ∃ z : Int, z = k0 + ((k * 3 : Nat) : Int) := ⟨_, rfl⟩
      have hzb : 0 ≤ z ∧ z ≤ 1010000000 := by omega
      rw [← hz] at x0 ⊢
      rw [show k0 + ((k * 3 + 1 : Nat) : Int) = z + 1 by omega] at x1
      rw [show k0 + ((k * 3 + 2 : Nat) : Int) = z + 1 + 1 by omega] at x2
      have HZ := Lib.hid (show z + 1 + 1 + 1 = k0 + (((k + 1) * 3 : Nat) : Int) by omega)
      have t0 : (z != z) = false := by simp
      have t1 : (z + 1 != z + 1) = false := by simp
      have t2 : (z + 1 + 1 != z + 1 + 1) = false := by simp
      clear hc hz
      go_wp2
      go_round
      case rel => exact ⟨k + 1, by omega, by go_num, by first | rw [← HZ.out] | (rw [← HZ.out]; simp [Int.add_assoc])⟩
      case measure => simp [intOf]; omega
    · have hkn : k = n := by omega
      subst hkn
      go_wp2
      go_ret
      exact ⟨rfl, rfl⟩
end Go.Proofs.Ytdjhiegolojoaaa
