/-
  Contract: the stone under a place.
-/
import Derived.Test.YtdjhiegolojoaaaPShare
import Derived.Test.YtdjhiegolojoaaaBoxS
namespace Go.Proofs.Ytdjhiegolojoaaa
open Go.RowKit
set_option linter.unusedSimpArgs false
set_option linter.unusedVariables false

set_option maxRecDepth 100000 in
set_option maxHeartbeats 3200000 in
theorem stoneUnder_any (A : Option Addr) (n c : Nat) (zs : List Int) (x : Int) (w : World) (h : RecsAt w w.heap.size 4 A n zs) (hn : 2 ≤ n) (hn8 : n ≤ 1048576) :
    Calls Try.prog 32 #[.agg #[.slice A n c], .int .i64 x] w fun e w' => e = .returned (.int .i64 (stoneU zs n x)) ∧ Below w.heap.size w w' := by
  have H := Lib.hid h
  have HB0 := Lib.hid ((Below.refl w.heap.size w).alloc (Nat.le_refl _) (.cells #[.slice A n c] 41))
  have HV0 := Lib.hid (rowF_new1S w (.slice A n c) 41)
  clear h
  obtain ⟨m, rfl⟩ : ∃ m, n = m + 2 := ⟨n - 2, by omega⟩
  have e0 : IntKind.i64.wrap (((m + 2 : Nat) : Int) - 2) = (m : Int) := by rw [show ((m + 2 : Nat) : Int) - 2 = (m : Int) by omega]; exact IntWalk.i64_in _ (by omega)
  have HU : Hid (stoneU zs (m + 2) x = stU (stopAt zs x) m) := Lib.hid rfl
  obtain ⟨b, off, rfl, hbB, hc⟩ := H.out.2 (by omega)
  have HC := Lib.hid hc
  clear hc
  go_enter Try.func32, Try.ntmps32
  go_wp2
  go_loopw [12] (fun v12 wr => ∃ k : Nat, v12 = .int .i64 k ∧ k ≤ m ∧ Hid (∀ i, i < k → stopAt zs x i = false) ∧ Hid (RowF wr w.heap.size 41 1 (fun _ => .slice (some ⟨b, off, none⟩) (m + 2) c)) ∧ Hid (Below w.heap.size w wr)) (fun v12 _ => m - (intOf v12).toNat)
  case atStart => exact ⟨0, rfl, Nat.zero_le _, Lib.hid (fun i hi => absurd hi (by omega)), HV0, HB0⟩
  case round =>
    clear HB0 HV0
    obtain ⟨k, rfl, hk, HF, HV, HB⟩ := hrel
    have a0 : wr.cell? ⟨w.heap.size, 0, none⟩ = some (.slice (some ⟨b, off, none⟩) (m + 2) c) := HV.out.cell (i := 0) (by omega)
    by_cases hlt : k < m
    · have km : (k : Int) < (m : Int) := by omega
      have e1 : IntKind.i64.wrap ((k : Int) + 1) = (k : Int) + 1 := IntWalk.i64_in _ (by omega)
      have k1 : (0 : Int) ≤ (k : Int) + 1 := by omega
      have k2 : (k : Int) + 1 < ((m + 2 : Nat) : Int) := by omega
      have x0 : wr.cell? ⟨b, off + (k + 1) * 4, none⟩ = some (.int .i64 (nth zs ((k + 1) * 4))) := (HB.out.cell (p := ⟨b, off + (k + 1) * 4, none⟩) (by exact hbB)).trans (HC.out _ (by omega))
      have HP : Hid (stopAt zs x k = decide (x ≤ nth zs ((k + 1) * 4))) := rfl
      have e3 : ((k : Int) + 1).toNat = k + 1 := by omega
      generalize nth zs ((k + 1) * 4) = X at *
      by_cases hx : x ≤ X
      · have HT : Hid (stoneU zs (m + 2) x = k) := Lib.hid (by rw [HU.out]; exact stU_at HF.out (by rw [HP.out]; exact decide_eq_true hx) hlt)
        go_wp2
        all_goals (try go_quiet (fail))
        go_wp2
        go_ret
        exact ⟨ret_int (by rw [HT.out]), by first | exact HB.out | exact below_drewN HB.out _⟩
      · have HN : Hid (∀ i, i < k + 1 → stopAt zs x i = false) := Lib.hid (fun i hi => by
          by_cases e : i = k
          · subst e; rw [HP.out]; exact decide_eq_false hx
          · exact HF.out i (by omega))
        go_wp2
        go_roundw
        case rel => exact ⟨k + 1, by go_num, by omega, HN, HV, HB⟩
        case measure => simp [intOf]; omega
    · obtain rfl : m = k := by omega
      have km : ¬ (m : Int) < (m : Int) := by omega
      have HT : Hid (stoneU zs (m + 2) x = m) := Lib.hid (by rw [HU.out]; exact stU_all HF.out)
      go_wp2
      go_ret
      exact ⟨ret_int (by rw [HT.out]), HB.out⟩
end Go.Proofs.Ytdjhiegolojoaaa
