/-
  Contracts: the validity of pieces; cutting in order.
-/
import Derived.Test.YtplabaneihjcoaaWInts
import Derived.Test.YtplabaneihjcoaaProg
import Derived.WalkKit
import Derived.Outline
import Derived.Test.YtplabaneihjcoaaWSmall
import Derived.Test.YtplabaneihjcoaaPCut
import Derived.RegionTactic
namespace Go.Proofs.Ytplabaneihjcoaa
open Go.RowKit

set_option maxHeartbeats 400000 in
theorem sizesOk_any (A : Option Addr) (n c : Nat) (zs : List Int) (len : Int) (w : World) (h : IntsAt w w.heap.size A n zs) (hn : n ≤ 1048576) :
    Calls Try.prog 58 #[.slice A n c, .int .i64 len] w fun e w' => e = .returned (.bool (okB zs len)) ∧ w = w' := by
  have H := Lib.hid h
  clear h
  cases hB : inB len 1 1000
  · have HF := Lib.hid (okB_f1 (zs := zs) hB)
    go_enter Try.func58, Try.ntmps58
    go_wp2_with (go_at_call 36; refine (within_any _ _ _ _).mono ?_; rintro e w' ⟨rfl, rfl⟩)
    go_ret
    exact ⟨ret_bool HF.out.symm, rfl⟩
  by_cases h10 : n ≤ 10
  · have h10' : ¬ (10 : Int) < (n : Int) := by omega
    go_enter Try.func58, Try.ntmps58
    go_wp2_with (go_at_call 36; refine (within_any _ _ _ _).mono ?_; rintro e w' ⟨rfl, rfl⟩)
    go_loop [17, 6] (fun i _ => ∃ k : Nat, k ≤ n ∧ i = .int .i64 k ∧ allOk zs len k) (fun i _ => n - (intOf i).toNat)
    case atStart => exact ⟨0, Nat.zero_le _, rfl, allOk_0 _ _⟩
    case round =>
      obtain ⟨k, hk, rfl, hag⟩ := hrel
      by_cases hlt : k < n
      · obtain ⟨b, off, rfl, hbB, hc⟩ := H.out.2 (by omega)
        have hcx : w.cell? ⟨b, off + k, none⟩ = some (.int .i64 (nth zs k)) := hc k hlt
        clear hc
        cases hB' : inB (nth zs k) 1 len
        · have HF := Lib.hid (okB_f3 (by rw [H.out.1]; exact hlt) hB')
          go_wp2_with (go_at_call 36; refine (within_any _ _ _ _).mono ?_; rintro e w' ⟨rfl, rfl⟩)
          go_ret
          exact ⟨ret_bool HF.out.symm, rfl⟩
        · have HF := Lib.hid (allOk_step hag hB')
          go_wp2_with (go_at_call 36; refine (within_any _ _ _ _).mono ?_; rintro e w' ⟨rfl, rfl⟩)
          go_round
          case rel => exact ⟨k + 1, by omega, by go_num, HF.out⟩
          case measure => simp [intOf]; omega
      · have hkn : k = n := by omega
        subst hkn
        have HF := Lib.hid (okB_t hB (by rw [H.out.1]; exact h10) (by rw [H.out.1]; exact hag))
        go_wp2
        go_ret
        exact ⟨ret_bool HF.out.symm, rfl⟩
  · have h10' : (10 : Int) < (n : Int) := by omega
    have HF := Lib.hid (okB_f2 (len := len) (by rw [H.out.1]; omega))
    go_enter Try.func58, Try.ntmps58
    go_wp2_with (go_at_call 36; refine (within_any _ _ _ _).mono ?_; rintro e w' ⟨rfl, rfl⟩)
    go_ret
    exact ⟨ret_bool HF.out.symm, rfl⟩

end Go.Proofs.Ytplabaneihjcoaa
