/-
  Contract: KeyOf in the program.
-/
import Derived.Test.YtgaafmcmcalaoaaWInts
namespace Go.Proofs.Ytgaafmcmcalaoaa
open Go.RowKit

/-- The last number of a list; -1 if there is none. -/
def keyL (zs : List Int) : Int := if zs.length = 0 then -1 else nth zs (zs.length - 1)

set_option maxHeartbeats 400000 in
theorem iKeyOf_any (A : Option Addr) (n c : Nat) (zs : List Int) (w : World) (h : IntsAt w w.heap.size A n zs) (hn : n ≤ 1048576) :
    Calls Try.prog 24 #[.slice A n c] w fun e w' => e = .returned (.int .i64 (keyL zs)) ∧ w = w' := by
  by_cases h0 : n = 0
  · have ht : ((n : Int) == 0) = true := by simp [h0]
    have HK := Lib.hid (show keyL zs = -1 by simp [keyL, h.1, h0])
    clear h0 h
    go_enter Try.func24, Try.ntmps24
    go_wp2
    go_ret
    exact ⟨ret_int HK.out.symm, rfl⟩
  · have ht : ((n : Int) == 0) = false := by simp; omega
    obtain ⟨b, off, rfl, hb, hc⟩ := h.2 (by omega)
    have hn1 : (1 : Int) ≤ (n : Int) := by omega
    have hcc : w.cell? ⟨b, off + (n - 1), none⟩ = some (.int .i64 (nth zs (n - 1))) := hc (n - 1) (by omega)
    have HK := Lib.hid (show keyL zs = nth zs (n - 1) by simp [keyL, h.1, h0])
    clear h hc h0
    go_enter Try.func24, Try.ntmps24
    go_wp2
    go_ret
    exact ⟨ret_int HK.out.symm, rfl⟩

end Go.Proofs.Ytgaafmcmcalaoaa
