/-
  Contracts: WasteOf, in the reference and in the program.
-/
import Derived.Test.YtplabaneihjcoaaWFew
namespace Go.Proofs.Ytplabaneihjcoaa
open Go.RowKit

def sumTo (zs : List Int) : Nat → Int
  | 0 => 0
  | k + 1 => sumTo zs k + nth zs k
def wasteL (zs : List Int) (len : Int) : Int := if okB zs len = true then fewI zs len * len - sumTo zs zs.length else -1
theorem wasteL_t {zs : List Int} {len : Int} (h : okB zs len = true) : wasteL zs len = fewI zs len * len - sumTo zs zs.length := by simp [wasteL, h]
theorem wasteL_f {zs : List Int} {len : Int} (h : okB zs len = false) : wasteL zs len = -1 := by simp [wasteL, h]
theorem sumTo_bd {zs : List Int} {len : Int} (h : okB zs len = true) : ∀ k, k ≤ zs.length → 0 ≤ sumTo zs k ∧ sumTo zs k ≤ 1000 * k
  | 0, _ => by simp [sumTo]
  | k + 1, hk => by
    obtain ⟨b1, b2, b3⟩ := okB_out h
    have ih := sumTo_bd h k (by omega)
    have := b3 k (by omega)
    simp only [sumTo]
    omega
theorem fewI_nn {zs : List Int} {len : Int} (h : okB zs len = true) : 0 ≤ fewI zs len := by
  obtain ⟨b1, b2, b3⟩ := okB_out h
  rw [fewI_t h]
  exact (fine_tab (f := stpI len) (b0 := (0, 0)) (zs := zs) (n := zs.length) (len := len) (by omega) ⟨by simp, by simp; omega, by simp, by simp; omega⟩ (fun c k hk h => fine_I h (b3 k hk).1 (b3 k hk).2) (p2 zs.length - 1) (p2 zs.length - 1)).1
theorem mul_bd2 {a b : Int} (h1 : 0 ≤ a) (h2 : a ≤ 11) (h3 : 0 ≤ b) (h4 : b ≤ 1000) : 0 ≤ a * b ∧ a * b ≤ 11000 := by
  refine ⟨Int.mul_nonneg h1 h3, ?_⟩
  have := Int.mul_le_mul h2 h4 h3 (by omega)
  simpa using this

set_option maxHeartbeats 400000 in
theorem iWasteOf_any (A : Option Addr) (n c : Nat) (zs : List Int) (len : Int) (w : World) (h : IntsAt w w.heap.size A n zs) (hn : n ≤ 1048576) :
    Calls Try.prog 28 #[.slice A n c, .int .i64 len] w fun e w' => e = .returned (.int .i64 (wasteL zs len)) ∧ Below w.heap.size w w' := by
  cases hok : okB zs len
  · have HF := Lib.hid (wasteL_f hok)
    have HW := Lib.hid (fewI_f hok)
    go_enter Try.func28, Try.ntmps28
    go_wp2_with (go_at_call 26; refine (iFewestBlocks_any _ _ _ zs _ _ h hn).mono ?_; rw [HW.out]; rintro e w1 ⟨rfl, hb1⟩)
    go_ret
    exact ⟨ret_int HF.out.symm, hb1⟩
  have HF := Lib.hid (wasteL_t hok)
  obtain ⟨⟨l1, l2⟩, l3, l4⟩ := okB_out hok
  have hz := fun k hk => sumTo_bd hok k hk
  rw [h.1] at l3 l4 hz
  have HZ := Lib.hid l4
  have HS := Lib.hid hz
  have hf0 := fewI_nn hok
  have hf1 := (fewI_bd zs len).2
  have hm := mul_bd2 hf0 hf1 (by omega) l2
  have H := Lib.hid h
  generalize hfe : fewI zs len = fw at *
  have HFE := Lib.hid hfe
  clear l4 hz hok hfe
  go_enter Try.func28, Try.ntmps28
  go_wp2_with (go_at_call 26; refine (iFewestBlocks_any _ _ _ zs _ _ h hn).mono ?_; rw [HFE.out]; rintro e w1 ⟨rfl, hb1⟩)
  generalize hp : fw * len = p at *

  clear hp
  go_loop [6, 19, 8] (fun r i _ => ∃ k : Nat, k ≤ n ∧ i = .int .i64 k ∧ r = .int .i64 (p - sumTo zs k)) (fun _ i _ => n - (intOf i).toNat)
  case atStart => exact ⟨0, Nat.zero_le _, rfl, by simp [sumTo]⟩
  case round =>
    obtain ⟨k, hk, rfl, rfl⟩ := hrel
    have hs := HS.out k hk
    by_cases hlt : k < n
    · obtain ⟨b, off, rfl, hbB, hc⟩ := H.out.2 (by omega)
      have hcx : w1.cell? ⟨b, off + k, none⟩ = some (.int .i64 (nth zs k)) := (hb1.cell (by exact hbB)).trans (hc k hlt)
      have hzk := HZ.out k hlt
      have HSS : Hid (sumTo zs (k + 1) = sumTo zs k + nth zs k) := rfl
      clear hc
      go_wp2
      go_round
      case rel => exact ⟨k + 1, by omega, by go_num, by rw [HSS.out]; go_num⟩
      case measure => simp [intOf]; omega
    · have hkn : k = n := by omega
      subst hkn
      go_wp2
      go_ret
      exact ⟨ret_int (by rw [HF.out, H.out.1]), hb1⟩

end Go.Proofs.Ytplabaneihjcoaa
