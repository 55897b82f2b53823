/-
  Contracts: the validity of spans, in the reference and in the program.
-/
import Derived.Test.YtdphndjohhfgoaaWSmall
import Derived.Test.YtdphndjohhfgoaaPBridge
namespace Go.Proofs.Ytdphndjohhfgoaa
open Go.RowKit

set_option maxHeartbeats 800000 in
theorem sSpansOk_any (A : Option Addr) (n c : Nat) (zs : List Int) (w : World) (h : RecsAt w w.heap.size 3 A n zs) (hn : n ≤ 1048576) :
    Calls Try.prog 46 #[.slice A n c] w fun e w' => e = .returned (.bool (spansB zs n)) ∧ Below w.heap.size w w' := by
  have H := Lib.hid h
  clear h
  · go_enter Try.func46, Try.ntmps46
    go_wp2
    go_loopw [3] (fun i wr => ∃ k : Nat, k ≤ n ∧ i = .int .i64 k ∧ spansTo zs k ∧ Below w.heap.size w wr) (fun i _ => n - (intOf i).toNat)
    case atStart => exact ⟨0, Nat.zero_le _, rfl, spansTo_0 _, Below.refl _ _⟩
    case round =>
      obtain ⟨k, hk, rfl, hag, hb⟩ := hrel
      have HB := Lib.hid hb
      by_cases hlt : k < n
      · obtain ⟨b, off, rfl, hbB, hc⟩ := H.out.2 (by omega)
        have hx0 : wr.cell? ⟨b, off + k * 3, none⟩ = some (.int .i64 (nth zs (k * 3))) := (hb.cell (by exact hbB)).trans (hc (k * 3) (by omega))
        have hx1 : wr.cell? ⟨b, off + k * 3 + 1, none⟩ = some (.int .i64 (nth zs (k * 3 + 1))) := (hb.cell (by exact hbB)).trans (by have := hc (k * 3 + 1) (by omega); rwa [← Nat.add_assoc] at this)
        have hx2 : wr.cell? ⟨b, off + k * 3 + 2, none⟩ = some (.int .i64 (nth zs (k * 3 + 2))) := (hb.cell (by exact hbB)).trans (by have := hc (k * 3 + 2) (by omega); rwa [← Nat.add_assoc] at this)
        clear hc hb
        cases h1 : inB (nth zs (k * 3)) 0 10000
        · have HF := Lib.hid (spansB_f2 hlt (spanB_1 h1))
          go_wp2_with (go_at_call 47; refine (l01In_any _ _ _ _).mono ?_; rintro e w' ⟨rfl, rfl⟩)
          go_ret
          exact ⟨ret_bool HF.out.symm, HB.out.alloc HB.out.size _⟩
        cases h2 : inB (nth zs (k * 3 + 1)) (nth zs (k * 3)) 10000
        · have HF := Lib.hid (spansB_f2 hlt (spanB_2 h2))
          go_wp2_with (go_at_call 47; refine (l01In_any _ _ _ _).mono ?_; rintro e w' ⟨rfl, rfl⟩)
          go_ret
          exact ⟨ret_bool HF.out.symm, HB.out.alloc HB.out.size _⟩
        cases h3 : inB (nth zs (k * 3 + 2)) 0 10000
        · have HF := Lib.hid (spansB_f2 hlt (spanB_3 h3))
          go_wp2_with (go_at_call 47; refine (l01In_any _ _ _ _).mono ?_; rintro e w' ⟨rfl, rfl⟩)
          go_ret
          exact ⟨ret_bool HF.out.symm, HB.out.alloc HB.out.size _⟩
        have HS := Lib.hid (spansTo_step hag (spanB_t h1 h2 h3))
        go_wp2_with (go_at_call 47; refine (l01In_any _ _ _ _).mono ?_; rintro e w' ⟨rfl, rfl⟩)
        go_roundw
        case rel => exact ⟨k + 1, by omega, by go_num, HS.out, HB.out.alloc HB.out.size _⟩
        case measure => simp [intOf]; omega
      · have hkn : k = n := by omega
        subst hkn
        clear hb
        cases hB : inB (k : Int) 1 10
        · have HF := Lib.hid (spansB_f1 (zs := zs) hB)
          go_wp2_with (go_at_call 47; refine (l01In_any _ _ _ _).mono ?_; rintro e w' ⟨rfl, rfl⟩)
          go_ret
          exact ⟨ret_bool HF.out.symm, HB.out⟩
        · have HF := Lib.hid (spansB_t hB hag)
          go_wp2_with (go_at_call 47; refine (l01In_any _ _ _ _).mono ?_; rintro e w' ⟨rfl, rfl⟩)
          go_ret
          exact ⟨ret_bool HF.out.symm, HB.out⟩

set_option maxHeartbeats 800000 in
theorem iSpansOk_any (A : Option Addr) (n c : Nat) (zs : List Int) (w : World) (h : RecsAt w w.heap.size 3 A n zs) (hn : n ≤ 1048576) :
    Calls Try.prog 50 #[.slice A n c] w fun e w' => e = .returned (.bool (spansB zs n)) ∧ Below w.heap.size w w' := by
  have H := Lib.hid h
  clear h
  cases hB : inB (n : Int) 1 10
  · have HF := Lib.hid (spansB_f1 (zs := zs) hB)
    go_enter Try.func50, Try.ntmps50
    go_wp2_with (go_at_call 51; refine (within_any _ _ _ _).mono ?_; rintro e w' ⟨rfl, rfl⟩)
    go_ret
    exact ⟨ret_bool HF.out.symm, Below.refl _ _⟩
  · go_enter Try.func50, Try.ntmps50
    go_wp2_with (go_at_call 51; refine (within_any _ _ _ _).mono ?_; rintro e w' ⟨rfl, rfl⟩)
    go_loopw [11] (fun i wr => ∃ k : Nat, k ≤ n ∧ i = .int .i64 k ∧ spansTo zs k ∧ Below w.heap.size w wr) (fun i _ => n - (intOf i).toNat)
    case atStart => exact ⟨0, Nat.zero_le _, rfl, spansTo_0 _, Below.refl _ _⟩
    case round =>
      obtain ⟨k, hk, rfl, hag, hb⟩ := hrel
      have HB := Lib.hid hb
      by_cases hlt : k < n
      · obtain ⟨b, off, rfl, hbB, hc⟩ := H.out.2 (by omega)
        have hx0 : wr.cell? ⟨b, off + k * 3, none⟩ = some (.int .i64 (nth zs (k * 3))) := (hb.cell (by exact hbB)).trans (hc (k * 3) (by omega))
        have hx1 : wr.cell? ⟨b, off + k * 3 + 1, none⟩ = some (.int .i64 (nth zs (k * 3 + 1))) := (hb.cell (by exact hbB)).trans (by have := hc (k * 3 + 1) (by omega); rwa [← Nat.add_assoc] at this)
        have hx2 : wr.cell? ⟨b, off + k * 3 + 2, none⟩ = some (.int .i64 (nth zs (k * 3 + 2))) := (hb.cell (by exact hbB)).trans (by have := hc (k * 3 + 2) (by omega); rwa [← Nat.add_assoc] at this)
        clear hc hb
        cases h1 : inB (nth zs (k * 3)) 0 10000
        · have HF := Lib.hid (spansB_f2 hlt (spanB_1 h1))
          go_wp2_with (go_at_call 51; refine (within_any _ _ _ _).mono ?_; rintro e w' ⟨rfl, rfl⟩)
          go_ret
          exact ⟨ret_bool HF.out.symm, HB.out.alloc HB.out.size _⟩
        cases h2 : inB (nth zs (k * 3 + 1)) (nth zs (k * 3)) 10000
        · have HF := Lib.hid (spansB_f2 hlt (spanB_2 h2))
          go_wp2_with (go_at_call 51; refine (within_any _ _ _ _).mono ?_; rintro e w' ⟨rfl, rfl⟩)
          go_ret
          exact ⟨ret_bool HF.out.symm, HB.out.alloc HB.out.size _⟩
        cases h3 : inB (nth zs (k * 3 + 2)) 0 10000
        · have HF := Lib.hid (spansB_f2 hlt (spanB_3 h3))
          go_wp2_with (go_at_call 51; refine (within_any _ _ _ _).mono ?_; rintro e w' ⟨rfl, rfl⟩)
          go_ret
          exact ⟨ret_bool HF.out.symm, HB.out.alloc HB.out.size _⟩
        have HS := Lib.hid (spansTo_step hag (spanB_t h1 h2 h3))
        go_wp2_with (go_at_call 51; refine (within_any _ _ _ _).mono ?_; rintro e w' ⟨rfl, rfl⟩)
        go_roundw
        case rel => exact ⟨k + 1, by omega, by go_num, HS.out, HB.out.alloc HB.out.size _⟩
        case measure => simp [intOf]; omega
      · have hkn : k = n := by omega
        subst hkn
        clear hb
        have HF := Lib.hid (spansB_t hB hag)
        go_wp2
        go_ret
        exact ⟨ret_bool HF.out.symm, HB.out⟩

end Go.Proofs.Ytdphndjohhfgoaa
