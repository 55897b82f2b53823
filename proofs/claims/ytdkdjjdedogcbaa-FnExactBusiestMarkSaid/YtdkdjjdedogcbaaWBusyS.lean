/-
  Contract: BusiestMark in the reference.
-/
import Derived.Test.YtdkdjjdedogcbaaWWeightS
import Derived.Test.YtdkdjjdedogcbaaPBusy
namespace Go.Proofs.Ytdkdjjdedogcbaa
open Go.RowKit
set_option linter.unusedSimpArgs false

set_option maxRecDepth 100000 in
set_option maxHeartbeats 1600000 in
theorem sBusiest_any (A : Option Addr) (n c : Nat) (L : List (Nat × List Int)) (B : Option Addr) (q d : Nat) (ms : List Int) (w : World) (h : NestAt w w.heap.size 2 A n L) (hi : IntsAt w w.heap.size B q ms) (hq : q ≤ 1048576) (hn : n ≤ 1048576) (hr : ∀ i, i < n → rowN L i ≤ 1048576) :
    Calls Try.prog 31 #[.slice A n c, .slice B q d] w fun e w' => e = .returned (.int .i64 (busyI L n ms q)) ∧ Below w.heap.size w w' := by
  cases hp : marksB L n ms q
  · have HF := Lib.hid (busyI_f hp)
    go_enter Try.func31, Try.ntmps31
    go_wp2_with fail
    refine (sMarksOk_any _ _ _ L _ _ _ ms _ h hi hq hn).mono ?_
    rw [hp]
    rintro e w1 ⟨rfl, hb1⟩
    go_wp2
    go_ret
    exact ⟨ret_int HF.out.symm, hb1⟩
  · have hmk := marksB_out hp
    have hn12 := hmk.1
    obtain rfl := hmk.2.1
    have H := Lib.hid h
    have HI := Lib.hid hi
    have HR := Lib.hid hr
    have HT := Lib.hid (busyI_t hp)
    have HSB := Lib.hid (fun m k => sumM_bd L ms m k)
    have HBB := Lib.hid (fun j => bmTo_bd L ms q j)
    have HTT : Hid (∀ j : Nat, (bmTo L ms q j).2 < sumM L ms ((j : Int) + 1) q → bmTo L ms q (j + 1) = ((j : Int) + 1, sumM L ms ((j : Int) + 1) q)) := fun j => bmTo_t
    have HTF : Hid (∀ j : Nat, sumM L ms ((j : Int) + 1) q ≤ (bmTo L ms q j).2 → bmTo L ms q (j + 1) = bmTo L ms q j) := fun j h => bmTo_f (by omega)
    clear hmk
    by_cases h0 : q = 0
    · have HZ : Hid (busyI L q ms q = 0) := by subst h0; exact busyI_0
      have hd : ((q : Int) == 0) = true := by simp [h0]
      clear h0
      go_enter Try.func31, Try.ntmps31
      go_wp2_with fail
      refine (sMarksOk_any _ _ _ L _ _ _ ms _ h hi hq hn).mono ?_
      rw [hp]
      rintro e w1 ⟨rfl, hb1⟩
      go_wp2
      go_ret
      exact ⟨ret_int HZ.out.symm, hb1⟩
    have hd : ((q : Int) == 0) = false := by simp [h0]
    go_enter Try.func31, Try.ntmps31
    go_wp2_with fail
    refine (sMarksOk_any _ _ _ L _ _ _ ms _ h hi hq hn).mono ?_
    rw [hp]
    rintro e w1 ⟨rfl, hb1⟩
    have HB1 := Lib.hid hb1
    clear hb1 h hi hr
    go_wp2
    go_loopw [5, 6, 7] (fun b m i wr => ∃ j : Nat, j ≤ 9 ∧ i = .int .i64 ((j : Int) + 1) ∧ b = .int .i64 (bmTo L ms q j).1 ∧ m = .int .i64 (bmTo L ms q j).2 ∧ Hid (Below w.heap.size w wr)) (fun _ _ i _ => 10 - (intOf i).toNat)
    case atStart => exact ⟨0, by omega, rfl, rfl, rfl, HB1⟩
    case round =>
      clear HB1
      obtain ⟨j, hj, rfl, rfl, rfl, HB⟩ := hrel
      by_cases hlj : j < 9
      · have hjb := HBB.out j
        have HTj := Lib.hid (HTT.out j)
        have HFj := Lib.hid (HTF.out j)
        have HE1 : Hid (∀ b m, bmTo L ms q (j + 1) = (b, m) → (bmTo L ms q (j + 1)).1 = b ∧ (bmTo L ms q (j + 1)).2 = m) := fun b m h => by rw [h]; exact ⟨rfl, rfl⟩
        have HE2 : Hid (bmTo L ms q j = ((bmTo L ms q j).1, (bmTo L ms q j).2)) := rfl
        generalize (bmTo L ms q j).1 = b1 at *
        generalize (bmTo L ms q j).2 = m1 at *
        have j9 : (j : Int) + 1 ≤ 9 := by omega
        have HJ := Lib.hid (rfl : ((j : Int) + 1) = (j : Int) + 1)
        have j1 : 1 ≤ (j : Int) + 1 := by omega
        go_wp2
        go_loopw [8, 9] (fun s i wr => ∃ k : Nat, k ≤ q ∧ i = .int .i64 k ∧ s = .int .i64 (sumM L ms ((j : Int) + 1) k) ∧ Hid (Below w.heap.size w wr)) (fun _ i _ => q - (intOf i).toNat)
        case atStart => exact ⟨0, Nat.zero_le _, rfl, rfl, HB⟩
        case round =>
          clear HB
          obtain ⟨k, hk, rfl, rfl, HB⟩ := hrel
          have hsb := HSB.out ((j : Int) + 1) k
          by_cases hlt : k < q
          · have hb := HB.out
            obtain ⟨b, off, rfl, hbB, hc⟩ := H.out.2 (by omega)
            obtain ⟨b', off', rfl, hbB', hc'⟩ := HI.out.2 (by omega)
            obtain ⟨Ak, ck, hx, hrec, _, _⟩ := hc k hlt
            have x0 : wr.cell? ⟨b, off + k, none⟩ = some (.slice Ak (rowN L k) ck) := (hb.cell (by exact hbB)).trans hx
            have y0 : wr.cell? ⟨b', off' + k, none⟩ = some (.int .i64 (nth ms k)) := (hb.cell (by exact hbB')).trans (hc' k hlt)
            have r3 := (hrec.below hb).mono hb.size
            have hrk := HR.out k hlt
            have hwb := weightI_bd (rowZ L k) (rowN L k)
            have hz1 := hb.size
            have hki : (k : Int) < (q : Int) := by omega
            clear hc hc' hb hx hrec
            by_cases hmm : nth ms k = (j : Int) + 1
            · have hd2 : (nth ms k == (j : Int) + 1) = true := by simp [hmm]
              have HS := Lib.hid (sumM_t (L := L) hmm)
              clear hmm
              go_wp2_with fail
              refine (sWeightOf_any _ _ _ (rowZ L k) _ r3 hrk).mono ?_
              rintro e w2 ⟨rfl, hb2⟩
              have HB2 := Lib.hid (HB.out.trans (hb2.mono HB.out.size))
              clear hb2 r3
              go_wp2
              go_roundw
              case rel => exact ⟨k + 1, by omega, by go_num, by rw [HS.out], HB2⟩
              case measure => simp [intOf]; omega
            · have hd2 : (nth ms k == (j : Int) + 1) = false := by simp [hmm]
              have HS := Lib.hid (sumM_f (L := L) hmm)
              clear hmm r3
              go_wp2
              go_roundw
              case rel => exact ⟨k + 1, by omega, by go_num, by rw [HS.out], HB⟩
              case measure => simp [intOf]; omega
          · obtain rfl : q = k := by omega
            by_cases hc : m1 < sumM L ms ((j : Int) + 1) q
            · have HS := Lib.hid (HTj.out hc)
              generalize sumM L ms ((j : Int) + 1) q = s1 at *
              go_wp2
              go_roundw
              case rel => exact ⟨j + 1, by omega, by go_num, by rw [(HE1.out _ _ HS.out).1], by rw [(HE1.out _ _ HS.out).2], HB⟩
              case measure => simp [intOf]; omega
            · have HS := Lib.hid (HFj.out (by omega))
              generalize sumM L ms ((j : Int) + 1) q = s1 at *
              go_wp2
              go_roundw
              case rel => exact ⟨j + 1, by omega, by go_num, by rw [(HE1.out _ _ (HS.out.trans HE2.out)).1], by rw [(HE1.out _ _ (HS.out.trans HE2.out)).2], HB⟩
              case measure => simp [intOf]; omega
      · obtain rfl : j = 9 := by omega
        go_wp2
        go_ret
        exact ⟨ret_int HT.out.symm, HB.out⟩
end Go.Proofs.Ytdkdjjdedogcbaa
