/-
  Contracts: PayAll, in the reference and in the program.
-/
import Derived.Test.YtplabaneihjcoaaWPay
import Derived.Test.YtplabaneihjcoaaApp
namespace Go.Proofs.Ytplabaneihjcoaa
open Go.RowKit
set_option linter.unusedSimpArgs false

/-- The pay of marks 1 .. k. -/
def payAllTo (L : List (Nat × List Int)) (n : Nat) (ms : List Int) (q : Nat) (rate : Int) (k : Nat) : List Int := (List.range k).map (fun i : Nat => payI L n ms q ((i : Int) + 1) rate)
theorem payAllTo_len (L : List (Nat × List Int)) (n : Nat) (ms : List Int) (q : Nat) (rate : Int) (k : Nat) : (payAllTo L n ms q rate k).length = k := by simp [payAllTo]
theorem payAllTo_step (L : List (Nat × List Int)) (n : Nat) (ms : List Int) (q : Nat) (rate : Int) (k : Nat) : payAllTo L n ms q rate k ++ [payI L n ms q ((k : Int) + 1) rate] = payAllTo L n ms q rate (k + 1) := by simp [payAllTo, List.range_succ]
def payAllL (L : List (Nat × List Int)) (n : Nat) (ms : List Int) (q : Nat) (rate : Int) : List Int := if payOkB L n ms q rate = true then payAllTo L n ms q rate 9 else []
theorem payAllL_t {L : List (Nat × List Int)} {n : Nat} {ms : List Int} {q : Nat} {rate : Int} (h : payOkB L n ms q rate = true) : payAllL L n ms q rate = payAllTo L n ms q rate 9 := by simp [payAllL, h]
theorem payAllL_f {L : List (Nat × List Int)} {n : Nat} {ms : List Int} {q : Nat} {rate : Int} (h : payOkB L n ms q rate = false) : payAllL L n ms q rate = [] := by simp [payAllL, h]
theorem payAllL_len (L : List (Nat × List Int)) (n : Nat) (ms : List Int) (q : Nat) (rate : Int) : (payAllL L n ms q rate).length ≤ 9 := by
  unfold payAllL
  split
  · rw [payAllTo_len]; omega
  · simp

set_option maxRecDepth 100000 in
set_option maxHeartbeats 1600000 in
theorem iPayAll_any (A : Option Addr) (n c : Nat) (L : List (Nat × List Int)) (B : Option Addr) (q d : Nat) (ms : List Int) (rate : Int) (w : World) (h : NestAt w w.heap.size 2 A n L) (hi : IntsAt w w.heap.size B q ms) (hq : q ≤ 1048576) (hn : n ≤ 1048576) :
    Calls Try.prog 9 #[.slice A n c, .slice B q d, .int .i64 rate] w (IntsPost w (payAllL L n ms q rate)) := by
  have H := Lib.hid h
  have HI := Lib.hid hi
  cases hp : payOkB L n ms q rate
  · have HF := Lib.hid (payAllL_f hp)
    go_enter Try.func9, Try.ntmps9
    go_wp2_with fail
    refine (payOk_any _ _ _ L _ _ _ ms _ _ h hi hq hn).mono ?_
    rw [hp]
    rintro e w1 ⟨rfl, hb1⟩
    go_wp2
    go_ret
    exact intsPost_nil HF.out hb1
  · have HT := Lib.hid (payAllL_t hp)
    go_enter Try.func9, Try.ntmps9
    go_wp2_with fail
    refine (payOk_any _ _ _ L _ _ _ ms _ _ h hi hq hn).mono ?_
    rw [hp]
    rintro e w1 ⟨rfl, hb1⟩
    have HB1 := Lib.hid hb1
    clear hb1 h hi hp
    go_wp2
    go_loopw [7, 8] (fun v i wr => ∃ (k : Nat), k ≤ 9 ∧ i = .int .i64 ((k : Int) + 1) ∧ OwnV wr w.heap.size 3 v (payAllTo L n ms q rate k) ∧ Below w.heap.size w wr) (fun _ i _ => 10 - (intOf i).toNat)
    case atStart => exact ⟨0, by omega, rfl, OwnV.nil _ _ _, HB1.out⟩
    case round =>
      clear HB1
      obtain ⟨k, hk, rfl, hown, hb⟩ := hrel
      have HB := Lib.hid hb
      have HO := Lib.hid hown
      by_cases hlt : k < 9
      · have ht : (k : Int) + 1 ≤ 9 := by omega
        have r1 := (H.out.below hb).mono hb.size
        have r2 := (HI.out.below hb).mono hb.size
        have hz := hb.size
        have HL := Lib.hid (payAllTo_len L n ms q rate k)
        have HU := Lib.hid (payAllTo_step L n ms q rate k)
        clear hb hown
        go_wp2_with fail
        refine (iPayOf_any _ _ _ L _ _ _ ms _ _ _ r1 r2 hq hn).mono ?_
        rintro e w2 ⟨rfl, hb2⟩
        have HB2 := Lib.hid (HB.out.trans (hb2.mono hz))
        have HO2 := Lib.hid (HO.out.below hb2)
        clear hb2 r1 r2
        go_wp2_with (at_builtin; refine wpList_app _ rfl (.tmp 18) (.tmp 24) 25 rfl w.heap.size 3 Try.underlying25 infoInt _ (payAllTo L n ms q rate k) rfl (HO2.out.alloc _) _ _ _ rfl (cell_new1 _ _ _) w.heap.size w (HB2.out.alloc HB2.out.size _) (Nat.le_refl _) (by have := HB2.out.size; simp; omega) k HL.out (by omega) _ HU.out ?_; intro g' cap' w3 hown3 hb3)
        go_wp2
        go_roundw
        case rel => exact ⟨k + 1, by omega, by go_num, hown3, hb3⟩
        case measure => simp [intOf]; omega
      · obtain rfl : k = 9 := by omega
        obtain ⟨A', k', c', rfl⟩ := hown.slice
        clear hown hb
        go_wp2
        go_ret
        exact intsPost (by rw [HT.out]; exact HO.out) HB.out

end Go.Proofs.Ytplabaneihjcoaa
