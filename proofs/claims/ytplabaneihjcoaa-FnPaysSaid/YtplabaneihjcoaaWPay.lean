/-
  Contracts: PayOf, in the reference and in the program.
-/
import Derived.Test.YtplabaneihjcoaaWMarks
import Derived.Test.YtplabaneihjcoaaWWeightS
import Derived.Test.YtplabaneihjcoaaWWeightI
namespace Go.Proofs.Ytplabaneihjcoaa
open Go.RowKit
set_option linter.unusedSimpArgs false

def payAt (L : List (Nat × List Int)) (rate : Int) (k : Nat) : Int := Int.tdiv (rate * weightI (rowZ L k) (rowN L k)) 100
theorem payAt_bd (L : List (Nat × List Int)) {rate : Int} (k : Nat) (h : 0 ≤ rate ∧ rate ≤ 1000) : (-129600000 ≤ rate * weightI (rowZ L k) (rowN L k) ∧ rate * weightI (rowZ L k) (rowN L k) ≤ 129600000) ∧ (-129600000 ≤ payAt L rate k ∧ payAt L rate k ≤ 129600000) := by
  have h1 := weightI_bd (rowZ L k) (rowN L k)
  have h2 := mul_bd (m := 1000) (n := 129600) (a := rate) (b := weightI (rowZ L k) (rowN L k)) (by omega) (by omega)
  refine ⟨by omega, ?_⟩
  unfold payAt
  generalize rate * weightI (rowZ L k) (rowN L k) = x at *
  have := Int.natAbs_tdiv_le_natAbs x 100
  omega
def payTo (L : List (Nat × List Int)) (ms : List Int) (mark rate : Int) : Nat → Int
  | 0 => 0
  | k + 1 => payTo L ms mark rate k + if nth ms k = mark then payAt L rate k else 0
theorem payTo_t {L : List (Nat × List Int)} {ms : List Int} {mark : Int} (rate : Int) {k : Nat} (h : nth ms k = mark) : payTo L ms mark rate (k + 1) = payTo L ms mark rate k + payAt L rate k := by simp [payTo, h]
theorem payTo_f (L : List (Nat × List Int)) {ms : List Int} {mark : Int} (rate : Int) {k : Nat} (h : ¬ nth ms k = mark) : payTo L ms mark rate (k + 1) = payTo L ms mark rate k := by simp [payTo, h]
theorem payTo_bd (L : List (Nat × List Int)) (ms : List Int) (mark : Int) {rate : Int} (h : 0 ≤ rate ∧ rate ≤ 1000) : ∀ k : Nat, -(129600000 * (k : Int)) ≤ payTo L ms mark rate k ∧ payTo L ms mark rate k ≤ 129600000 * (k : Int)
  | 0 => by simp [payTo]
  | k + 1 => by
    have ih := payTo_bd L ms mark h k
    have hp := (payAt_bd L k h).2
    by_cases e : nth ms k = mark
    · rw [payTo_t rate e]; omega
    · rw [payTo_f L rate e]; omega
def payOkB (L : List (Nat × List Int)) (n : Nat) (ms : List Int) (q : Nat) (rate : Int) : Bool := marksB L n ms q && inB rate 0 1000
def payI (L : List (Nat × List Int)) (n : Nat) (ms : List Int) (q : Nat) (mark rate : Int) : Int := if payOkB L n ms q rate = true then payTo L ms mark rate n else 0
theorem payI_t {L : List (Nat × List Int)} {n : Nat} {ms : List Int} {q : Nat} (mark : Int) {rate : Int} (h : payOkB L n ms q rate = true) : payI L n ms q mark rate = payTo L ms mark rate n := by simp [payI, h]
theorem payI_f {L : List (Nat × List Int)} {n : Nat} {ms : List Int} {q : Nat} (mark : Int) {rate : Int} (h : payOkB L n ms q rate = false) : payI L n ms q mark rate = 0 := by simp [payI, h]

theorem payOk_any (A : Option Addr) (n c : Nat) (L : List (Nat × List Int)) (B : Option Addr) (q d : Nat) (ms : List Int) (rate : Int) (w : World) (h : NestAt w w.heap.size 2 A n L) (hi : IntsAt w w.heap.size B q ms) (hq : q ≤ 1048576) (hn : n ≤ 1048576) :
    Calls Try.prog 33 #[.slice A n c, .slice B q d, .int .i64 rate] w fun e w' => e = .returned (.bool (payOkB L n ms q rate)) ∧ Below w.heap.size w w' := by
  cases hm : marksB L n ms q
  · have HF := Lib.hid (show payOkB L n ms q rate = false by simp [payOkB, hm])
    go_enter Try.func33, Try.ntmps33
    go_wp2_with fail
    refine (iMarksOk_any _ _ _ L _ _ _ ms _ h hi hq hn).mono ?_
    rw [hm]
    rintro e w1 ⟨rfl, hb1⟩
    go_wp2
    go_ret
    exact ⟨ret_bool HF.out.symm, hb1⟩
  · have HF := Lib.hid (show payOkB L n ms q rate = inB rate 0 1000 by simp [payOkB, hm])
    go_enter Try.func33, Try.ntmps33
    go_wp2_with fail
    refine (iMarksOk_any _ _ _ L _ _ _ ms _ h hi hq hn).mono ?_
    rw [hm]
    rintro e w1 ⟨rfl, hb1⟩
    go_wp2_with (go_at_call 36; refine (within_any _ _ _ _).mono ?_; rintro e w' ⟨rfl, rfl⟩)
    go_ret
    exact ⟨ret_bool HF.out.symm, hb1⟩

set_option maxRecDepth 100000 in
set_option maxHeartbeats 1600000 in
theorem iPayOf_any (A : Option Addr) (n c : Nat) (L : List (Nat × List Int)) (B : Option Addr) (q d : Nat) (ms : List Int) (mark rate : Int) (w : World) (h : NestAt w w.heap.size 2 A n L) (hi : IntsAt w w.heap.size B q ms) (hq : q ≤ 1048576) (hn : n ≤ 1048576) :
    Calls Try.prog 12 #[.slice A n c, .slice B q d, .int .i64 mark, .int .i64 rate] w fun e w' => e = .returned (.int .i64 (payI L n ms q mark rate)) ∧ Below w.heap.size w w' := by
  have H := Lib.hid h
  have HI := Lib.hid hi
  cases hp : payOkB L n ms q rate
  · have HF := Lib.hid (payI_f mark hp)
    go_enter Try.func12, Try.ntmps12
    go_wp2_with fail
    refine (payOk_any _ _ _ L _ _ _ ms _ _ h hi hq hn).mono ?_
    rw [hp]
    rintro e w1 ⟨rfl, hb1⟩
    go_wp2
    go_ret
    exact ⟨ret_int HF.out.symm, hb1⟩
  · have HT := Lib.hid (payI_t mark hp)
    have hpp := hp
    simp only [payOkB, Bool.and_eq_true, inB_iff] at hpp
    have hrt := hpp.2
    have hmk := marksB_out hpp.1
    have hn12 := hmk.1
    obtain rfl := hmk.2.1
    have HPB := Lib.hid (payTo_bd L ms mark hrt)
    have HAB := Lib.hid (fun k => payAt_bd L k hrt)
    clear hpp hmk hrt
    go_enter Try.func12, Try.ntmps12
    go_wp2_with fail
    refine (payOk_any _ _ _ L _ _ _ ms _ _ h hi hq hn).mono ?_
    rw [hp]
    rintro e w1 ⟨rfl, hb1⟩
    have HB1 := Lib.hid hb1
    clear hb1 h hi hp
    go_wp2
    go_loopw [9, 19] (fun s i wr => ∃ k : Nat, k ≤ q ∧ i = .int .i64 k ∧ s = .int .i64 (payTo L ms mark rate k) ∧ Below w.heap.size w wr) (fun _ i _ => q - (intOf i).toNat)
    case atStart => exact ⟨0, Nat.zero_le _, rfl, rfl, HB1.out⟩
    case round =>
      clear HB1
      obtain ⟨k, hk, rfl, rfl, hb⟩ := hrel
      have HB := Lib.hid hb
      by_cases hlt : k < q
      · obtain ⟨b, off, rfl, hbB, hc⟩ := H.out.2 (by omega)
        obtain ⟨b', off', rfl, hbB', hc'⟩ := HI.out.2 (by omega)
        obtain ⟨Ak, ck, hx, hrec, _, _⟩ := hc k hlt
        have x0 : wr.cell? ⟨b, off + k, none⟩ = some (.slice Ak (rowN L k) ck) := (hb.cell (by exact hbB)).trans hx
        have y0 : wr.cell? ⟨b', off' + k, none⟩ = some (.int .i64 (nth ms k)) := (hb.cell (by exact hbB')).trans (hc' k hlt)
        have hz := hb.size
        have l1 : b' < wr.heap.size := by omega
        have r1 : RecsAt (wr.alloc (.cells #[.slice Ak (rowN L k) ck] 36)) (wr.alloc (.cells #[.slice Ak (rowN L k) ck] 36)).heap.size 2 Ak (rowN L k) (rowZ L k) := (((hrec.below hb).mono hb.size).alloc (Nat.le_refl _) _).mono (by simp)
        have HB0 := Lib.hid (hb.alloc hz (.cells #[.slice Ak (rowN L k) ck] 36))
        have hpb := HPB.out k
        have hab := HAB.out k
        clear hc hc' hb hx hrec
        by_cases hmm : nth ms k = mark
        · have hd : (nth ms k == mark) = true := by simp [hmm]
          have HS := Lib.hid (payTo_t (L := L) rate hmm)
          have ha2 := hab.2
          unfold payAt at HS ha2
          have ha1 := hab.1
          clear hmm hab
          go_wp2_with fail
          refine (iWeightOf_any _ _ _ (rowZ L k) _ r1).mono ?_
          rintro e w2 ⟨rfl, hb2⟩
          have HB2 := Lib.hid (HB0.out.trans (hb2.mono (by simp; omega)))
          clear hb2 r1
          go_wp2
          go_roundw
          case rel => exact ⟨k + 1, by omega, by go_num, by rw [HS.out], HB2.out⟩
          case measure => first | (simp [intOf]; done) | (simp [intOf]; omega)
        · have hd : (nth ms k == mark) = false := by simp [hmm]
          have HS := Lib.hid (payTo_f L rate hmm)
          clear hmm hab r1
          go_wp2
          go_roundw
          case rel => exact ⟨k + 1, by omega, by go_num, by rw [HS.out], HB0.out⟩
          case measure => first | (simp [intOf]; done) | (simp [intOf]; omega)
      · obtain rfl : k = q := by omega
        clear hb
        go_wp2
        go_ret
        exact ⟨ret_int HT.out.symm, HB.out⟩

end Go.Proofs.Ytplabaneihjcoaa
