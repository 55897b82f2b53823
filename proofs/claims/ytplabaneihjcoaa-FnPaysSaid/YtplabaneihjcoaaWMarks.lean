/-
  Contracts: MarksOk, in the reference and in the program.
-/
import Derived.Test.YtplabaneihjcoaaWStoneI
import Derived.Test.YtplabaneihjcoaaWInts
import Derived.Test.YtplabaneihjcoaaPAll
import Derived.Test.YtplabaneihjcoaaNest
namespace Go.Proofs.Ytplabaneihjcoaa
open Go.RowKit
set_option linter.unusedSimpArgs false

def marksAt (L : List (Nat × List Int)) (ms : List Int) (i : Nat) : Bool := stoneB (rowZ L i) (rowN L i) && inB (nth ms i) 1 9
def marksB (L : List (Nat × List Int)) (n : Nat) (ms : List Int) (q : Nat) : Bool := decide (n ≤ 12) && (decide (q = n) && allB (marksAt L ms) n)
theorem marksAt_1 {L : List (Nat × List Int)} {i : Nat} (ms : List Int) (h : stoneB (rowZ L i) (rowN L i) = false) : marksAt L ms i = false := by simp [marksAt, h]
theorem marksAt_2 (L : List (Nat × List Int)) {i : Nat} {ms : List Int} (h : inB (nth ms i) 1 9 = false) : marksAt L ms i = false := by simp [marksAt, h]
theorem marksAt_t {L : List (Nat × List Int)} {i : Nat} {ms : List Int} (h : stoneB (rowZ L i) (rowN L i) = true) (h2 : inB (nth ms i) 1 9 = true) : marksAt L ms i = true := by simp [marksAt, h, h2]
theorem marksB_1 (L : List (Nat × List Int)) {n : Nat} (ms : List Int) (q : Nat) (h : ¬ n ≤ 12) : marksB L n ms q = false := by simp [marksB, h]
theorem marksB_2 (L : List (Nat × List Int)) {n : Nat} (ms : List Int) {q : Nat} (h : ¬ q = n) : marksB L n ms q = false := by simp [marksB, h]
theorem marksB_3 {L : List (Nat × List Int)} {n : Nat} {ms : List Int} (q : Nat) {k : Nat} (hk : k < n) (h : marksAt L ms k = false) : marksB L n ms q = false := by simp [marksB, allB_f hk h]
theorem marksB_t {L : List (Nat × List Int)} {n : Nat} {ms : List Int} {q : Nat} (h1 : n ≤ 12) (h2 : q = n) (h : allTo (marksAt L ms) n) : marksB L n ms q = true := by simp [marksB, allB_t h, h1, h2]
theorem marksB_out {L : List (Nat × List Int)} {n : Nat} {ms : List Int} {q : Nat} (h : marksB L n ms q = true) : n ≤ 12 ∧ q = n ∧ allTo (marksAt L ms) n := by
  simp only [marksB, Bool.and_eq_true, decide_eq_true_eq] at h
  exact ⟨h.1, h.2.1, allB_out h.2.2⟩

set_option maxHeartbeats 1600000 in
theorem iMarksOk_any (A : Option Addr) (n c : Nat) (L : List (Nat × List Int)) (B : Option Addr) (q d : Nat) (ms : List Int) (w : World) (h : NestAt w w.heap.size 2 A n L) (hi : IntsAt w w.heap.size B q ms) (hq : q ≤ 1048576) (hn : n ≤ 1048576) :
    Calls Try.prog 11 #[.slice A n c, .slice B q d] w fun e w' => e = .returned (.bool (marksB L n ms q)) ∧ Below w.heap.size w w' := by
  have H := Lib.hid h
  have HI := Lib.hid hi
  clear h hi
  by_cases h12 : n ≤ 12
  · by_cases hqn : q = n
    · subst hqn
      have hd : ((q : Int) != (q : Int)) = false := by simp
      have hd2 : ¬ (12 : Int) < (q : Int) := by omega
      go_enter Try.func11, Try.ntmps11
      go_wp2
      go_loopw [19] (fun i wr => ∃ k : Nat, k ≤ q ∧ i = .int .i64 k ∧ allTo (marksAt L ms) k ∧ Below w.heap.size w wr) (fun i _ => q - (intOf i).toNat)
      case atStart => exact ⟨0, Nat.zero_le _, rfl, allTo_0 _, Below.refl _ _⟩
      case round =>
        obtain ⟨k, hk, rfl, hag, hb⟩ := hrel
        have HB := Lib.hid hb
        by_cases hlt : k < q
        · obtain ⟨b, off, rfl, hbB, hc⟩ := H.out.2 (by omega)
          obtain ⟨b', off', rfl, hbB', hc'⟩ := HI.out.2 (by omega)
          obtain ⟨Ak, ck, hx, hrec, _, _⟩ := hc k hlt
          have x0 : wr.cell? ⟨b, off + k, none⟩ = some (.slice Ak (rowN L k) ck) := (hb.cell (by exact hbB)).trans hx
          have y0 : wr.cell? ⟨b', off' + k, none⟩ = some (.int .i64 (nth ms k)) := (hb.cell (by exact hbB')).trans (hc' k hlt)
          have hz := hb.size
          have r1 : RecsAt (wr.alloc (.cells #[.slice Ak (rowN L k) ck] 36)) (wr.alloc (.cells #[.slice Ak (rowN L k) ck] 36)).heap.size 2 Ak (rowN L k) (rowZ L k) := (((hrec.below hb).mono hb.size).alloc (Nat.le_refl _) _).mono (by simp)
          have HB0 := Lib.hid (hb.alloc hz (.cells #[.slice Ak (rowN L k) ck] 36))
          clear hc hc' hb hx hrec
          cases hs : stoneB (rowZ L k) (rowN L k)
          · have HF := Lib.hid (marksB_3 q hlt (marksAt_1 ms hs))
            go_wp2_with fail
            refine (iStoneOk_any _ _ _ (rowZ L k) _ r1).mono ?_
            rw [hs]
            rintro e w1 ⟨rfl, hb1⟩
            have HB1 := Lib.hid (HB0.out.trans (hb1.mono (by simp; omega)))
            clear hb1 r1
            go_wp2
            go_ret
            exact ⟨ret_bool HF.out.symm, HB1.out⟩
          · cases hp : inB (nth ms k) 1 9
            · have HF := Lib.hid (marksB_3 q hlt (marksAt_2 L hp))
              go_wp2_with fail
              refine (iStoneOk_any _ _ _ (rowZ L k) _ r1).mono ?_
              rw [hs]
              rintro e w1 ⟨rfl, hb1⟩
              have HB1 := Lib.hid (HB0.out.trans (hb1.mono (by simp; omega)))
              have y1 := (hb1.cell (p := ⟨b', off' + k, none⟩) (by simp; omega)).trans ((World.cell?_alloc_lt wr _ _ (by simp; omega)).trans y0)
              clear hb1 r1
              go_wp2_with (go_at_call 36; refine (within_any _ _ _ _).mono ?_; rw [hp]; rintro e w' ⟨rfl, rfl⟩)
              go_ret
              exact ⟨ret_bool HF.out.symm, HB1.out⟩
            · have HS := Lib.hid (allTo_step hag (marksAt_t hs hp))
              clear hag
              go_wp2_with fail
              refine (iStoneOk_any _ _ _ (rowZ L k) _ r1).mono ?_
              rw [hs]
              rintro e w1 ⟨rfl, hb1⟩
              have HB1 := Lib.hid (HB0.out.trans (hb1.mono (by simp; omega)))
              have y1 := (hb1.cell (p := ⟨b', off' + k, none⟩) (by simp; omega)).trans ((World.cell?_alloc_lt wr _ _ (by simp; omega)).trans y0)
              clear hb1 r1
              go_wp2_with (go_at_call 36; refine (within_any _ _ _ _).mono ?_; rw [hp]; rintro e w' ⟨rfl, rfl⟩)
              go_roundw
              case rel => exact ⟨k + 1, by omega, by go_num, HS.out, HB1.out⟩
              case measure => first | (simp [intOf]; done) | (simp [intOf]; omega)
        · obtain rfl : k = q := by omega
          have HF := Lib.hid (marksB_t h12 rfl hag)
          clear hb hag
          go_wp2
          go_ret
          exact ⟨ret_bool HF.out.symm, HB.out⟩
    · have HF := Lib.hid (marksB_2 L ms hqn)
      have hd : ((q : Int) != (n : Int)) = true := by simp; omega
      have hd2 : ¬ (12 : Int) < (n : Int) := by omega
      clear hqn
      go_enter Try.func11, Try.ntmps11
      go_wp2
      go_ret
      exact ⟨ret_bool HF.out.symm, Below.refl _ _⟩
  · have HF := Lib.hid (marksB_1 L ms q h12)
    have hd2 : (12 : Int) < (n : Int) := by omega
    go_enter Try.func11, Try.ntmps11
    go_wp2
    go_ret
    exact ⟨ret_bool HF.out.symm, Below.refl _ _⟩
end Go.Proofs.Ytplabaneihjcoaa
