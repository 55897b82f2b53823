/-
  Contracts: copies and comparisons of slices of ints; the last number; the count of numbers that are not 0.
-/
import Derived.Test.YtplabaneihjcoaaProg
import Derived.Test.YtplabaneihjcoaaBase
import Derived.WalkKit
import Derived.Outline
import Derived.Deep.QuietTactic
import Derived.BigQuiet
namespace Go.Proofs.Ytplabaneihjcoaa
open Go.RowKit

theorem infoInt : (Try.prog.info? 3).map (fun i => (i.zero, i.size, i.bytes)) = some (some (.int .i64 0), 1, 8) := by kernel_rfl

/-- The first k numbers, then noughts. -/
def upto (zs : List Int) (k j : Nat) : Value := if j < k then .int .i64 (nth zs j) else .int .i64 0
theorem upto_at (zs : List Int) (k : Nat) : upto zs k k = .int .i64 0 := by simp [upto]
theorem upto_step (zs : List Int) (k j : Nat) : (if j = k then Value.int .i64 (nth zs k) else upto zs k j) = upto zs (k + 1) j := by
  unfold upto
  by_cases h : j = k
  · subst h; simp
  · by_cases h' : j < k
    · simp [h, h', show j < k + 1 by omega]
    · simp [h, h', show ¬ j < k + 1 by omega]
theorem upto_end (zs : List Int) (n j : Nat) (h : j < n) : upto zs n j = .int .i64 (nth zs j) := by simp [upto, h]

/-- The first k numbers agree. -/
def agree (xs ys : List Int) (k : Nat) : Prop := ∀ j, j < k → nth xs j = nth ys j
theorem agree_step {xs ys : List Int} {k : Nat} (h : agree xs ys k) (e : nth xs k = nth ys k) : agree xs ys (k + 1) := by
  intro j hj
  by_cases hjk : j = k
  · subst hjk; exact e
  · exact h j (by omega)
def eqL (xs ys : List Int) : Bool := decide (xs = ys)
theorem eqL_refl (xs : List Int) : eqL xs xs = true := by simp [eqL]

set_option maxHeartbeats 400000 in
theorem eqIntS_any (A A' : Option Addr) (n n' c c' : Nat) (xs ys : List Int) (w : World) (hx : IntsAt w w.heap.size A n xs) (hy : IntsAt w w.heap.size A' n' ys) (hn : n ≤ 1048576) (hn' : n' ≤ 1048576) :
    Calls Try.prog 52 #[.slice A n c, .slice A' n' c'] w fun e w' => e = .returned (.bool (eqL xs ys)) ∧ Below w.heap.size w w' := by
  by_cases hl : n = n'
  · subst hl
    have HX := Lib.hid hx
    have HY := Lib.hid hy
    clear hx hy
    have ht : ((n : Int) != (n : Int)) = false := by simp
    go_enter Try.func52, Try.ntmps52
    go_wp2
    go_loopw [5] (fun i wr => ∃ k : Nat, k ≤ n ∧ i = .int .i64 k ∧ agree xs ys k ∧ Below w.heap.size w wr) (fun i _ => n - (intOf i).toNat)
    case atStart => exact ⟨0, Nat.zero_le _, rfl, fun j hj => absurd hj (by omega), Below.refl _ _⟩
    case round =>
      obtain ⟨k, hk, rfl, hag, hb⟩ := hrel
      have HB := Lib.hid hb
      by_cases hlt : k < n
      · obtain ⟨b, off, rfl, hbB, hc⟩ := HX.out.2 (by omega)
        obtain ⟨b', off', rfl, hbB', hc'⟩ := HY.out.2 (by omega)
        have hcx : wr.cell? ⟨b, off + k, none⟩ = some (.int .i64 (nth xs k)) := (hb.cell (by exact hbB)).trans (hc k hlt)
        have hcy : wr.cell? ⟨b', off' + k, none⟩ = some (.int .i64 (nth ys k)) := (hb.cell (by exact hbB')).trans (hc' k hlt)
        have hki : (k : Int) < (n : Int) := by omega
        have hk0 : (0 : Int) ≤ (k : Int) := by omega
        clear hc hc' hb
        by_cases he : nth xs k = nth ys k
        · have hne : (nth xs k != nth ys k) = false := by simp [he]
          have HE := Lib.hid he
          clear he
          go_wp2
          go_quiet (fail)
          go_wp2
          go_roundw
          case rel => exact ⟨k + 1, by omega, by go_num, agree_step hag HE.out, below_drewN HB.out _⟩
          case measure => simp [intOf]; omega
        · have hne : (nth xs k != nth ys k) = true := by simp [he]
          have HE := Lib.hid he
          clear he
          go_wp2
          go_quiet (fail)
          go_wp2
          go_ret
          refine ⟨ret_bool ?_, below_drewN HB.out _⟩
          have : xs ≠ ys := fun e => HE.out (by rw [e])
          simp [eqL, this]
      · have hkn : k = n := by omega
        subst hkn
        clear hb
        go_wp2
        go_ret
        refine ⟨ret_bool ?_, HB.out⟩
        have : xs = ys := list_ext_nth (by rw [HX.out.1, HY.out.1]) (fun j hj => hag j (by rw [HX.out.1] at hj; exact hj))
        simp [eqL, this]
  · have H := Lib.hid (show xs ≠ ys from fun e => hl (by rw [← hx.1, ← hy.1, e]))
    have ht : ((n : Int) != (n' : Int)) = true := by simp; omega
    clear hx hy
    go_enter Try.func52, Try.ntmps52
    go_wp2
    go_ret
    exact ⟨ret_bool (by simp [eqL, H.out]), Below.refl _ _⟩

end Go.Proofs.Ytplabaneihjcoaa
