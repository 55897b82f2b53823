/-
  Contracts: marking a slice of ints of the call's own, and looking at the marks.
-/
import Derived.Test.YtplabaneihjcoaaWInts
import Derived.Test.YtplabaneihjcoaaOwn
namespace Go.Proofs.Ytplabaneihjcoaa
open Go.RowKit

/-- The first k numbers are replaced by k0, k0 + 1 and so on. -/
def markTo (xs : List Int) (k0 : Int) : Nat → List Int
  | 0 => xs
  | k + 1 => (markTo xs k0 k).set k (k0 + k)
theorem markTo_length (xs : List Int) (k0 : Int) : ∀ k, (markTo xs k0 k).length = xs.length
  | 0 => rfl
  | k + 1 => by rw [markTo, List.length_set, markTo_length xs k0 k]
/-- k0, k0 + 1, .. (n numbers). -/
def iota (k0 : Int) (n : Nat) : List Int := (List.range n).map (fun (i : Nat) => k0 + (i : Int))
theorem iota_length (k0 : Int) (n : Nat) : (iota k0 n).length = n := by simp [iota]
theorem nth_iota {k0 : Int} {n j : Nat} (hj : j < n) : nth (iota k0 n) j = k0 + j := by
  rw [nth_get _ _ (by rw [iota_length]; exact hj)]
  simp [iota]
theorem nth_markTo (xs : List Int) (k0 : Int) : ∀ k, k ≤ xs.length → ∀ j, j < k → nth (markTo xs k0 k) j = k0 + j
  | 0, _, j, hj => absurd hj (by omega)
  | k + 1, hk, j, hj => by
    have hl : j < (markTo xs k0 (k + 1)).length := by rw [markTo_length]; omega
    rw [nth_get _ _ hl]
    simp only [markTo, List.getElem_set]
    by_cases h : k = j
    · subst h; simp
    · rw [if_neg h, ← nth_get]
      exact nth_markTo xs k0 k (by omega) j (by omega)
theorem markTo_end (xs : List Int) (k0 : Int) : markTo xs k0 xs.length = iota k0 xs.length :=
  list_ext_nth (by rw [markTo_length, iota_length]) (fun j hj => by
    rw [markTo_length] at hj
    rw [nth_markTo xs k0 _ (Nat.le_refl _) j hj, nth_iota hj])
theorem markTo_step (xs : List Int) (k0 : Int) (k : Nat) : markTo xs k0 (k + 1) = (markTo xs k0 k).set k (k0 + k) := rfl

set_option maxHeartbeats 400000 in
theorem markIntS_any (A : Option Addr) (n c : Nat) (xs : List Int) (k0 : Int) (base : Nat) (w : World) (h : OwnV w base 3 (.slice A n c) xs) (hn : n ≤ 1048576) (h0 : 0 ≤ k0) (h1 : k0 ≤ 1000000000) :
    Calls Try.prog 55 #[.slice A n c, .int .i64 k0] w fun e w' => e = .returned (.int .i64 (k0 + n)) ∧ OwnV w' base 3 (.slice A n c) (iota k0 n) ∧ Below base w w' ∧ w'.heap.size = w.heap.size := by
  have hln := h.len
  subst hln
  go_enter Try.func55, Try.ntmps55
  go_wp2
  go_loopw [1, 5] (fun m i wr => ∃ k : Nat, k ≤ xs.length ∧ i = .int .i64 k ∧ m = .int .i64 (k0 + k) ∧ OwnV wr base 3 (.slice A xs.length c) (markTo xs k0 k) ∧ Below base w wr ∧ wr.heap.size = w.heap.size) (fun _ i _ => xs.length - (intOf i).toNat)
  case atStart => exact ⟨0, Nat.zero_le _, rfl, by simp, h, Below.refl _ _, rfl⟩
  case round =>
    obtain ⟨k, hk, rfl, rfl, hown, hb, hsz⟩ := hrel
    have HL := Lib.hid (markTo_length xs k0 k)
    have HS := Lib.hid (markTo_step xs k0 k)
    have HE := Lib.hid (markTo_end xs k0)
    by_cases hlt : k < xs.length
    · rcases hown.form with ⟨e1, e2⟩ | ⟨g, cap, e1, hi⟩
      · exfalso
        have := HL.out
        rw [e2] at this
        simp at this
        omega
      rw [HL.out] at e1
      simp only [Value.slice.injEq, true_and] at e1
      obtain ⟨rfl, rfl⟩ := e1
      have hcx := hi.cell (j := k) (by rw [HL.out]; exact hlt)
      have hfx := hi.frozen k
      have hg := hi.blk
      have HB := Lib.hid hb
      have HI := Lib.hid hi
      have HZ := Lib.hid hsz
      clear hown hi hb hsz h
      generalize nth (markTo xs k0 k) k = z at *
      generalize hmm : markTo xs k0 k = mm at *
      clear hmm
      go_wp2
      go_roundw
      case rel =>
        refine ⟨k + 1, by omega, by go_num, by go_num, ?_, HB.out.setCell hg.1 _, by simpa using HZ.out⟩
        rw [HS.out]
        have := HI.out.set k (k0 + k)
        unfold OwnI at this
        rw [List.length_set, HL.out] at this
        exact this
      case measure => simp [intOf]; omega
    · have hkn : k = xs.length := by omega
      subst hkn
      have HO := Lib.hid hown
      have HB := Lib.hid hb
      have HZ := Lib.hid hsz
      clear hown hb hsz h
      go_wp2
      go_ret
      refine ⟨rfl, ?_, HB.out, HZ.out⟩
      rw [← HE.out]
      exact HO.out

set_option maxHeartbeats 400000 in
theorem heldIntS_any (A : Option Addr) (n c : Nat) (k0 : Int) (w : World) (h : IntsAt w w.heap.size A n (iota k0 n)) (hn : n ≤ 1048576) (h0 : 0 ≤ k0) (h1 : k0 ≤ 1000000000) :
    Calls Try.prog 56 #[.slice A n c, .int .i64 k0] w fun e w' => e = .returned (.int .i64 (k0 + n)) ∧ w = w' := by
  have H := Lib.hid h
  clear h
  go_enter Try.func56, Try.ntmps56
  go_wp2
  go_loop [1, 5] (fun m i => ∃ k : Nat, k ≤ n ∧ i = .int .i64 k ∧ m = .int .i64 (k0 + k)) (fun _ i => n - (intOf i).toNat)
  case atStart => exact ⟨0, Nat.zero_le _, rfl, by simp⟩
  case round =>
    obtain ⟨k, hk, rfl, rfl⟩ := hrel
    by_cases hlt : k < n
    · obtain ⟨b, off, rfl, hbB, hc⟩ := H.out.2 (by omega)
      have hcx : w.cell? ⟨b, off + k, none⟩ = some (.int .i64 (k0 + k)) := by rw [hc k hlt, nth_iota hlt]
      have ht : (k0 + (k : Int) != k0 + (k : Int)) = false := by simp
      clear hc
      go_wp2
      go_round
      case rel => exact ⟨k + 1, by omega, by go_num, by go_num⟩
      case measure => simp [intOf]; omega
    · have hkn : k = n := by omega
      subst hkn
      go_wp2
      go_ret
      exact ⟨rfl, rfl⟩

end Go.Proofs.Ytplabaneihjcoaa
