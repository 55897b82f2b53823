/-
  Contracts: greatest common divisors, and the validity of a thrust, in the reference and in the program.
-/
import Derived.Test.YtdjhiegolojoaaaPGcd
import Derived.Test.YtdjhiegolojoaaaWSmall
import Derived.Test.YtdjhiegolojoaaaLawKit
import Derived.Deep.RegionHeld3
import Derived.Deep.QuietTactic
import Derived.BigQuiet
import Derived.BigRegion
import Derived.IntWalk
namespace Go.Proofs.Ytdjhiegolojoaaa
open Go.RowKit
set_option linter.unusedSimpArgs false

set_option maxHeartbeats 400000 in
theorem sGcd_any (a b : Int) (w : World) (ha : okG a) (hb : okG b) :
    Calls Try.prog 93 #[.int .i64 a, .int .i64 b] w fun e w' => e = .returned (.int .i64 (Nat.gcd a.natAbs b.natAbs : Nat)) ∧ ∃ n, w' = w.drewN n := by
  go_enter Try.func93, Try.ntmps93
  go_wp2
  go_loopw [0, 1] (fun x y wr => ∃ (x1 y1 : Int), x = .int .i64 x1 ∧ y = .int .i64 y1 ∧ Hid (Nat.gcd x1.natAbs y1.natAbs = Nat.gcd a.natAbs b.natAbs) ∧ okG x1 ∧ okG y1 ∧ Hid (∃ n, wr = w.drewN n)) (fun _ y _ => (intOf y).natAbs)
  case atStart => exact ⟨a, b, rfl, rfl, Lib.hid rfl, ha, hb, ⟨0, rfl⟩⟩
  case round =>
    obtain ⟨x1, y1, rfl, rfl, HG, hx, hy, HW⟩ := hrel
    by_cases h0 : y1 = 0
    · subst h0
      have HF : Hid ((x1.natAbs : Int) = (Nat.gcd a.natAbs b.natAbs : Nat)) := by
        have h := HG.out
        simp only [Int.natAbs_zero, Nat.gcd_zero_right] at h
        show _ = _
        rw [h]
      have hn := okG_neg hx
      clear HG
      go_wp2
      all_goals
        go_ret
        exact ⟨ret_int (by have := HF.out; omega), HW.out⟩
    · have hd : (y1 != 0) = true := by simp [h0]
      have hd0 : (y1 == 0) = false := by simp [h0]
      have HG2 : Hid (Nat.gcd y1.natAbs (Int.tmod x1 y1).natAbs = Nat.gcd a.natAbs b.natAbs) := by
        show _ = _
        rw [gcd_round_i]; exact HG.out
      have HM : Hid ((Int.tmod x1 y1).natAbs < y1.natAbs) := tmod_lt h0
      have ho := okG_tmod (a := x1) h0 hy
      clear HG
      go_wp2
      go_quiet (fail)
      go_wp2
      go_roundw
      case rel => exact ⟨_, _, rfl, rfl, HG2, hy, ho, by obtain ⟨n, rfl⟩ := HW.out; exact Lib.hid ⟨_, World.drewN_drewN _ _ _⟩⟩
      case measure => simp only [intOf]; exact HM.out
/-- The program's divisor of a list. -/
theorem magnitude_any (a : Int) (w : World) (ha : okG a) : Calls Try.prog 109 #[.int .i64 a] w fun e w' => e = .returned (.int .u64 (a.natAbs : Nat)) ∧ w = w' := by
  go_enter Try.func109, Try.ntmps109
  go_wp2
  all_goals
    go_ret
    first
    | exact ⟨ret_int (u64_neg ha (by assumption)), rfl⟩
    | exact ⟨ret_int (u64_pos ha (by assumption)), rfl⟩

set_option maxHeartbeats 400000 in
theorem commonDivisor_any (A : Option Addr) (n c : Nat) (L : List Int) (w : World) (h : IntsAt w w.heap.size A n L) (hn : n ≤ 1048576) (hL : ∀ k, okG (nth L k)) :
    Calls Try.prog 96 #[.slice A n c] w fun e w' => e = .returned (.int .i64 (gcdTo L n : Nat)) ∧ ∃ n, w' = w.drewN n := by
  have H := Lib.hid h
  have HL := Lib.hid hL
  have HGL : Hid (∀ k, okU (gcdTo L k)) := fun k => okU_gcdTo hL k
  clear h hL
  go_enter Try.func96, Try.ntmps96
  go_wp2
  go_loopw [3, 9] (fun x i wr => ∃ (k : Nat), k ≤ n ∧ i = .int .i64 k ∧ x = .int .u64 (gcdTo L k : Nat) ∧ Hid (∃ n, wr = w.drewN n)) (fun _ i _ => n - (intOf i).toNat)
  case atStart => exact ⟨0, Nat.zero_le _, rfl, rfl, Lib.hid ⟨0, rfl⟩⟩
  case round =>
    obtain ⟨k, hk, rfl, rfl, HW⟩ := hrel
    by_cases hlt : k < n
    · obtain ⟨b, off, rfl, hbB, hc⟩ := H.out.2 (by omega)
      have x0 : wr.cell? ⟨b, off + k, none⟩ = some (.int .i64 (nth L k)) := by
        obtain ⟨n', rfl⟩ := HW.out
        exact hc k hlt
      have ho := HL.out k
      have HS : Hid (gcdTo L (k + 1) = Nat.gcd (gcdTo L k) (nth L k).natAbs) := rfl
      have hu := HGL.out k
      have hm := okU_nat ho
      clear hc
      go_wp2_with fail
      refine (magnitude_any _ _ ho).mono ?_
      rintro e w' ⟨rfl, rfl⟩
      generalize gcdTo L k = d0 at *
      generalize (nth L k).natAbs = m0 at *
      go_wp2
      go_loopw [3, 6] (fun x y wr => ∃ (d m : Nat), x = .int .u64 d ∧ y = .int .u64 m ∧ Hid (Nat.gcd d m = Nat.gcd d0 m0) ∧ okU d ∧ okU m ∧ Hid (∃ n, wr = w.drewN n)) (fun _ y _ => (intOf y).toNat)
      case atStart => exact ⟨d0, m0, rfl, rfl, Lib.hid rfl, hu, hm, HW⟩
      case round =>
        clear HW hu hm
        obtain ⟨d, m, rfl, rfl, HG, hd, hm, HW⟩ := hrel
        by_cases h0 : m = 0
        · subst h0
          have HF : Hid (gcdTo L (k + 1) = d) := by
            have h := HG.out
            rw [Nat.gcd_zero_right] at h
            show _ = _
            rw [HS.out, h]
          clear HG hm
          go_wp2
          go_roundw
          case rel => exact ⟨k + 1, by omega, by go_num, by rw [HF.out], HW⟩
          case measure => simp [intOf]; omega
        · have hd1 : ((m : Int) != 0) = true := by simp [h0]
          have hd2 : ((m : Int) == 0) = false := by simp [h0]
          have hd3 : ¬ (m : Int) = 0 := by omega
          have he : Int.tmod (d : Int) (m : Int) = ((d % m : Nat) : Int) := by rw [Int.tmod_eq_emod_of_nonneg (by omega)]; rfl
          have HG2 : Hid (Nat.gcd m (d % m) = Nat.gcd d0 m0) := by
            show _ = _
            rw [gcd_round]; exact HG.out
          have HM : Hid (d % m < m) := Nat.mod_lt _ (by omega)
          have ho2 := okU_mod (d := d) h0 hm
          clear HG
          go_wp2
          go_quiet (fail)
          go_wp2
          go_roundw
          case rel => exact ⟨m, d % m, rfl, rfl, HG2, hm, ho2, by obtain ⟨n, rfl⟩ := HW.out; exact Lib.hid ⟨_, World.drewN_drewN _ _ _⟩⟩
          case measure => simp [intOf]; exact HM.out
    · obtain rfl : n = k := by omega
      have hu := u64_to_i64 (HGL.out n)
      go_wp2
      go_ret
      exact ⟨rfl, HW.out⟩

theorem okG_of {a : Int} (h : -10000000000000 ≤ a ∧ a ≤ 10000000000000) : okG a := by unfold okG; omega
theorem okG_gcd {a b : Int} (ha : okG a) (hb : okG b) : okG (Nat.gcd a.natAbs b.natAbs : Nat) := by
  have h1 := okU_gcdTo (L := [a, b]) (fun k => match k with | 0 => ha | 1 => hb | k + 2 => by simp [nth, List.getD, okG]) 2
  rw [gcdTo_2] at h1
  unfold okU at h1
  unfold okG
  omega
theorem okG_nth4 {a b c d : Int} (ha : okG a) (hb : okG b) (hc : okG c) (hd : okG d) : ∀ k, okG (nth [a, b, c, d] k)
  | 0 => ha
  | 1 => hb
  | 2 => hc
  | 3 => hd
  | k + 4 => by simp [nth, List.getD, okG]
theorem gcd_one (x : Nat) : (((x : Nat) : Int) == 1) = decide (x = 1) := by
  rw [Bool.eq_iff_iff]
  simp
  omega
set_option maxRecDepth 100000 in
set_option maxHeartbeats 1600000 in
theorem iThrustOk_any (H V M D : Int) (w : World) :
    Calls Try.prog 116 #[.agg #[.int .i64 H, .int .i64 V, .int .i64 M, .int .i64 D]] w fun e w' => e = .returned (.bool (thrB H V M D)) ∧ Below w.heap.size w w' := by
  have HA := Lib.hid ((Below.refl w.heap.size w).alloc (Nat.le_refl _) (.cells #[.int .i64 H, .int .i64 V, .int .i64 M, .int .i64 D] 46))
  cases h1 : inB D 1 1000000
  · have HF := Lib.hid (thrB_1 H V M h1)
    go_enter Try.func116, Try.ntmps116
    go_wp2_with (go_at_call 31; refine (within_any _ _ _ _).mono ?_; rw [h1]; rintro e w' ⟨rfl, rfl⟩)
    go_ret
    exact ⟨ret_bool HF.out.symm, HA.out⟩
  cases h2 : inB H 0 1000000000000
  · have HF := Lib.hid (thrB_2 V M D h2)
    go_enter Try.func116, Try.ntmps116
    go_wp2_with (go_at_call 31; refine (within_any _ _ _ _).mono ?_; (first | rw [h1] | rw [h2]); rintro e w' ⟨rfl, rfl⟩)
    go_ret
    exact ⟨ret_bool HF.out.symm, HA.out⟩
  cases h3 : inB V (-10000000000000) 10000000000000
  · have HF := Lib.hid (thrB_3 H M D h3)
    go_enter Try.func116, Try.ntmps116
    go_wp2_with (go_at_call 31; refine (within_any _ _ _ _).mono ?_; (first | rw [h1] | rw [h2] | rw [h3]); rintro e w' ⟨rfl, rfl⟩)
    go_ret
    exact ⟨ret_bool HF.out.symm, HA.out⟩
  cases h4 : inB M (-10000000000000) 10000000000000
  · have HF := Lib.hid (thrB_4 H V D h4)
    go_enter Try.func116, Try.ntmps116
    go_wp2_with (go_at_call 31; refine (within_any _ _ _ _).mono ?_; (first | rw [h1] | rw [h2] | rw [h3] | rw [h4]); rintro e w' ⟨rfl, rfl⟩)
    go_ret
    exact ⟨ret_bool HF.out.symm, HA.out⟩
  have HT : Hid (decide (gcdTo [H, V, M, D] 4 = 1) = thrB H V M D) := by
    show _ = _
    rw [thrB_t h1 h2 h3 h4, gcdTo_4]
  have HOK : Hid (∀ k, okG (nth [H, V, M, D] k)) := by
    have b1 := inB_iff.1 h1
    have b2 := inB_iff.1 h2
    have b3 := inB_iff.1 h3
    have b4 := inB_iff.1 h4
    exact okG_nth4 (okG_of (by omega)) (okG_of (by omega)) (okG_of (by omega)) (okG_of (by omega))
  go_enter Try.func116, Try.ntmps116
  go_wp2_with (go_at_call 31; refine (within_any _ _ _ _).mono ?_; (first | rw [h1] | rw [h2] | rw [h3] | rw [h4]); rintro e w' ⟨rfl, rfl⟩)
  have hx : IntsAt ((w.alloc (.cells #[.int .i64 H, .int .i64 V, .int .i64 M, .int .i64 D] 46)).alloc (.cells #[.int .i64 H, .int .i64 V, .int .i64 M, .int .i64 D] 3)) ((w.alloc (.cells #[.int .i64 H, .int .i64 V, .int .i64 M, .int .i64 D] 46)).alloc (.cells #[.int .i64 H, .int .i64 V, .int .i64 M, .int .i64 D] 3)).heap.size (some ⟨w.heap.size + 1, 0, none⟩) 4 [H, V, M, D] := by
    have h := intsAt_row (World.rowIs_alloc (w.alloc (.cells #[.int .i64 H, .int .i64 V, .int .i64 M, .int .i64 D] 46)) #[.int .i64 H, .int .i64 V, .int .i64 M, .int .i64 D] 3 (ints [H, V, M, D]) (fun j hj => by simp at hj; match j, hj with | 0, _ => rfl | 1, _ => rfl | 2, _ => rfl | 3, _ => rfl)) (zs := [H, V, M, D]) (by simp) (fun k _ => rfl)
    simp only [World.size_alloc] at h ⊢
    exact h
  refine (commonDivisor_any _ _ _ [H, V, M, D] _ (by exact hx) (by omega) HOK.out).mono ?_
  rintro e w1 ⟨rfl, n1, rfl⟩
  have HG := Lib.hid (gcd_one (gcdTo [H, V, M, D] 4))
  clear hx
  generalize gcdTo [H, V, M, D] 4 = g0 at *
  go_wp2
  go_ret
  exact ⟨ret_bool (by rw [← HT.out]; first | exact HG.out | simp), below_drewN (HA.out.alloc (by simp) _) _⟩

set_option maxRecDepth 100000 in
set_option maxHeartbeats 1600000 in
theorem sThrustOk_any (H V M D : Int) (w : World) :
    Calls Try.prog 70 #[.agg #[.int .i64 H, .int .i64 V, .int .i64 M, .int .i64 D]] w fun e w' => e = .returned (.bool (thrB H V M D)) ∧ Below w.heap.size w w' := by
  have HA := Lib.hid ((Below.refl w.heap.size w).alloc (Nat.le_refl _) (.cells #[.int .i64 H, .int .i64 V, .int .i64 M, .int .i64 D] 46))
  cases h1 : inB D 1 1000000
  · have HF := Lib.hid (thrB_1 H V M h1)
    go_enter Try.func70, Try.ntmps70
    go_wp2_with (go_at_call 26; refine (l01In_any _ _ _ _).mono ?_; rw [h1]; rintro e w' ⟨rfl, rfl⟩)
    go_ret
    exact ⟨ret_bool HF.out.symm, HA.out⟩
  cases h2 : inB H 0 1000000000000
  · have HF := Lib.hid (thrB_2 V M D h2)
    go_enter Try.func70, Try.ntmps70
    go_wp2_with (go_at_call 26; refine (l01In_any _ _ _ _).mono ?_; (first | rw [h1] | rw [h2]); rintro e w' ⟨rfl, rfl⟩)
    go_ret
    exact ⟨ret_bool HF.out.symm, HA.out⟩
  cases h3 : inB V (-10000000000000) 10000000000000
  · have HF := Lib.hid (thrB_3 H M D h3)
    go_enter Try.func70, Try.ntmps70
    go_wp2_with (go_at_call 26; refine (l01In_any _ _ _ _).mono ?_; (first | rw [h1] | rw [h2] | rw [h3]); rintro e w' ⟨rfl, rfl⟩)
    go_ret
    exact ⟨ret_bool HF.out.symm, HA.out⟩
  cases h4 : inB M (-10000000000000) 10000000000000
  · have HF := Lib.hid (thrB_4 H V D h4)
    go_enter Try.func70, Try.ntmps70
    go_wp2_with (go_at_call 26; refine (l01In_any _ _ _ _).mono ?_; (first | rw [h1] | rw [h2] | rw [h3] | rw [h4]); rintro e w' ⟨rfl, rfl⟩)
    go_ret
    exact ⟨ret_bool HF.out.symm, HA.out⟩
  have HT : Hid (decide (Nat.gcd (Nat.gcd H.natAbs V.natAbs) (Nat.gcd M.natAbs D.natAbs) = 1) = thrB H V M D) := by
    show _ = _
    rw [thrB_t h1 h2 h3 h4]
    rfl
  have b1 := inB_iff.1 h1
  have b2 := inB_iff.1 h2
  have b3 := inB_iff.1 h3
  have b4 := inB_iff.1 h4
  have o1 : okG D := okG_of (by omega)
  have o2 : okG H := okG_of (by omega)
  have o3 : okG V := okG_of (by omega)
  have o4 : okG M := okG_of (by omega)
  have o5 : okG (Nat.gcd H.natAbs V.natAbs : Nat) := okG_gcd o2 o3
  have o6 : okG (Nat.gcd M.natAbs D.natAbs : Nat) := okG_gcd o4 o1
  clear b1 b2 b3 b4
  go_enter Try.func70, Try.ntmps70
  go_wp2_with (go_at_call 26; refine (l01In_any _ _ _ _).mono ?_; (first | rw [h1] | rw [h2] | rw [h3] | rw [h4]); rintro e w' ⟨rfl, rfl⟩)
  go_quiet ((go_at_call 93; exact Calls.quiet_of (sGcd_any _ _ _ (by assumption) (by assumption))))
  have HG := Lib.hid (gcd_one (Nat.gcd (Nat.gcd H.natAbs V.natAbs) (Nat.gcd M.natAbs D.natAbs)))
  go_wp2
  go_ret
  exact ⟨ret_bool (by rw [← HT.out]; exact HG.out), below_drewN HA.out _⟩
end Go.Proofs.Ytdjhiegolojoaaa
