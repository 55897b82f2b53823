/-
  Contracts: marks of a grown nest and whether they hold.
-/
import Derived.Test.YtdjhiegolojoaaaGM
import Derived.Test.YtdjhiegolojoaaaNArch
import Derived.Test.YtdjhiegolojoaaaNLLoad
import Derived.Test.YtdjhiegolojoaaaLawKit
namespace Go.Proofs.Ytdjhiegolojoaaa
open Go.RowKit
set_option linter.unusedSimpArgs false
set_option linter.unusedVariables false

set_option maxHeartbeats 1600000 in
theorem markArchS_ty (lo hi g n c : Nat) (L : List (Nat × List Int)) (k0 : Int) (w : World) (h : NestInts w lo hi g 41 67 4 n L) (hn : n ≤ 1048576) (hs : sumN L n ≤ 1048576) (hr : ∀ i, i < n → rowN L i ≤ 1048576) (h0 : 0 ≤ k0) (h1 : k0 ≤ 500000000) :
    Calls Try.prog 35 #[.slice (some ⟨g, 0, none⟩) n c, .int .i64 k0] w fun e w' => e = .returned (.int .i64 (k0 + (sumN L n * 4 : Nat))) ∧ Within lo hi w w' ∧ Turn lo 67 w w' := by
  have HS := Lib.hid hs
  have HR := Lib.hid hr
  have HM := Lib.hid (fun k hk => sumN_mono L (k := k) (n := n) hk)
  have H := Lib.hid h
  clear h hs hr
  go_enter Try.func35, Try.ntmps35
  go_wp2
  go_loopw [1, 5] (fun m i wr => ∃ k : Nat, k ≤ n ∧ i = .int .i64 k ∧ m = .int .i64 (k0 + (sumN L k * 4 : Nat)) ∧ Hid (NestInts wr lo hi g 41 67 4 n L) ∧ Hid (Within lo hi w wr) ∧ Hid (Turn lo 67 w wr)) (fun _ i _ => n - (intOf i).toNat)
  case atStart => exact ⟨0, Nat.zero_le _, rfl, by simp [sumN], H, Lib.hid (Within.refl _ _ _), Lib.hid (Turn.refl _ _ _)⟩
  case round =>
    clear H
    obtain ⟨k, hk, rfl, rfl, HN, HW, HU⟩ := hrel
    by_cases hlt : k < n
    · obtain ⟨gk, fk, hc, hg1, hg2, hrow, hir⟩ := HN.out.get hlt
      have hsk := HM.out k hk
      have hss := HS.out
      have hrk := HR.out k hlt
      have HRW := Lib.hid (And.intro hrow hir)
      clear hrow hir
      go_wp2_with fail
      refine (markJointS_any gk _ _ fk _ _ HRW.out.1 HRW.out.2 hrk (by omega) (by omega)).mono ?_
      rintro e w1 ⟨rfl, hrow1, hon⟩
      have HN1 := Lib.hid (HN.out.only hg1 hon HRW.out.1 hrow1 (intRow_marks HRW.out.2 _ _))
      have HW1 := Lib.hid (HW.out.trans (Within.of_only hon (by have := HN.out.low; omega) hg2))
      have HU1 := Lib.hid (HU.out.trans (Turn.of_only hon (RowF.of_row HRW.out.1) (by have := HN.out.low; omega)))
      clear hrow1 hon hc
      go_wp2
      go_roundw
      case rel => exact ⟨k + 1, by omega, by go_num, by simp only [sumN]; congr 1; rw [Nat.add_mul]; omega, HN1, HW1, HU1⟩
      case measure => simp [intOf]; omega
    · obtain rfl : k = n := by omega
      go_wp2
      go_ret
      exact ⟨rfl, HW.out, HU.out⟩

set_option maxHeartbeats 1600000 in
theorem markLoadSS_ty (lo hi g n c : Nat) (L : List (Nat × List Int)) (k0 : Int) (w : World) (h : NestInts w lo hi g 42 69 3 n L) (hn : n ≤ 1048576) (hs : sumN L n ≤ 1048576) (hr : ∀ i, i < n → rowN L i ≤ 1048576) (h0 : 0 ≤ k0) (h1 : k0 ≤ 500000000) :
    Calls Try.prog 36 #[.slice (some ⟨g, 0, none⟩) n c, .int .i64 k0] w fun e w' => e = .returned (.int .i64 (k0 + (sumN L n * 3 : Nat))) ∧ Within lo hi w w' ∧ Turn lo 69 w w' := by
  have HS := Lib.hid hs
  have HR := Lib.hid hr
  have HM := Lib.hid (fun k hk => sumN_mono L (k := k) (n := n) hk)
  have H := Lib.hid h
  clear h hs hr
  go_enter Try.func36, Try.ntmps36
  go_wp2
  go_loopw [1, 5] (fun m i wr => ∃ k : Nat, k ≤ n ∧ i = .int .i64 k ∧ m = .int .i64 (k0 + (sumN L k * 3 : Nat)) ∧ Hid (NestInts wr lo hi g 42 69 3 n L) ∧ Hid (Within lo hi w wr) ∧ Hid (Turn lo 69 w wr)) (fun _ i _ => n - (intOf i).toNat)
  case atStart => exact ⟨0, Nat.zero_le _, rfl, by simp [sumN], H, Lib.hid (Within.refl _ _ _), Lib.hid (Turn.refl _ _ _)⟩
  case round =>
    clear H
    obtain ⟨k, hk, rfl, rfl, HN, HW, HU⟩ := hrel
    by_cases hlt : k < n
    · obtain ⟨gk, fk, hc, hg1, hg2, hrow, hir⟩ := HN.out.get hlt
      have hsk := HM.out k hk
      have hss := HS.out
      have hrk := HR.out k hlt
      have HRW := Lib.hid (And.intro hrow hir)
      clear hrow hir
      go_wp2_with fail
      refine (markLoadS_any gk _ _ fk _ _ HRW.out.1 HRW.out.2 hrk (by omega) (by omega)).mono ?_
      rintro e w1 ⟨rfl, hrow1, hon⟩
      have HN1 := Lib.hid (HN.out.only hg1 hon HRW.out.1 hrow1 (intRow_marks HRW.out.2 _ _))
      have HW1 := Lib.hid (HW.out.trans (Within.of_only hon (by have := HN.out.low; omega) hg2))
      have HU1 := Lib.hid (HU.out.trans (Turn.of_only hon (RowF.of_row HRW.out.1) (by have := HN.out.low; omega)))
      clear hrow1 hon hc
      go_wp2
      go_roundw
      case rel => exact ⟨k + 1, by omega, by go_num, by simp only [sumN]; congr 1; rw [Nat.add_mul]; omega, HN1, HW1, HU1⟩
      case measure => simp [intOf]; omega
    · obtain rfl : k = n := by omega
      go_wp2
      go_ret
      exact ⟨rfl, HW.out, HU.out⟩

set_option maxHeartbeats 1600000 in
theorem markArchS_gm (base : Nat) (A : Option Addr) (n c : Nat) (cs : List Value) (L : List (Nat × List Int)) (k0 : Int) (w : World) (h : GM w base 41 67 4 (.slice A n c) n cs L) (hn : n ≤ 1048576) (hs : sumN L n ≤ 4194304) (hr : ∀ i, i < n → rowN L i ≤ 1048576) (h0 : 0 ≤ k0) (h1 : k0 ≤ 500000000) :
    Calls Try.prog 35 #[.slice A n c, .int .i64 k0] w fun e w' => e = .returned (.int .i64 (k0 + (sumN L n * 4 : Nat))) ∧ GM w' base 41 67 4 (.slice A n c) n cs (mkTo L n 4 k0 n) ∧ Turn base 67 w w' := by
  have HS := Lib.hid hs
  have HR := Lib.hid hr
  have HM := Lib.hid (fun k hk => sumN_mono L (k := k) (n := n) hk)
  have H := Lib.hid (h.start (k0 := k0))
  clear h hs hr
  go_enter Try.func35, Try.ntmps35
  go_wp2
  go_loopw [1, 5] (fun m i wr => ∃ k : Nat, k ≤ n ∧ i = .int .i64 k ∧ m = .int .i64 (k0 + (sumN L k * 4 : Nat)) ∧ Hid (GM wr base 41 67 4 (.slice A n c) n cs (mkTo L n 4 k0 k)) ∧ Hid (Turn base 67 w wr)) (fun _ i _ => n - (intOf i).toNat)
  case atStart => exact ⟨0, Nat.zero_le _, rfl, by simp [sumN], H, Lib.hid (Turn.refl _ _ _)⟩
  case round =>
    clear H
    obtain ⟨k, hk, rfl, rfl, HN, HW⟩ := hrel
    by_cases hlt : k < n
    · obtain ⟨g, gk, ck, rfl, hc, hck, hrow, hge⟩ := HN.out.get hlt
      have hsk := HM.out k hk
      have hss := HS.out
      have hrk := HR.out k hlt
      rw [mkTo_n hlt] at hc hck hrow
      have HCK := Lib.hid hck
      have HRW := Lib.hid hrow
      clear hck hrow
      go_wp2_with fail
      refine (markJointS_rowF gk _ _ (ints (rowZ (mkTo L n 4 k0 k) k)) _ _ HRW.out (fun j => ⟨_, rfl⟩) hrk (by omega) (by omega)).mono ?_
      rintro e w1 ⟨rfl, hrow1, hon⟩
      have HN1 := Lib.hid (HN.out.step (by decide) hlt HCK.out hon hrow1)
      have HW1 := Lib.hid (HW.out.trans (Turn.of_only hon HRW.out hge))
      clear hrow1 hon hc
      go_wp2
      go_roundw
      case rel => exact ⟨k + 1, by omega, by go_num, by simp only [sumN]; congr 1; rw [Nat.add_mul]; omega, HN1, HW1⟩
      case measure => simp [intOf]; omega
    · obtain rfl : k = n := by omega
      go_wp2
      go_ret
      exact ⟨rfl, HN.out, HW.out⟩

set_option maxHeartbeats 1600000 in
theorem markLoadSS_gm (base : Nat) (A : Option Addr) (n c : Nat) (cs : List Value) (L : List (Nat × List Int)) (k0 : Int) (w : World) (h : GM w base 42 69 3 (.slice A n c) n cs L) (hn : n ≤ 1048576) (hs : sumN L n ≤ 4194304) (hr : ∀ i, i < n → rowN L i ≤ 1048576) (h0 : 0 ≤ k0) (h1 : k0 ≤ 500000000) :
    Calls Try.prog 36 #[.slice A n c, .int .i64 k0] w fun e w' => e = .returned (.int .i64 (k0 + (sumN L n * 3 : Nat))) ∧ GM w' base 42 69 3 (.slice A n c) n cs (mkTo L n 3 k0 n) ∧ Turn base 69 w w' := by
  have HS := Lib.hid hs
  have HR := Lib.hid hr
  have HM := Lib.hid (fun k hk => sumN_mono L (k := k) (n := n) hk)
  have H := Lib.hid (h.start (k0 := k0))
  clear h hs hr
  go_enter Try.func36, Try.ntmps36
  go_wp2
  go_loopw [1, 5] (fun m i wr => ∃ k : Nat, k ≤ n ∧ i = .int .i64 k ∧ m = .int .i64 (k0 + (sumN L k * 3 : Nat)) ∧ Hid (GM wr base 42 69 3 (.slice A n c) n cs (mkTo L n 3 k0 k)) ∧ Hid (Turn base 69 w wr)) (fun _ i _ => n - (intOf i).toNat)
  case atStart => exact ⟨0, Nat.zero_le _, rfl, by simp [sumN], H, Lib.hid (Turn.refl _ _ _)⟩
  case round =>
    clear H
    obtain ⟨k, hk, rfl, rfl, HN, HW⟩ := hrel
    by_cases hlt : k < n
    · obtain ⟨g, gk, ck, rfl, hc, hck, hrow, hge⟩ := HN.out.get hlt
      have hsk := HM.out k hk
      have hss := HS.out
      have hrk := HR.out k hlt
      rw [mkTo_n hlt] at hc hck hrow
      have HCK := Lib.hid hck
      have HRW := Lib.hid hrow
      clear hck hrow
      go_wp2_with fail
      refine (markLoadS_rowF gk _ _ (ints (rowZ (mkTo L n 3 k0 k) k)) _ _ HRW.out (fun j => ⟨_, rfl⟩) hrk (by omega) (by omega)).mono ?_
      rintro e w1 ⟨rfl, hrow1, hon⟩
      have HN1 := Lib.hid (HN.out.step (by decide) hlt HCK.out hon hrow1)
      have HW1 := Lib.hid (HW.out.trans (Turn.of_only hon HRW.out hge))
      clear hrow1 hon hc
      go_wp2
      go_roundw
      case rel => exact ⟨k + 1, by omega, by go_num, by simp only [sumN]; congr 1; rw [Nat.add_mul]; omega, HN1, HW1⟩
      case measure => simp [intOf]; omega
    · obtain rfl : k = n := by omega
      go_wp2
      go_ret
      exact ⟨rfl, HN.out, HW.out⟩

set_option maxHeartbeats 1600000 in
theorem heldArchS_any (A : Option Addr) (n c : Nat) (L : List (Nat × List Int)) (k0 : Int) (w : World) (h : NestAt w w.heap.size 4 A n L) (hn : n ≤ 1048576) (hs : sumN L n ≤ 4194304) (hr : ∀ i, i < n → rowN L i ≤ 1048576) (hz : ∀ i, i < n → rowZ L i = iota (k0 + (sumN L i * 4 : Nat)) (rowN L i * 4)) (h0 : 0 ≤ k0) (h1 : k0 ≤ 500000000) :
    Calls Try.prog 37 #[.slice A n c, .int .i64 k0] w fun e w' => e = .returned (.int .i64 (k0 + (sumN L n * 4 : Nat))) ∧ Below w.heap.size w w' := by
  have HS := Lib.hid hs
  have HR := Lib.hid hr
  have HZ := Lib.hid hz
  have HM := Lib.hid (fun k hk => sumN_mono L (k := k) (n := n) hk)
  have H := Lib.hid h
  clear h hs hr hz
  go_enter Try.func37, Try.ntmps37
  go_wp2
  go_loopw [1, 5] (fun m i wr => ∃ k : Nat, k ≤ n ∧ i = .int .i64 k ∧ m = .int .i64 (k0 + (sumN L k * 4 : Nat)) ∧ Hid (Below w.heap.size w wr)) (fun _ i _ => n - (intOf i).toNat)
  case atStart => exact ⟨0, Nat.zero_le _, rfl, by simp [sumN], Lib.hid (Below.refl _ _)⟩
  case round =>
    obtain ⟨k, hk, rfl, rfl, HB⟩ := hrel
    by_cases hlt : k < n
    · obtain ⟨b, off, rfl, hb, hc⟩ := (H.out.after HB.out).2 (by omega)
      obtain ⟨Ai, ci, hci, hri, _, _⟩ := hc k hlt
      have hsk := HM.out k hk
      have hsk1 := HM.out (k + 1) hlt
      have hss := HS.out
      have hrk := HR.out k hlt
      have HRC := Lib.hid hri
      have hzk := HZ.out k hlt
      rw [hzk] at HRC
      have p1 : ¬ k0 + ((sumN L (k + 1) * 4 : Nat) : Int) < 0 := by omega
      have es : k0 + ((sumN L k * 4 : Nat) : Int) + ((rowN L k * 4 : Nat) : Int) = k0 + ((sumN L (k + 1) * 4 : Nat) : Int) := by simp only [sumN]; rw [Nat.add_mul]; omega
      clear hc hri hzk
      go_wp2_with fail
      refine (heldJointS_any _ _ _ _ _ HRC.out hrk (by omega) (by omega)).mono ?_
      rintro e w1 ⟨rfl, rfl⟩
      rw [es]
      clear hci es
      go_wp2
      go_roundw
      case rel => exact ⟨k + 1, by omega, by go_num, rfl, HB⟩
      case measure => simp [intOf]; omega
    · obtain rfl : k = n := by omega
      go_wp2
      go_ret
      exact ⟨rfl, HB.out⟩

set_option maxHeartbeats 1600000 in
theorem heldLoadSS_any (A : Option Addr) (n c : Nat) (L : List (Nat × List Int)) (k0 : Int) (w : World) (h : NestAt w w.heap.size 3 A n L) (hn : n ≤ 1048576) (hs : sumN L n ≤ 4194304) (hr : ∀ i, i < n → rowN L i ≤ 1048576) (hz : ∀ i, i < n → rowZ L i = iota (k0 + (sumN L i * 3 : Nat)) (rowN L i * 3)) (h0 : 0 ≤ k0) (h1 : k0 ≤ 500000000) :
    Calls Try.prog 38 #[.slice A n c, .int .i64 k0] w fun e w' => e = .returned (.int .i64 (k0 + (sumN L n * 3 : Nat))) ∧ Below w.heap.size w w' := by
  have HS := Lib.hid hs
  have HR := Lib.hid hr
  have HZ := Lib.hid hz
  have HM := Lib.hid (fun k hk => sumN_mono L (k := k) (n := n) hk)
  have H := Lib.hid h
  clear h hs hr hz
  go_enter Try.func38, Try.ntmps38
  go_wp2
  go_loopw [1, 5] (fun m i wr => ∃ k : Nat, k ≤ n ∧ i = .int .i64 k ∧ m = .int .i64 (k0 + (sumN L k * 3 : Nat)) ∧ Hid (Below w.heap.size w wr)) (fun _ i _ => n - (intOf i).toNat)
  case atStart => exact ⟨0, Nat.zero_le _, rfl, by simp [sumN], Lib.hid (Below.refl _ _)⟩
  case round =>
    obtain ⟨k, hk, rfl, rfl, HB⟩ := hrel
    by_cases hlt : k < n
    · obtain ⟨b, off, rfl, hb, hc⟩ := (H.out.after HB.out).2 (by omega)
      obtain ⟨Ai, ci, hci, hri, _, _⟩ := hc k hlt
      have hsk := HM.out k hk
      have hsk1 := HM.out (k + 1) hlt
      have hss := HS.out
      have hrk := HR.out k hlt
      have HRC := Lib.hid hri
      have hzk := HZ.out k hlt
      rw [hzk] at HRC
      have p1 : ¬ k0 + ((sumN L (k + 1) * 3 : Nat) : Int) < 0 := by omega
      have es : k0 + ((sumN L k * 3 : Nat) : Int) + ((rowN L k * 3 : Nat) : Int) = k0 + ((sumN L (k + 1) * 3 : Nat) : Int) := by simp only [sumN]; rw [Nat.add_mul]; omega
      clear hc hri hzk
      go_wp2_with fail
      refine (heldLoadS_any _ _ _ _ _ HRC.out hrk (by omega) (by omega)).mono ?_
      rintro e w1 ⟨rfl, rfl⟩
      rw [es]
      clear hci es
      go_wp2
      go_roundw
      case rel => exact ⟨k + 1, by omega, by go_num, rfl, HB⟩
      case measure => simp [intOf]; omega
    · obtain rfl : k = n := by omega
      go_wp2
      go_ret
      exact ⟨rfl, HB.out⟩

end Go.Proofs.Ytdjhiegolojoaaa
