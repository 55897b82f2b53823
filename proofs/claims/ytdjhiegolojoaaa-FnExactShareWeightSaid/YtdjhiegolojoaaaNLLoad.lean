/-
  Contracts of the laws' helpers for slices of LoadS.
-/
import Derived.Test.YtdjhiegolojoaaaRLoad
import Derived.Test.YtdjhiegolojoaaaWithin
import Derived.Test.YtdjhiegolojoaaaLawKit
import Derived.Deep.RegionHeld3
namespace Go.Proofs.Ytdjhiegolojoaaa
open Go.RowKit

theorem infoLLoadS : (Try.prog.info? 42).map (fun i => (i.zero, i.size, i.bytes)) = some (some (.slice none 0 0), 1, 24) := by kernel_rfl

theorem toLoadS_ex (A : Option Addr) (n c : Nat) (zs : List Int) (w : World) (h : RecsAt w w.heap.size 3 A n zs) (hn : n ≤ 1048576) :
    Calls Try.prog 53 #[.slice A n c] w fun e w' => ∃ g, e = .returned (.slice (some ⟨g, 0, none⟩) n n) ∧ w.heap.size ≤ g ∧ w'.rowIs g 69 (n * 3) (ints zs) ∧ Below w.heap.size w w' :=
  (toLoadS_any A n c zs w h hn).mono fun _ _ ⟨he, hr, hb⟩ => ⟨_, he, Nat.le_refl _, hr, hb⟩

set_option maxHeartbeats 800000 in
theorem toLoadSS_any (A : Option Addr) (n c : Nat) (L : List (Nat × List Int)) (w : World) (h : NestAt w w.heap.size 3 A n L) (hn : n ≤ 1048576) (hr : ∀ i, i < n → rowN L i ≤ 1048576) :
    Calls Try.prog 28 #[.slice A n c] w fun e w' => ∃ g, e = .returned (.slice (some ⟨g, 0, none⟩) n n) ∧ w.heap.size ≤ g ∧ NestRow w' g 42 69 3 n L ∧ Below w.heap.size w w' := by
  have H := Lib.hid h
  have HR := Lib.hid hr
  clear h hr
  have hmk := run_make_row' (P := Try.prog) 28 42 (.slice none 0 0) 24 Try.underlying28 infoLLoadS rfl .i64 .i64 n (by omega) (by omega)
  go_enter Try.func28, Try.ntmps28
  go_wp2
  clear hmk
  go_loopw [4] (fun i wr => ∃ k : Nat, k ≤ n ∧ i = .int .i64 k ∧ NestTo wr w.heap.size 42 69 3 n L k ∧ Below w.heap.size w wr) (fun i _ => n - (intOf i).toNat)
  case atStart => exact ⟨0, Nat.zero_le _, rfl, NestTo.start w _ _ _ _ _, (Below.refl _ _).alloc (Nat.le_refl _) _⟩
  case round =>
    obtain ⟨k, hk, rfl, hrow, hb⟩ := hrel
    by_cases hlt : k < n
    · obtain ⟨b, off, rfl, hbB, hc⟩ := H.out.2 (by omega)
      obtain ⟨Ak, ck, hx, hrec, _, _⟩ := hc k hlt
      have hx0 : wr.cell? ⟨b, off + k, none⟩ = some (.slice Ak (rowN L k) ck) := (hb.cell (by exact hbB)).trans hx
      have hrec' := (hrec.below hb).mono hb.size
      have hrk := HR.out k hlt
      have hz := hb.size
      have HRW := Lib.hid hrow
      have HB := Lib.hid hb
      clear hrow hb hc hx hrec
      go_wp2_with fail
      refine (toLoadS_ex _ _ _ (rowZ L k) _ hrec' hrk).mono ?_
      rintro e w1 ⟨gi, rfl, hgi, ri, hb1⟩
      have hrow1 := HRW.out.after hb1
      have hcy := hrow1.cell hlt
      have hfy := hrow1.frozen k
      have hlt1 : w.heap.size < gi := by have := HRW.out; obtain ⟨f, h1, _⟩ := this; have := h1.lt; omega
      have HS := Lib.hid (hrow1.step hlt1 ri)
      have HB1 := Lib.hid ((HB.out.trans (hb1.mono hz)).setCell (p := ⟨w.heap.size, k, none⟩) (Nat.le_refl _) (.slice (some ⟨gi, 0, none⟩) (rowN L k) (rowN L k)))
      clear hrow1 hb1 ri hrec'
      go_wp2
      go_roundw
      case rel => exact ⟨k + 1, by omega, by go_num, HS.out, HB1.out⟩
      case measure => simp [intOf]; omega
    · obtain rfl : k = n := by omega
      have HRW := Lib.hid hrow.done
      have HB := Lib.hid hb
      clear hrow hb
      go_wp2
      go_ret
      exact ⟨_, rfl, Nat.le_refl _, HRW.out, HB.out⟩

set_option maxHeartbeats 800000 in
theorem szLoadSS_any (A : Option Addr) (n c : Nat) (L : List (Nat × List Int)) (l : Int) (w : World) (h : NestAt w w.heap.size 3 A n L) (hl0 : 0 ≤ l) (hl1 : l ≤ 1048576) (hn : n ≤ 9223372036854775807) :
    Calls Try.prog 23 #[.slice A n c, .int .i64 l] w (SzPost l n L w) := by
  have H := Lib.hid h
  clear h
  by_cases hnl : (n : Int) ≤ l
  · have ht : ¬ l - (n : Int) < 0 := by omega
    go_enter Try.func23, Try.ntmps23
    go_wp2
    go_loopw [1, 5] (fun m i wr => ∃ (k : Nat) (r : Int), k ≤ n ∧ i = .int .i64 k ∧ m = .int .i64 r ∧ 0 ≤ r ∧ r + (sumN L k : Int) ≤ l ∧ Below w.heap.size w wr ∧ Hid (∀ i, i < k → (rowN L i : Int) ≤ l)) (fun _ i _ => n - (intOf i).toNat)
    case atStart => exact ⟨0, _, Nat.zero_le _, rfl, rfl, by omega, by simp [sumN]; omega, Below.refl _ _, Lib.hid (fun i hi => absurd hi (by omega))⟩
    case round =>
      obtain ⟨k, r, hk, rfl, rfl, hr0, hr1, hb, HA⟩ := hrel
      have HB := Lib.hid hb
      by_cases hlt : k < n
      · obtain ⟨b, off, rfl, hbB, hc⟩ := H.out.2 (by omega)
        obtain ⟨Ak, ck, hx, hrec, hcc, hcm⟩ := hc k hlt
        have hx0 : wr.cell? ⟨b, off + k, none⟩ = some (.slice Ak (rowN L k) ck) := (hb.cell (by exact hbB)).trans hx
        have hmx : rowN L k ≤ 9223372036854775807 := by unfold maxLen at hcm; omega
        clear hc hx hrec hb
        by_cases hle : (rowN L k : Int) ≤ r
        · have ht2 : ¬ r - (rowN L k : Int) < 0 := by omega
          have HA' := Lib.hid (show ∀ i, i < k + 1 → (rowN L i : Int) ≤ l from fun i hi => by
            by_cases hik : i = k
            · subst hik; omega
            · exact HA.out i (by omega))
          go_wp2_with fail
          refine (calls_below (szLoadS_ok _ _ _ _ _ hr0 (by omega) hmx hle)).mono ?_
          rintro e w1 ⟨rfl, hb1⟩
          have HB1 := Lib.hid (HB.out.trans (hb1.mono HB.out.size))
          clear hb1
          go_wp2
          go_roundw
          case rel => exact ⟨k + 1, _, by omega, by go_num, rfl, by omega, by simp only [sumN]; omega, HB1.out, HA'⟩
          case measure => simp [intOf]; omega
        · go_wp2_with fail
          refine (calls_below (szLoadS_no _ _ _ _ _ hr0 (by omega) hmx (by omega))).mono ?_
          rintro e w1 ⟨rfl, hb1⟩
          have HB1 := Lib.hid (HB.out.trans (hb1.mono HB.out.size))
          clear hb1
          go_wp2
          go_ret
          exact szPost_no HB1.out
      · obtain rfl : k = n := by omega
        clear hb
        go_wp2
        go_ret
        exact szPost_ok HB.out hr0 (by omega) hnl HA.out (by omega)
  · have ht : l - (n : Int) < 0 := by omega
    go_enter Try.func23, Try.ntmps23
    go_wp2
    go_ret
    exact szPost_no (Below.refl _ _)

set_option maxHeartbeats 800000 in
theorem eqLoadSS_same (A A' : Option Addr) (n c c' : Nat) (L : List (Nat × List Int)) (w : World) (hx : NestAt w w.heap.size 3 A n L) (hy : NestAt w w.heap.size 3 A' n L) (hn : n ≤ 1048576) (hr : ∀ i, i < n → rowN L i ≤ 1048576) :
    Calls Try.prog 34 #[.slice A n c, .slice A' n c'] w fun e w' => e = .returned (.bool true) ∧ Below w.heap.size w w' := by
  have HX := Lib.hid hx
  have HY := Lib.hid hy
  have HR := Lib.hid hr
  clear hx hy hr
  have ht : ((n : Int) != (n : Int)) = false := by simp
  go_enter Try.func34, Try.ntmps34
  go_wp2
  go_loopw [5] (fun i wr => ∃ k : Nat, k ≤ n ∧ i = .int .i64 k ∧ Below w.heap.size w wr) (fun i _ => n - (intOf i).toNat)
  case atStart => exact ⟨0, Nat.zero_le _, rfl, Below.refl _ _⟩
  case round =>
    obtain ⟨k, hk, rfl, hb⟩ := hrel
    have HB := Lib.hid hb
    by_cases hlt : k < n
    · obtain ⟨b, off, rfl, hbB, hc⟩ := HX.out.2 (by omega)
      obtain ⟨b', off', rfl, hbB', hc'⟩ := HY.out.2 (by omega)
      obtain ⟨Ak, ck, hx, hrec, _, _⟩ := hc k hlt
      obtain ⟨Ak', ck', hx', hrec', _, _⟩ := hc' k hlt
      have cx0 : wr.cell? ⟨b, off + k, none⟩ = some (.slice Ak (rowN L k) ck) := (hb.cell (by exact hbB)).trans hx
      have cy0 : wr.cell? ⟨b', off' + k, none⟩ = some (.slice Ak' (rowN L k) ck') := (hb.cell (by exact hbB')).trans hx'
      have r1 := (hrec.below hb).mono hb.size
      have r2 := (hrec'.below hb).mono hb.size
      have hrk := HR.out k hlt
      have hz := hb.size
      have ki : (k : Int) < (n : Int) := by omega
      have k0 : (0 : Int) ≤ (k : Int) := by omega
      clear hc hc' hb hx hx' hrec hrec'
      go_wp2
      go_region_held3 (fun w' => w'.cell? ⟨b, off + k, none⟩ = some (.slice Ak (rowN L k) ck) ∧ w'.cell? ⟨b', off' + k, none⟩ = some (.slice Ak' (rowN L k) ck')) (first | (go_keep; done) | (refine ⟨?_, ?_⟩ <;> (rw [hcc _ _ (by simp <;> omega)]; go_keep))) ((go_at_call 58; refine (eqLoadS_same _ _ _ _ _ (rowZ L k) _ (by exact r1) (by exact r2) hrk).mono ?_; rintro e w1 ⟨rfl, hb1⟩; obtain ⟨hcc, hff⟩ := bcell hb1))
      have HB1 := Lib.hid (HB.out.drew.trans (hb1.mono (by have := HB.out.size; simp; omega)))
      clear hcc hff hb1
      go_wp2
      go_roundw
      case rel => exact ⟨k + 1, by omega, by go_num, HB1.out⟩
      case measure => simp [intOf]; omega
    · obtain rfl : k = n := by omega
      clear hb
      go_wp2
      go_ret
      exact ⟨rfl, HB.out⟩

set_option maxHeartbeats 800000 in
theorem markLoadSS_any (lo hi g n c : Nat) (L : List (Nat × List Int)) (k0 : Int) (w : World) (h : NestInts w lo hi g 42 69 3 n L) (hn : n ≤ 1048576) (hs : sumN L n ≤ 1048576) (hr : ∀ i, i < n → rowN L i ≤ 1048576) (h0 : 0 ≤ k0) (h1 : k0 ≤ 500000000) :
    Calls Try.prog 36 #[.slice (some ⟨g, 0, none⟩) n c, .int .i64 k0] w fun e w' => e = .returned (.int .i64 (k0 + (sumN L n * 3 : Nat))) ∧ Within lo hi w w' := by
  have HS := Lib.hid hs
  have HR := Lib.hid hr
  have HM := Lib.hid (fun k hk => sumN_mono L (k := k) (n := n) hk)
  have H := Lib.hid h
  clear h hs hr
  go_enter Try.func36, Try.ntmps36
  go_wp2
  go_loopw [1, 5] (fun m i wr => ∃ k : Nat, k ≤ n ∧ i = .int .i64 k ∧ m = .int .i64 (k0 + (sumN L k * 3 : Nat)) ∧ NestInts wr lo hi g 42 69 3 n L ∧ Within lo hi w wr) (fun _ i _ => n - (intOf i).toNat)
  case atStart => exact ⟨0, Nat.zero_le _, rfl, by simp [sumN], H.out, Within.refl _ _ _⟩
  case round =>
    obtain ⟨k, hk, rfl, rfl, hnest, hw⟩ := hrel
    have HN := Lib.hid hnest
    have HW := Lib.hid hw
    by_cases hlt : k < n
    · obtain ⟨gk, fk, hc, hg1, hg2, hrow, hir⟩ := hnest.get hlt
      have hsk := HM.out k hk
      have hss := HS.out
      have hrk := HR.out k hlt
      clear hnest hw
      go_wp2_with fail
      refine (markLoadS_any gk _ _ fk _ _ hrow hir hrk (by omega) (by omega)).mono ?_
      rintro e w1 ⟨rfl, hrow1, hon⟩
      have HN1 := Lib.hid (HN.out.only hg1 hon hrow (hrow1) (intRow_marks hir _ _))
      have HW1 := Lib.hid (HW.out.trans (Within.of_only hon (by have := HN.out.low; omega) hg2))
      clear hrow hrow1 hon
      go_wp2
      go_roundw
      case rel => exact ⟨k + 1, by omega, by go_num, by simp only [sumN]; congr 1; rw [Nat.add_mul]; omega, HN1.out, HW1.out⟩
      case measure => simp [intOf]; omega
    · obtain rfl : k = n := by omega
      clear hnest hw
      go_wp2
      go_ret
      exact ⟨rfl, HW.out⟩
end Go.Proofs.Ytdjhiegolojoaaa
