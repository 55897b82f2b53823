/-
  Contracts: CracksOk, in the reference and in the program.
-/
import Derived.Test.YtdkdjjdedogcbaaWArch
import Derived.Test.YtdkdjjdedogcbaaWInts
namespace Go.Proofs.Ytdkdjjdedogcbaa
open Go.RowKit
set_option linter.unusedSimpArgs false

def crTo (cs : List Int) (k : Nat) : Prop := ∀ i, i < k → inB (nth cs i) 0 2 = true
theorem crTo_0 (cs : List Int) : crTo cs 0 := fun i hi => absurd hi (by omega)
theorem crTo_step {cs : List Int} {k : Nat} (h : crTo cs k) (e : inB (nth cs k) 0 2 = true) : crTo cs (k + 1) := by
  intro i hi
  by_cases hik : i = k
  · subst hik; exact e
  · exact h i (by omega)
def cracksB (zs : List Int) (n : Nat) (cs : List Int) (q : Nat) : Bool := archB zs n && (decide (q = n) && (List.range q).all (fun i => inB (nth cs i) 0 2))
theorem cracksB_1 {zs : List Int} {n : Nat} (cs : List Int) (q : Nat) (h : archB zs n = false) : cracksB zs n cs q = false := by simp [cracksB, h]
theorem cracksB_2 {zs : List Int} {n : Nat} (cs : List Int) {q : Nat} (h : ¬ q = n) : cracksB zs n cs q = false := by simp [cracksB, h]
theorem cracksB_3 {zs : List Int} {n : Nat} {cs : List Int} {q k : Nat} (hk : k < q) (h : inB (nth cs k) 0 2 = false) : cracksB zs n cs q = false := by
  have : (List.range q).all (fun i => inB (nth cs i) 0 2) = false := by
    rw [List.all_eq_false]
    exact ⟨k, by simpa using hk, by simp [h]⟩
  simp only [cracksB, this, Bool.and_false]
theorem cracksB_t {zs : List Int} {n : Nat} {cs : List Int} {q : Nat} (h : archB zs n = true) (h2 : q = n) (h3 : crTo cs q) : cracksB zs n cs q = true := by
  have : (List.range q).all (fun i => inB (nth cs i) 0 2) = true := by
    rw [List.all_eq_true]
    exact fun i hi => h3 i (by simpa using hi)
  subst h2
  simp only [cracksB, this, h, decide_true, Bool.and_self]

set_option maxHeartbeats 800000 in
theorem sCracksOk_any (A : Option Addr) (n c : Nat) (zs : List Int) (B : Option Addr) (q d : Nat) (cs : List Int) (w : World) (h : RecsAt w w.heap.size 4 A n zs) (hn : n ≤ 1048576) (hi : IntsAt w w.heap.size B q cs) (hq : q ≤ 1048576) :
    Calls Try.prog 21 #[.agg #[.slice A n c], .slice B q d] w fun e w' => e = .returned (.bool (cracksB zs n cs q)) ∧ Below w.heap.size w w' := by
  have HA := Lib.hid ((Below.refl w.heap.size w).alloc (Nat.le_refl _) (.cells #[.slice A n c] 39))
  have H := Lib.hid h
  have HI := Lib.hid hi
  clear h hi
  go_enter Try.func21, Try.ntmps21
  go_wp2
  go_loopw [5] (fun i wr => ∃ k : Nat, k ≤ q ∧ i = .int .i64 k ∧ crTo cs k ∧ wr.cell? ⟨w.heap.size, 0, none⟩ = some (.slice A n c) ∧ Below w.heap.size w wr) (fun i _ => q - (intOf i).toNat)
  case atStart => exact ⟨0, Nat.zero_le _, rfl, crTo_0 _, cell_new0 _ _ _, HA.out⟩
  case round =>
    clear HA
    obtain ⟨k, hk, rfl, hag, hbox, hb⟩ := hrel
    have HB := Lib.hid hb
    have hgl := World.block_lt_of_cell? wr _ hbox
    simp only at hgl
    by_cases hlt : k < q
    · obtain ⟨b, off, rfl, hbB, hc⟩ := HI.out.2 (by omega)
      have x0 : wr.cell? ⟨b, off + k, none⟩ = some (.int .i64 (nth cs k)) := (hb.cell (by exact hbB)).trans (hc k hlt)
      have HBX := Lib.hid hbox
      clear hb hc hbox
      cases hp : inB (nth cs k) 0 2
      · have HF := Lib.hid (cracksB_3 (zs := zs) (n := n) hlt hp)
        go_wp2_with (go_at_call 57; refine (l01In_any _ _ _ _).mono ?_; rw [hp]; rintro e w' ⟨rfl, rfl⟩)
        go_ret
        exact ⟨ret_bool HF.out.symm, HB.out⟩
      · have HS := Lib.hid (crTo_step hag hp)
        go_wp2_with (go_at_call 57; refine (l01In_any _ _ _ _).mono ?_; rw [hp]; rintro e w' ⟨rfl, rfl⟩)
        go_roundw
        case rel => exact ⟨k + 1, by omega, by go_num, HS.out, HBX.out, HB.out⟩
        case measure => first | (simp [intOf]; done) | (simp [intOf]; omega)
    · obtain rfl : k = q := by omega
      have HAG := Lib.hid hag
      have h1 := (H.out.below hb).mono hb.size
      clear hb hag
      cases hA : archB zs n
      · have HF := Lib.hid (cracksB_1 cs k hA)
        go_wp2_with fail
        refine (sArchOk_any _ _ _ zs _ h1 hn).mono ?_
        rw [hA]
        rintro e w1 ⟨rfl, hb1⟩
        have HB1 := Lib.hid (HB.out.trans (hb1.mono HB.out.size))
        go_wp2
        go_ret
        exact ⟨ret_bool HF.out.symm, HB1.out⟩
      · by_cases hqn : k = n
        · have HF := Lib.hid (cracksB_t hA hqn HAG.out)
          have ht : ((k : Int) == (n : Int)) = true := by simp; omega
          clear hqn
          go_wp2_with fail
          refine (sArchOk_any _ _ _ zs _ h1 hn).mono ?_
          rw [hA]
          rintro e w1 ⟨rfl, hb1⟩
          have HB1 := Lib.hid (HB.out.trans (hb1.mono HB.out.size))
          have hbox1 := (hb1.cell (p := ⟨w.heap.size, 0, none⟩) hgl).trans hbox
          clear hbox hb1
          go_wp2
          go_ret
          exact ⟨ret_bool HF.out.symm, HB1.out⟩
        · have HF := Lib.hid (cracksB_2 (zs := zs) cs hqn)
          have ht : ((k : Int) == (n : Int)) = false := by simp; omega
          clear hqn
          go_wp2_with fail
          refine (sArchOk_any _ _ _ zs _ h1 hn).mono ?_
          rw [hA]
          rintro e w1 ⟨rfl, hb1⟩
          have HB1 := Lib.hid (HB.out.trans (hb1.mono HB.out.size))
          have hbox1 := (hb1.cell (p := ⟨w.heap.size, 0, none⟩) hgl).trans hbox
          clear hbox hb1
          go_wp2
          go_ret
          exact ⟨ret_bool HF.out.symm, HB1.out⟩
set_option maxHeartbeats 800000 in
theorem iCracksOk_any (A : Option Addr) (n c : Nat) (zs : List Int) (B : Option Addr) (q d : Nat) (cs : List Int) (w : World) (h : RecsAt w w.heap.size 4 A n zs) (hn : n ≤ 1048576) (hi : IntsAt w w.heap.size B q cs) (hq : q ≤ 1048576) :
    Calls Try.prog 23 #[.agg #[.slice A n c], .slice B q d] w fun e w' => e = .returned (.bool (cracksB zs n cs q)) ∧ Below w.heap.size w w' := by
  have HA := Lib.hid ((Below.refl w.heap.size w).alloc (Nat.le_refl _) (.cells #[.slice A n c] 39))
  have h1 : RecsAt (w.alloc (.cells #[.slice A n c] 39)) (w.alloc (.cells #[.slice A n c] 39)).heap.size 4 A n zs := (h.alloc (Nat.le_refl _) _).mono (by simp)
  have HI := Lib.hid hi
  clear h hi
  cases hA : archB zs n
  · have HF := Lib.hid (cracksB_1 cs q hA)
    go_enter Try.func23, Try.ntmps23
    go_wp2_with fail
    refine (iArchOk_any _ _ _ zs _ h1 hn).mono ?_
    rw [hA]
    rintro e w1 ⟨rfl, hb1⟩
    have HB1 := Lib.hid (HA.out.trans (hb1.mono (by simp)))
    go_wp2
    go_ret
    exact ⟨ret_bool HF.out.symm, HB1.out⟩
  by_cases hqn : q = n
  · have ht : ((q : Int) == (n : Int)) = true := by simp; omega
    have HT := Lib.hid (fun h3 => cracksB_t (cs := cs) hA hqn h3)
    clear hqn
    go_enter Try.func23, Try.ntmps23
    go_wp2_with fail
    refine (iArchOk_any _ _ _ zs _ h1 hn).mono ?_
    rw [hA]
    rintro e w1 ⟨rfl, hb1⟩
    have HB1 := Lib.hid (HA.out.trans (hb1.mono (by simp)))
    have hbox1 := (hb1.cell (p := ⟨w.heap.size, 0, none⟩) (by simp)).trans (cell_new0 _ _ _)
    clear hb1
    go_wp2
    have hne : ((q : Int) != (n : Int)) = false := by simp only [bne, ht]; rfl
    try simp only [hne, ht, Bool.not_true, Bool.not_false]
    go_loopw [20] (fun i wr => ∃ k : Nat, k ≤ q ∧ i = .int .i64 k ∧ crTo cs k ∧ Below w.heap.size w wr) (fun i _ => q - (intOf i).toNat)
    case atStart => exact ⟨0, Nat.zero_le _, rfl, crTo_0 _, HB1.out⟩
    case round =>
      clear HA HB1 hbox1
      obtain ⟨k, hk, rfl, hag, hb⟩ := hrel
      have HB := Lib.hid hb
      by_cases hlt : k < q
      · obtain ⟨b, off, rfl, hbB, hc⟩ := HI.out.2 (by omega)
        have x0 : wr.cell? ⟨b, off + k, none⟩ = some (.int .i64 (nth cs k)) := (hb.cell (by exact hbB)).trans (hc k hlt)
        clear hb hc
        cases hp : inB (nth cs k) 0 2
        · have HF := Lib.hid (cracksB_3 (zs := zs) (n := n) hlt hp)
          go_wp2_with (go_at_call 60; refine (within_any _ _ _ _).mono ?_; rw [hp]; rintro e w' ⟨rfl, rfl⟩)
          go_ret
          exact ⟨ret_bool HF.out.symm, HB.out⟩
        · have HS := Lib.hid (crTo_step hag hp)
          go_wp2_with (go_at_call 60; refine (within_any _ _ _ _).mono ?_; rw [hp]; rintro e w' ⟨rfl, rfl⟩)
          go_roundw
          case rel => exact ⟨k + 1, by omega, by go_num, HS.out, HB.out⟩
          case measure => first | (simp [intOf]; done) | (simp [intOf]; omega)
      · obtain rfl : k = q := by omega
        have HF := Lib.hid (HT.out hag)
        clear hb hag
        go_wp2
        go_ret
        exact ⟨ret_bool HF.out.symm, HB.out⟩
  · have HF := Lib.hid (cracksB_2 (zs := zs) cs hqn)
    have ht : ((q : Int) == (n : Int)) = false := by simp; omega
    clear hqn
    go_enter Try.func23, Try.ntmps23
    go_wp2_with fail
    refine (iArchOk_any _ _ _ zs _ h1 hn).mono ?_
    rw [hA]
    rintro e w1 ⟨rfl, hb1⟩
    have HB1 := Lib.hid (HA.out.trans (hb1.mono (by simp)))
    have hbox1 := (hb1.cell (p := ⟨w.heap.size, 0, none⟩) (by simp)).trans (cell_new0 _ _ _)
    clear hb1
    go_wp2
    go_ret
    exact ⟨ret_bool HF.out.symm, HB1.out⟩
end Go.Proofs.Ytdkdjjdedogcbaa
