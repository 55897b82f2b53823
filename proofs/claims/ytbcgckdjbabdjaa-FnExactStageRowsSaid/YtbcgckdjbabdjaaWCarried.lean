/-
  Contracts: CarriedOk, in the reference and in the program.
-/
import Derived.Test.YtbcgckdjbabdjaaWArch
import Derived.Test.YtbcgckdjbabdjaaWInts
import Derived.IntWalk
namespace Go.Proofs.Ytbcgckdjbabdjaa
open Go.RowKit
set_option linter.unusedSimpArgs false

theorem quiet_same' {P : Program} {f : FuncId} {args : Array Value} {w : World} {n : Nat} {v : Value}
    (h : Calls P f args (w.drewN n) fun e w' => e = .returned v ∧ w.drewN n = w') : Calls P f args (w.drewN n) fun e w'' => e = .returned v ∧ ∃ m, w'' = w.drewN m :=
  h.mono fun _ _ ⟨he, hm⟩ => ⟨he, n, hm.symm⟩
theorem quiet_bool {P : Program} {f : FuncId} {args : Array Value} {w : World} {n : Nat} {b b' : Bool}
    (h : Calls P f args (w.drewN n) fun e w' => e = .returned (.bool b) ∧ w.drewN n = w') (e : b = b') : Calls P f args (w.drewN n) fun e w'' => e = .returned (.bool b') ∧ ∃ m, w'' = w.drewN m := by
  subst e; exact quiet_same' h

/-- The i-th number is within its bounds and behind the one before it. -/
def ascAt (cs : List Int) (lo hi : Int) (i : Nat) : Bool := inB (nth cs i) lo hi && (decide (i = 0) || decide (nth cs (i - 1) < nth cs i))
def ascTo (cs : List Int) (lo hi : Int) (k : Nat) : Prop := ∀ i, i < k → ascAt cs lo hi i = true
def ascB (cs : List Int) (q : Nat) (lo hi : Int) : Bool := (List.range q).all (ascAt cs lo hi)
theorem ascTo_0 (cs : List Int) (lo hi : Int) : ascTo cs lo hi 0 := fun i hi => absurd hi (by omega)
theorem ascTo_step {cs : List Int} {lo hi : Int} {k : Nat} (h : ascTo cs lo hi k) (e : ascAt cs lo hi k = true) : ascTo cs lo hi (k + 1) := by
  intro i hi
  by_cases hik : i = k
  · subst hik; exact e
  · exact h i (by omega)
theorem ascAt_1 {cs : List Int} {lo hi : Int} {k : Nat} (h : inB (nth cs k) lo hi = false) : ascAt cs lo hi k = false := by simp [ascAt, h]
theorem ascAt_2 {cs : List Int} {lo hi : Int} {k : Nat} (hk : 0 < k) (h : ¬ nth cs (k - 1) < nth cs k) : ascAt cs lo hi k = false := by
  simp [ascAt, h]; intro _; omega
theorem ascAt_3 {cs : List Int} {lo hi : Int} (h : inB (nth cs 0) lo hi = true) : ascAt cs lo hi 0 = true := by simp [ascAt, h]
theorem ascAt_4 {cs : List Int} {lo hi : Int} {k : Nat} (h : inB (nth cs k) lo hi = true) (h' : nth cs (k - 1) < nth cs k) : ascAt cs lo hi k = true := by simp [ascAt, h, h']
theorem ascB_f {cs : List Int} {q : Nat} {lo hi : Int} {k : Nat} (hk : k < q) (h : ascAt cs lo hi k = false) : ascB cs q lo hi = false := by
  rw [ascB, List.all_eq_false]
  exact ⟨k, by simpa using hk, by simp [h]⟩
theorem ascB_t {cs : List Int} {q : Nat} {lo hi : Int} (h : ascTo cs lo hi q) : ascB cs q lo hi = true := by
  rw [ascB, List.all_eq_true]
  exact fun i hi => h i (by simpa using hi)

def carriedB (zs : List Int) (n : Nat) (cs : List Int) (q : Nat) : Bool := archB zs n && ascB cs q 0 ((n : Int) - 2)
theorem carriedB_1 {zs : List Int} {n : Nat} (cs : List Int) (q : Nat) (h : archB zs n = false) : carriedB zs n cs q = false := by simp [carriedB, h]
theorem carriedB_2 (zs : List Int) {n : Nat} {cs : List Int} {q : Nat} (h : ascB cs q 0 ((n : Int) - 2) = false) : carriedB zs n cs q = false := by simp [carriedB, h]
theorem carriedB_3 {zs : List Int} {n : Nat} {cs : List Int} {q : Nat} (h : ascB cs q 0 ((n : Int) - 2) = true) : carriedB zs n cs q = archB zs n := by simp [carriedB, h]

set_option maxHeartbeats 800000 in
theorem ascending_any (lo hi : Int) (B : Option Addr) (q d : Nat) (cs : List Int) (w : World) (hI : IntsAt w w.heap.size B q cs) (hq : q ≤ 1048576) :
    Calls Try.prog 109 #[.slice B q d, .int .i64 lo, .int .i64 hi] w fun e w' => e = .returned (.bool (ascB cs q lo hi)) ∧ w = w' := by
  have HI := Lib.hid hI
  clear hI
  go_enter Try.func109, Try.ntmps109
  go_wp2
  go_loop [11] (fun i => ∃ k : Nat, k ≤ q ∧ i = .int .i64 k ∧ ascTo cs lo hi k) (fun i => q - (intOf i).toNat)
  case atStart => exact ⟨0, Nat.zero_le _, rfl, ascTo_0 _ _ _⟩
  case round =>
    obtain ⟨k, hk, rfl, hag⟩ := hrel
    by_cases hlt : k < q
    · obtain ⟨b, off, rfl, hbB, hc⟩ := HI.out.2 (by omega)
      have x0 := hc k hlt
      cases hp : inB (nth cs k) lo hi
      · have HF := Lib.hid (ascB_f hlt (ascAt_1 hp))
        clear hc
        go_wp2_with (go_at_call 84; refine (within_any _ _ _ _).mono ?_; rw [hp]; rintro e w' ⟨rfl, rfl⟩)
        go_ret
        exact ⟨ret_bool HF.out.symm, rfl⟩
      · by_cases hk0 : k = 0
        · subst hk0
          have x00 : w.cell? ⟨b, off, none⟩ = some (.int .i64 (nth cs 0)) := x0
          have HS := Lib.hid (ascTo_step hag (ascAt_3 hp))
          clear hc
          go_wp2_with (go_at_call 84; refine (within_any _ _ _ _).mono ?_; rw [hp]; rintro e w' ⟨rfl, rfl⟩)
          go_round
          case rel => exact ⟨1, by omega, by go_num, HS.out⟩
          case measure => first | (simp [intOf]; done) | (simp [intOf]; omega)
        · obtain ⟨m, rfl⟩ : ∃ m, k = m + 1 := ⟨k - 1, by omega⟩
          have x1 := hc m (by omega)
          have i1 : (0 : Int) < ((m + 1 : Nat) : Int) := by omega
          have e1 : ((m + 1 : Nat) : Int) - 1 = (m : Int) := by omega
          by_cases hlt2 : nth cs m < nth cs (m + 1)
          · have HS := Lib.hid (ascTo_step hag (ascAt_4 hp hlt2))
            have hge : ¬ nth cs (m + 1) ≤ nth cs m := by omega
            clear hc hag hk0
            go_wp2_with (go_at_call 84; refine (within_any _ _ _ _).mono ?_; rw [hp]; rintro e w' ⟨rfl, rfl⟩)
            go_round
            case rel => exact ⟨m + 1 + 1, by omega, by go_num, HS.out⟩
            case measure => first | (simp [intOf]; done) | (simp [intOf]; omega)
          · have HF := Lib.hid (ascB_f hlt (ascAt_2 (lo := lo) (hi := hi) (by omega) hlt2))
            have hge : nth cs (m + 1) ≤ nth cs m := by omega
            clear hc hag hk0
            go_wp2_with (go_at_call 84; refine (within_any _ _ _ _).mono ?_; rw [hp]; rintro e w' ⟨rfl, rfl⟩)
            go_ret
            exact ⟨ret_bool HF.out.symm, rfl⟩
    · obtain rfl : k = q := by omega
      have HF := Lib.hid (ascB_t hag)
      clear hag
      go_wp2
      go_ret
      exact ⟨ret_bool HF.out.symm, rfl⟩

set_option maxHeartbeats 800000 in
theorem iCarriedOk_any (A : Option Addr) (n c : Nat) (zs : List Int) (B : Option Addr) (q d : Nat) (cs : List Int) (w : World) (h : RecsAt w w.heap.size 4 A n zs) (hn : n ≤ 1048576) (hi : IntsAt w w.heap.size B q cs) (hq : q ≤ 1048576) :
    Calls Try.prog 59 #[.agg #[.slice A n c], .slice B q d] w fun e w' => e = .returned (.bool (carriedB zs n cs q)) ∧ Below w.heap.size w w' := by
  have HA := Lib.hid ((Below.refl w.heap.size w).alloc (Nat.le_refl _) (.cells #[.slice A n c] 31))
  have h1 : RecsAt (w.alloc (.cells #[.slice A n c] 31)) (w.alloc (.cells #[.slice A n c] 31)).heap.size 4 A n zs := (h.alloc (Nat.le_refl _) _).mono (by simp)
  have i1 : IntsAt (w.alloc (.cells #[.slice A n c] 31)) (w.alloc (.cells #[.slice A n c] 31)).heap.size B q cs := (hi.alloc (Nat.le_refl _) _).mono (by simp)
  clear h hi
  cases hA : archB zs n
  · have HF := Lib.hid (carriedB_1 cs q hA)
    go_enter Try.func59, Try.ntmps59
    go_wp2_with fail
    refine (iArchOk_any _ _ _ zs _ h1 hn).mono ?_
    rw [hA]
    rintro e w1 ⟨rfl, hb1⟩
    have HB1 := Lib.hid (HA.out.trans (hb1.mono (by simp)))
    go_wp2
    go_ret
    exact ⟨ret_bool HF.out.symm, HB1.out⟩
  · have HF := Lib.hid (show carriedB zs n cs q = ascB cs q 0 ((n : Int) - 2) by simp [carriedB, hA])
    go_enter Try.func59, Try.ntmps59
    go_wp2_with fail
    refine (iArchOk_any _ _ _ zs _ h1 hn).mono ?_
    rw [hA]
    rintro e w1 ⟨rfl, hb1⟩
    have HB1 := Lib.hid (HA.out.trans (hb1.mono (by simp)))
    have hbox1 := (hb1.cell (p := ⟨w.heap.size, 0, none⟩) (by simp)).trans (cell_new0 _ _ _)
    have i2 := (i1.below hb1).mono hb1.size
    clear hb1
    go_wp2_with fail
    refine (ascending_any _ _ _ _ _ cs _ i2 hq).mono ?_
    rintro e w2 ⟨rfl, rfl⟩
    go_wp2
    go_ret
    exact ⟨ret_bool HF.out.symm, HB1.out⟩

set_option maxHeartbeats 1600000 in
theorem sCarriedOk_any (A : Option Addr) (n c : Nat) (zs : List Int) (B : Option Addr) (q d : Nat) (cs : List Int) (w : World) (h : RecsAt w w.heap.size 4 A n zs) (hn : n ≤ 1048576) (hi : IntsAt w w.heap.size B q cs) (hq : q ≤ 1048576) :
    Calls Try.prog 54 #[.agg #[.slice A n c], .slice B q d] w fun e w' => e = .returned (.bool (carriedB zs n cs q)) ∧ Below w.heap.size w w' := by
  have HA := Lib.hid ((Below.refl w.heap.size w).alloc (Nat.le_refl _) (.cells #[.slice A n c] 31))
  have H := Lib.hid h
  have HI := Lib.hid hi
  clear h hi
  go_enter Try.func54, Try.ntmps54
  go_wp2
  go_loopw [5] (fun i wr => ∃ k : Nat, k ≤ q ∧ i = .int .i64 k ∧ ascTo cs 0 ((n : Int) - 2) k ∧ wr.cell? ⟨w.heap.size, 0, none⟩ = some (.slice A n c) ∧ Below w.heap.size w wr) (fun i _ => q - (intOf i).toNat)
  case atStart => exact ⟨0, Nat.zero_le _, rfl, ascTo_0 _ _ _, cell_new0 _ _ _, HA.out⟩
  case round =>
    clear HA
    obtain ⟨k, hk, rfl, hag, hbox, hb⟩ := hrel
    have HB := Lib.hid hb
    by_cases hlt : k < q
    · obtain ⟨b, off, rfl, hbB, hc⟩ := HI.out.2 (by omega)
      have x0 : wr.cell? ⟨b, off + k, none⟩ = some (.int .i64 (nth cs k)) := (hb.cell (by exact hbB)).trans (hc k hlt)
      have HBX := Lib.hid hbox
      have ik0 : (0 : Int) ≤ (k : Int) := by omega
      have ik1 : (k : Int) < (q : Int) := by omega
      have hw2 : IntKind.i64.wrap ((n : Int) - 2) = (n : Int) - 2 := IntWalk.i64_in _ (by omega)
      cases hp : inB (nth cs k) 0 ((n : Int) - 2)
      · have HF := Lib.hid (carriedB_2 zs (ascB_f hlt (ascAt_1 hp)))
        clear hc hb hag
        go_wp2
        go_quiet ((go_at_call 83; exact quiet_bool (l01In_any _ _ _ _) hp))
        go_wp2
        go_ret
        exact ⟨ret_bool HF.out.symm, below_drewN HB.out _⟩
      · by_cases hk0 : k = 0
        · subst hk0
          have x00 : wr.cell? ⟨b, off, none⟩ = some (.int .i64 (nth cs 0)) := x0
          have HS := Lib.hid (ascTo_step hag (ascAt_3 hp))
          have hd : decide ((0 : Int) < ((0 : Nat) : Int)) = false := by simp
          clear hc hb hag
          go_wp2
          go_quiet ((go_at_call 83; exact quiet_bool (l01In_any _ _ _ _) hp))
          go_wp2
          go_roundw
          case rel => exact ⟨1, by omega, by go_num, HS.out, HBX.out, below_drewN HB.out _⟩
          case measure => first | (simp [intOf]; done) | (simp [intOf]; omega)
        · obtain ⟨m, rfl⟩ : ∃ m, k = m + 1 := ⟨k - 1, by omega⟩
          have x1 : wr.cell? ⟨b, off + m, none⟩ = some (.int .i64 (nth cs m)) := (hb.cell (by exact hbB)).trans (hc m (by omega))
          have i1 : (0 : Int) < ((m + 1 : Nat) : Int) := by omega
          have e0 : (((m + 1 : Nat) : Int)).toNat = m + 1 := by omega
          by_cases hlt2 : nth cs m < nth cs (m + 1)
          · have HS := Lib.hid (ascTo_step hag (ascAt_4 hp hlt2))
            have hge : decide (nth cs (m + 1) ≤ nth cs m) = false := by simp; omega
            clear hc hb hag hk0
            have e2 : IntKind.i64.wrap (((m + 1 : Nat) : Int) - 1) = (m : Int) := by rw [IntWalk.i64_in _ (by omega)]; omega
            go_wp2
            go_quiet ((go_at_call 83; exact quiet_bool (l01In_any _ _ _ _) hp))
            go_wp2
            go_roundw
            case rel => exact ⟨m + 1 + 1, by omega, by go_num, HS.out, HBX.out, below_drewN HB.out _⟩
            case measure => first | (simp [intOf]; done) | (simp [intOf]; omega)
          · have HF := Lib.hid (carriedB_2 zs (ascB_f hlt (ascAt_2 (lo := 0) (hi := (n : Int) - 2) (by omega) hlt2)))
            have hge : decide (nth cs (m + 1) ≤ nth cs m) = true := by simp; omega
            clear hc hb hag hk0
            have e2 : IntKind.i64.wrap (((m + 1 : Nat) : Int) - 1) = (m : Int) := by rw [IntWalk.i64_in _ (by omega)]; omega
            go_wp2
            go_quiet ((go_at_call 83; exact quiet_bool (l01In_any _ _ _ _) hp))
            go_wp2
            go_ret
            exact ⟨ret_bool HF.out.symm, below_drewN HB.out _⟩
    · obtain rfl : k = q := by omega
      have HF := Lib.hid (carriedB_3 (zs := zs) (ascB_t hag))
      have h1 := (H.out.below hb).mono hb.size
      clear hb hag
      go_wp2_with fail
      refine (sArchOk_any _ _ _ zs _ h1 hn).mono ?_
      rintro e w1 ⟨rfl, hb1⟩
      have HB1 := Lib.hid (HB.out.trans (hb1.mono HB.out.size))
      go_wp2
      go_ret
      exact ⟨ret_bool HF.out.symm, HB1.out⟩
end Go.Proofs.Ytbcgckdjbabdjaa
