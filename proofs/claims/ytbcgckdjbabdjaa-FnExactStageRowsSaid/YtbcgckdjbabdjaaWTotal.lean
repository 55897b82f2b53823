/-
  Contracts: the weight left of a joint, and the weight of everything, in the reference and in the program.
-/
import Derived.Test.YtbcgckdjbabdjaaWLeft
import Derived.Test.YtbcgckdjbabdjaaWL07
namespace Go.Proofs.Ytbcgckdjbabdjaa
open Go.RowKit
set_option linter.unusedSimpArgs false

theorem run_field_wt (a b : Int) (w : World) : (Instr.field 103 (.agg #[.int .i64 a, .int .i64 b]) 0).run Try.prog w = .ok (.int .i64 a) w := by
  simp [Instr.field, go_sem, asAgg]
theorem lfW_bd (zs : List Int) (n : Nat) (ls : List Int) (q : Nat) (k : Int) : -1400000 ≤ lfW zs n ls q k ∧ lfW zs n ls q k ≤ 1400000 := by
  cases h : lfB zs n ls q k
  · rw [(lf_f h).1]; omega
  · obtain ⟨h1, h2, h3⟩ := lfB_out h
    obtain ⟨K, rfl⟩ : ∃ K : Nat, k = (K : Int) := ⟨k.toNat, by omega⟩
    obtain ⟨hA, hq, hl⟩ := loadsB_out h1
    have hn := (archB_out hA).1
    have := leftW_bd zs hl hq K
    rw [(lf_t h).1]
    omega
set_option maxRecDepth 100000 in
set_option maxHeartbeats 800000 in
theorem iWeightLeft_any (A : Option Addr) (n c : Nat) (zs : List Int) (B : Option Addr) (q d : Nat) (ls : List Int) (k : Int) (w : World) (h : RecsAt w w.heap.size 4 A n zs) (hn : n ≤ 1048576) (hl : RecsAt w w.heap.size 3 B q ls) (hq : q ≤ 1048576) :
    Calls Try.prog 118 #[.agg #[.slice A n c], .slice B q d, .int .i64 k] w fun e w' => e = .returned (.int .i64 (lfW zs n ls q k)) ∧ Below w.heap.size w w' := by
  have b0 : Below w.heap.size w (w.alloc (.cells #[.slice A n c] 31)) := (Below.refl _ _).alloc (Nat.le_refl _) _
  have h1 := h.after b0
  have l1 := hl.after b0
  go_enter Try.func118, Try.ntmps118
  go_wp2_with fail
  refine (leftOf_any _ _ _ zs _ _ _ ls _ _ h1 hn l1 hq).mono ?_
  rintro e w1 ⟨rfl, hb1⟩
  generalize hx : lfW zs n ls q k = x at *
  have HX := Lib.hid hx
  clear hx
  have hf := run_field_wt x (lfM zs n ls q k) w1
  go_wp2
  go_ret
  exact ⟨ret_int HX.out.symm, below_then b0 hb1⟩
set_option maxRecDepth 100000 in
set_option maxHeartbeats 800000 in
theorem iTotalOf_any (A : Option Addr) (n c : Nat) (zs : List Int) (B : Option Addr) (q d : Nat) (ls : List Int) (w : World) (h : RecsAt w w.heap.size 4 A n zs) (hn : n ≤ 1048576) (hl : RecsAt w w.heap.size 3 B q ls) (hq : q ≤ 1048576) :
    Calls Try.prog 72 #[.agg #[.slice A n c], .slice B q d] w fun e w' => e = .returned (.int .i64 (lfW zs n ls q ((n : Int) - 1))) ∧ Below w.heap.size w w' := by
  have b0 : Below w.heap.size w (w.alloc (.cells #[.slice A n c] 31)) := (Below.refl _ _).alloc (Nat.le_refl _) _
  have h1 := h.after b0
  have l1 := hl.after b0
  go_enter Try.func72, Try.ntmps72
  go_wp2_with fail
  refine (iWeightLeft_any _ _ _ zs _ _ _ ls _ _ h1 hn l1 hq).mono ?_
  rintro e w1 ⟨rfl, hb1⟩
  generalize hx : lfW zs n ls q ((n : Int) - 1) = x at *
  have HX := Lib.hid hx
  clear hx
  go_wp2
  go_ret
  exact ⟨ret_int HX.out.symm, below_then b0 hb1⟩

set_option maxRecDepth 100000 in
set_option maxHeartbeats 800000 in
theorem sWeightLeft_any (A : Option Addr) (n c : Nat) (zs : List Int) (B : Option Addr) (q d : Nat) (ls : List Int) (k : Int) (w : World) (h : RecsAt w w.heap.size 4 A n zs) (hn : n ≤ 1048576) (hl : RecsAt w w.heap.size 3 B q ls) (hq : q ≤ 1048576) :
    Calls Try.prog 116 #[.agg #[.slice A n c], .slice B q d, .int .i64 k] w fun e w' => e = .returned (.int .i64 (lfW zs n ls q k)) ∧ Below w.heap.size w w' := by
  have b0 : Below w.heap.size w (w.alloc (.cells #[.slice A n c] 31)) := (Below.refl _ _).alloc (Nat.le_refl _) _
  have bx0 : Box (w.alloc (.cells #[.slice A n c] 31)) w.heap.size (.slice A n c) := Box.new _ _ _
  have h1 := h.after b0
  have l1 := hl.after b0
  cases hL : loadsB zs n ls q
  · have HF := Lib.hid (lf_f (lfB_1 k hL)).1
    go_enter Try.func116, Try.ntmps116
    go_wp2_with fail
    refine (sLoadsOk_any _ _ _ zs _ _ _ ls _ h1 hn l1 hq).mono ?_
    rw [hL]
    rintro e w1 ⟨rfl, hb1⟩
    go_wp2
    go_ret
    exact ⟨ret_int HF.out.symm, below_then b0 hb1⟩
  · cases hK : inB k 0 ((n : Int) - 1)
    · have HF := Lib.hid (lf_f (lfB_2 zs ls q hK)).1
      go_enter Try.func116, Try.ntmps116
      go_wp2_with fail
      refine (sLoadsOk_any _ _ _ zs _ _ _ ls _ h1 hn l1 hq).mono ?_
      rw [hL]
      rintro e w1 ⟨rfl, hb1⟩
      have bx1 := (bx0.after hb1).1
      go_wp2_with (go_at_call 83; refine (l01In_any _ _ _ _).mono ?_; rw [hK]; rintro e w' ⟨rfl, rfl⟩)
      go_ret
      exact ⟨ret_int HF.out.symm, below_then b0 hb1⟩
    · have hk := inB_iff.1 hK
      obtain ⟨K, rfl⟩ : ∃ K : Nat, k = (K : Int) := ⟨k.toNat, by omega⟩
      have HT := Lib.hid (lf_t (lfB_t hL hK)).1
      go_enter Try.func116, Try.ntmps116
      go_wp2_with fail
      refine (sLoadsOk_any _ _ _ zs _ _ _ ls _ h1 hn l1 hq).mono ?_
      rw [hL]
      rintro e w1 ⟨rfl, hb1⟩
      have bx1 := (bx0.after hb1).1
      have h2 := h1.after hb1
      have l2 := l1.after hb1
      have B1 := below_then b0 hb1
      clear hb1
      go_wp2_with (go_at_call 83; refine (l01In_any _ _ _ _).mono ?_; rw [hK]; rintro e w' ⟨rfl, rfl⟩)
      refine (sLeft_any _ _ _ zs _ _ _ ls _ h2 l2 hL).mono ?_
      rintro e w2 ⟨A6, c6, A7, c7, rfl, hi6, hi7, hb2⟩
      obtain ⟨b6, o6, rfl, _, hc6⟩ := hi6.2 (by omega)
      have z6 := hc6 K (by omega)
      rw [lwL_nth (by omega)] at z6
      have k0 : (0 : Int) ≤ (K : Int) := by omega
      have k1 : (K : Int) < (n : Int) := by omega
      have B2 := below_then B1 hb2
      clear hc6 hi7 hb2
      go_wp2
      go_ret
      exact ⟨ret_int HT.out.symm, B2⟩
set_option maxRecDepth 100000 in
set_option maxHeartbeats 800000 in
theorem sTotalOf_any (A : Option Addr) (n c : Nat) (zs : List Int) (B : Option Addr) (q d : Nat) (ls : List Int) (w : World) (h : RecsAt w w.heap.size 4 A n zs) (hn : n ≤ 1048576) (hl : RecsAt w w.heap.size 3 B q ls) (hq : q ≤ 1048576) :
    Calls Try.prog 68 #[.agg #[.slice A n c], .slice B q d] w fun e w' => e = .returned (.int .i64 (lfW zs n ls q ((n : Int) - 1))) ∧ Below w.heap.size w w' := by
  have b0 : Below w.heap.size w (w.alloc (.cells #[.slice A n c] 31)) := (Below.refl _ _).alloc (Nat.le_refl _) _
  have h1 := h.after b0
  have l1 := hl.after b0
  go_enter Try.func68, Try.ntmps68
  go_wp2_with fail
  refine (sWeightLeft_any _ _ _ zs _ _ _ ls _ _ h1 hn l1 hq).mono ?_
  rintro e w1 ⟨rfl, hb1⟩
  generalize hx : lfW zs n ls q ((n : Int) - 1) = x at *
  have HX := Lib.hid hx
  clear hx
  go_wp2
  go_ret
  exact ⟨ret_int HX.out.symm, below_then b0 hb1⟩
end Go.Proofs.Ytbcgckdjbabdjaa
