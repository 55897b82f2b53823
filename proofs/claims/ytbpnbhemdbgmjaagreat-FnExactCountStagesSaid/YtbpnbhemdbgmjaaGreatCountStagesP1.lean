/-
  Texts that the law stands on, part 1.
-/
import Derived.Test.YtbpnbhemdbgmjaaGreatM1
import Derived.Test.YtbpnbhemdbgmjaaGreatM11
import Derived.Test.YtbpnbhemdbgmjaaGreatM18
import Derived.Test.YtbpnbhemdbgmjaaGreatM21
import Derived.Test.YtbpnbhemdbgmjaaGreatM25
import Derived.Test.YtbpnbhemdbgmjaaGreatM27
import Derived.Test.YtbpnbhemdbgmjaaGreatM28
import Derived.Deep.Draws
import Derived.OwnWalk
import Derived.ArgAppend
import Derived.Test.YtbpnbhemdbgmjaaGreatProg
import Derived.KernelRfl
import Derived.WalkKit
import Derived.Outline
import Derived.Deep.QuietTactic
import Derived.BigQuiet
import Derived.Laws.BitsAllLaws
import Derived.Laws.BitsLemmas
section
namespace Go.Proofs.YtbpnbhemdbgmjaaGreat
open Go.RowKit
section
variable {w w' : World} {base : Nat} {E : TypeId} {g cap : Nat} {v : Value} {xs : List Int}
theorem OwnI.toV (h : OwnI w base E g cap xs) : OwnV w base E (.slice (some ⟨g, 0, none⟩) xs.length cap) xs := h
theorem OwnI.intsAt (h : OwnI w base E g cap xs) : IntsAt w w.heap.size (some ⟨g, 0, none⟩) xs.length xs :=
  ⟨rfl, fun _ => ⟨g, 0, rfl, h.blk.2, fun k hk => by rw [Nat.zero_add]; exact h.cell hk⟩⟩
theorem OwnV.intsAt {A : Option Addr} {n c : Nat} (h : OwnV w base E (.slice A n c) xs) : IntsAt w w.heap.size A n xs := by
  rcases h.2 with ⟨h1, h2⟩ | ⟨g, cap, cur, h1, hr⟩
  · simp at h1
    obtain ⟨rfl, rfl, rfl⟩ := h1
    have : xs = [] := List.eq_nil_of_length_eq_zero h2
    subst this
    exact IntsAt.nil
  · simp at h1
    obtain ⟨rfl, rfl, rfl⟩ := h1
    exact OwnI.intsAt h
end
theorem wpList_append_int {P : Program} (w : World) {ops : Array Oper} {rest : List Oper} {o : Oper} {a : Act} {Q : Exit → Act → World → Prop} (hgd : o.guard = none) (s x : Operand) (t : TypeId)
    (ho : o.op = .call { callee := .builtin .append, args := #[s, x], argTypes := #[t, t] })
    (base : Nat) (E : TypeId) (ht : P.underlying t = some (.slice E)) (hinfo : (P.info? E).map (fun i => (i.zero, i.size, i.bytes)) = some (some (.int .i64 0), 1, 8))
    (v : Value) (xs : List Int) (hs : a.eval s = v) (hown : OwnV w base E v xs) (g c : Nat) (z : Int) (hx : a.eval x = .slice (some ⟨g, 0, none⟩) 1 c)
    (hg : w.cell? ⟨g, 0, none⟩ = some (.int .i64 z)) (hlen : xs.length ≤ 1099511627776) (hbase : base ≤ w.heap.size)
    (h : ∀ g' cap' w', OwnI w' base E g' cap' (xs ++ [z]) → w.grownBy w' v.ownBlock → wpList P ops Q rest (a.put o.dst (.slice (some ⟨g', 0, none⟩) (xs.length + 1) cap')) w') : wpList P ops Q (o :: rest) a w := by
  obtain ⟨i0, hi0, hz0, hz1, hz2⟩ := info_parts hinfo
  refine wpList_append_own (P := P) w hgd s x t ho base E i0 (.int .i64 0) 1 8 ht hi0 hz0 hz1 hz2 rfl (by decide) v xs.length _ hs hown ⟨g, 0, none⟩ 1 c [.int .i64 z] hx rfl ?_ ?_ (by unfold maxLen; omega) (by omega) hbase ?_
  · intro j u hj
    match j, hj with
    | 0, hj => simp at hj; subst hj; simpa [Addr.add] using hg
  · intro u hu; simp at hu; subst hu; rfl
  · intro v' w' hown' hgr _
    have h' : OwnV w' base E v' (xs ++ [z]) := by
      unfold OwnV
      rw [List.length_append, List.map_append]
      exact hown'
    rcases h'.form with ⟨_, h2⟩ | ⟨g', cap', rfl, hi⟩
    · simp at h2
    · have e : (xs ++ [z]).length = xs.length + 1 := by simp
      rw [e] at *
      exact h g' cap' w' hi hgr
end Go.Proofs.YtbpnbhemdbgmjaaGreat
end
section
namespace Go.Proofs.Tryzx
set_option linter.unusedSimpArgs false
theorem func6 : prog.funcs[6]? = some Tryz.f6 := by kernel_rfl
theorem func35 : prog.funcs[35]? = some Tryz.f35 := by kernel_rfl
theorem func36 : prog.funcs[36]? = some Tryz.f36 := by kernel_rfl
theorem func40 : prog.funcs[40]? = some Tryz.f40 := by kernel_rfl
theorem func84 : prog.funcs[84]? = some Tryz.f84 := by kernel_rfl
theorem func85 : prog.funcs[85]? = some Tryz.f85 := by kernel_rfl
theorem func86 : prog.funcs[86]? = some Tryz.f86 := by kernel_rfl
@[simp] theorem call6 (args : Array Value) (w : World) : Sem.run prog (callFunc 6 args) w = .ok (.enter 6 args) w := call_x 6 args w func6 (by kernel_rfl) (by kernel_rfl)
@[simp] theorem call35 (args : Array Value) (w : World) : Sem.run prog (callFunc 35 args) w = .ok (.enter 35 args) w := call_x 35 args w func35 (by kernel_rfl) (by kernel_rfl)
@[simp] theorem call36 (args : Array Value) (w : World) : Sem.run prog (callFunc 36 args) w = .ok (.enter 36 args) w := call_x 36 args w func36 (by kernel_rfl) (by kernel_rfl)
@[simp] theorem call40 (args : Array Value) (w : World) : Sem.run prog (callFunc 40 args) w = .ok (.enter 40 args) w := call_x 40 args w func40 (by kernel_rfl) (by kernel_rfl)
@[simp] theorem call84 (args : Array Value) (w : World) : Sem.run prog (callFunc 84 args) w = .ok (.enter 84 args) w := call_x 84 args w func84 (by kernel_rfl) (by kernel_rfl)
@[simp] theorem call85 (args : Array Value) (w : World) : Sem.run prog (callFunc 85 args) w = .ok (.enter 85 args) w := call_x 85 args w func85 (by kernel_rfl) (by kernel_rfl)
@[simp] theorem call86 (args : Array Value) (w : World) : Sem.run prog (callFunc 86 args) w = .ok (.enter 86 args) w := call_x 86 args w func86 (by kernel_rfl) (by kernel_rfl)
end Go.Proofs.Tryzx
end
section
namespace Go.Proofs.YtbpnbhemdbgmjaaGreat.X
open Go.RowKit
theorem infoInt : (Tryzx.prog.info? 3).map (fun i => (i.zero, i.size, i.bytes)) = some (some (.int .i64 0), 1, 8) := by kernel_rfl
end Go.Proofs.YtbpnbhemdbgmjaaGreat.X
end
section
namespace Go.Proofs.Tryzx
theorem ntmps6 : Tryz.f6.ntmps = 27 := Tryz.ntmps6
end Go.Proofs.Tryzx
end
section
namespace Go.Proofs.YtbpnbhemdbgmjaaGreat
open Go.RowKit
def p2 (k : Nat) : Nat := 2 ^ k
theorem p2_pos (k : Nat) : 0 < p2 k := Nat.two_pow_pos k
theorem p2_le (n : Nat) (h : n ≤ 10) : p2 n ≤ 1024 := Nat.pow_le_pow_right (by omega) h
theorem wrap_p2 (n : Nat) (h : n ≤ 10) : wrap64 (2 ^ n) = ((p2 n : Nat) : Int) := by
  have h1 := p2_le n h
  have e : (2 : Int) ^ n = ((p2 n : Nat) : Int) := by simp [p2]
  rw [e]
  unfold wrap64
  omega
theorem ofInt_64 (a : Nat) (ha : a < 9223372036854775808) : (BitVec.ofInt 64 (a : Int)).toNat = a := by
  rw [BitVec.ofInt_natCast, BitVec.toNat_ofNat]; exact Nat.mod_eq_of_lt (by omega)
theorem bit_at (s k : Nat) (h : s < 9223372036854775808) : bits .and .i64 ((s : Int) / 2 ^ k) 1 = ((s / p2 k % 2 : Nat) : Int) := by
  have e : (s : Int) / 2 ^ k = ((s / p2 k : Nat) : Int) := by simp [p2]
  have hle : s / p2 k ≤ s := Nat.div_le_self _ _
  rw [e]
  show IntKind.i64.wrap ((BitVec.ofInt 64 ((s / p2 k : Nat) : Int) &&& BitVec.ofInt 64 ((1 : Nat) : Int)).toNat : Int) = _
  rw [BitVec.toNat_and, ofInt_64 _ (by omega), ofInt_64 1 (by omega), Nat.and_one_is_mod, IntKind.wrap_i64]
  omega
end Go.Proofs.YtbpnbhemdbgmjaaGreat
end
section
namespace Go.Proofs.YtbpnbhemdbgmjaaGreat
open Go.RowKit
def setL (s : Nat) : Nat → List Int
  | 0 => []
  | k + 1 => if s / p2 k % 2 = 1 then setL s k ++ [(k : Int)] else setL s k
theorem setL_yes {s k : Nat} (h : s / p2 k % 2 = 1) : setL s (k + 1) = setL s k ++ [(k : Int)] := by simp [setL, h]
theorem setL_no {s k : Nat} (h : ¬ s / p2 k % 2 = 1) : setL s (k + 1) = setL s k := by simp [setL, h]
theorem setL_len (s : Nat) : ∀ k, (setL s k).length ≤ k
  | 0 => Nat.le_refl _
  | k + 1 => by
    have ih := setL_len s k
    by_cases h : s / p2 k % 2 = 1
    · rw [setL_yes h, List.length_append]; simp; omega
    · rw [setL_no h]; omega
theorem p2_add (k j : Nat) : p2 k ≤ p2 (k + j) := Nat.pow_le_pow_right (by omega) (by omega)
theorem setL_far {s k : Nat} (h : s < p2 k) : ∀ j, setL s (k + j) = setL s k
  | 0 => rfl
  | j + 1 => by
    have h1 := p2_add k j
    have h2 : s / p2 (k + j) = 0 := Nat.div_eq_of_lt (by omega)
    rw [← Nat.add_assoc, setL_no (by rw [h2]; decide), setL_far h j]
theorem setL_top {s k m : Nat} (h : s < p2 m) (hk : s / p2 k = 0) : setL s k = setL s m := by
  have hk' : s < p2 k := by
    rcases Nat.lt_or_ge s (p2 k) with h' | h'
    · exact h'
    · have := Nat.div_pos h' (p2_pos k); omega
  rcases Nat.le_total k m with e | e
  · obtain ⟨j, rfl⟩ := Nat.exists_eq_add_of_le e
    exact (setL_far hk' j).symm
  · obtain ⟨j, rfl⟩ := Nat.exists_eq_add_of_le e
    exact setL_far h j
theorem p2_7 {n : Nat} (h : n ≤ 7) : p2 n ≤ 128 := Nat.pow_le_pow_right (by omega) h
theorem set_more {s k : Nat} (hs : s < 128) (h : s / p2 k ≠ 0) : k < 7 := by
  rcases Nat.lt_or_ge k 7 with e | e
  · exact e
  · obtain ⟨j, rfl⟩ := Nat.exists_eq_add_of_le e
    have h1 := p2_add 7 j
    have h2 : p2 7 = 128 := by decide
    exact absurd (Nat.div_eq_of_lt (by omega)) h
theorem ubit_fin : ∀ S : Fin 128, bits .and .u64 (S.val : Int) 1 = ((S.val % 2 : Nat) : Int) := by decide +kernel
theorem ubit_at {s k : Nat} (h : s < 128) : bits .and .u64 ((s / p2 k : Nat) : Int) 1 = ((s / p2 k % 2 : Nat) : Int) :=
  ubit_fin ⟨s / p2 k, Nat.lt_of_le_of_lt (Nat.div_le_self _ _) h⟩
theorem div_p2 (s k : Nat) : (s : Int) / 2 ^ k = ((s / p2 k : Nat) : Int) := by simp [p2]
theorem u64_in (x : Int) (h : 0 ≤ x ∧ x ≤ 18446744073709551615) : IntKind.u64.wrap x = x := by
  rw [IntKind.wrap_u64]; omega
theorem uwrap_p2 (n : Nat) (h : n ≤ 7) : IntKind.u64.wrap (2 ^ n) = ((p2 n : Nat) : Int) := by
  have h1 := p2_7 h
  have e : (2 : Int) ^ n = ((p2 n : Nat) : Int) := by simp [p2]
  rw [e]
  exact u64_in _ (by omega)
def cntS (f : Nat → Bool) : Nat → Nat
  | 0 => 0
  | s + 1 => if f s = true then cntS f s + 1 else cntS f s
theorem cntS_le (f : Nat → Bool) : ∀ s, cntS f s ≤ s
  | 0 => Nat.le_refl _
  | s + 1 => by have := cntS_le f s; unfold cntS; split <;> omega
theorem cntS_yes {f : Nat → Bool} {s : Nat} (h : f s = true) : cntS f (s + 1) = cntS f s + 1 := by simp [cntS, h]
theorem cntS_no {f : Nat → Bool} {s : Nat} (h : f s = false) : cntS f (s + 1) = cntS f s := by simp [cntS, h]
end Go.Proofs.YtbpnbhemdbgmjaaGreat
end
section
namespace Go.Proofs.YtbpnbhemdbgmjaaGreat
open Go.RowKit
theorem ownB_below {B base : Nat} {E : TypeId} {a w w' : World} {v : Value} {xs : List Int} {o : Obj} (hb : Below B a w) (hB : B ≤ w.heap.size) (hown : OwnV w base E v xs) (h : B ≤ base) (hg : (w.alloc o).grownBy w' v.ownBlock) : Below B a w' :=
  (hb.alloc hB o).grown hg (by simp; omega) (fun k hk => Nat.le_trans h (hown.ownLt k hk))
end Go.Proofs.YtbpnbhemdbgmjaaGreat
end
section
namespace Go.Proofs.YtbpnbhemdbgmjaaGreat
open Go.RowKit
set_option linter.unusedSimpArgs false
theorem OwnV.sliceN {w : World} {base : Nat} {E : TypeId} {v : Value} {xs : List Int} (h : OwnV w base E v xs) : ∃ A l c, v = .slice A l c := by
  rcases h.form with ⟨rfl, _⟩ | ⟨g, cap, rfl, _⟩ <;> exact ⟨_, _, _, rfl⟩
end Go.Proofs.YtbpnbhemdbgmjaaGreat
end
section
namespace Go.Proofs.YtbpnbhemdbgmjaaGreat.X
open Go.RowKit
set_option linter.unusedSimpArgs false
set_option linter.unusedVariables false
def SetPost (w : World) (L : List Int) (e : Ending) (w' : World) : Prop :=
  ∃ v, e = .returned v ∧ OwnV w' w.heap.size 3 v L ∧ Below w.heap.size w w'
set_option maxRecDepth 100000 in
set_option maxHeartbeats 1600000 in
theorem sSet_any (s m : Nat) (hs : s < 128) (hm : m ≤ 7) (w : World) : Calls Tryzx.prog 84 #[.int .i64 s, .int .i64 m] w (SetPost w (setL s m)) := by
  go_enter Tryzx.func84, Tryz.ntmps84
  go_wp2
  go_loopw [5, 6] (fun v i wr => ∃ k : Nat, k ≤ m ∧ i = .int .i64 k ∧ OwnV wr w.heap.size 3 v (setL s k) ∧ Below w.heap.size w wr) (fun _ i _ => m - (intOf i).toNat)
  case atStart => exact ⟨0, Nat.zero_le _, rfl, OwnI.new _ _, (Below.refl _ _).alloc (Nat.le_refl _) _⟩
  case round =>
    obtain ⟨k, hk, rfl, hown, hb⟩ := hrel
    have HB := Lib.hid hb
    have HO := Lib.hid hown
    have hlen := setL_len s k
    have HBIT := Lib.hid (bit_at s k (by omega))
    clear hb hown
    by_cases hlt : k < m
    · have i1 : IntKind.i64.wrap ((k : Int) + 1) = (k : Int) + 1 := IntWalk.i64_in _ (by omega)
      by_cases hbit : s / p2 k % 2 = 1
      · have ht : (bits BinOp.and IntKind.i64 ((s : Int) / 2 ^ k) 1 == 1) = true := by rw [HBIT.out, hbit]; rfl
        have HU := Lib.hid (setL_yes hbit)
        clear hbit
        go_wp2_with (at_builtin; refine wpList_append_int _ rfl (.tmp 18) (.tmp 20) 54 rfl w.heap.size 3 Tryzx.underlying54 infoInt _ (setL s k) rfl (HO.out.alloc _) _ _ (k : Int) rfl (cell_new1 _ _ _) (by omega) (by have := HB.out.size; simp; omega) ?_; intro g' cap' w1 hown1 hgr1)
        have hb1 := ownB_below HB.out HB.out.size HO.out (Nat.le_refl _) hgr1
        have hv1 := hown1.toV
        rw [List.length_append, ← HU.out] at hv1
        go_wp2
        go_roundw
        case rel => exact ⟨k + 1, by omega, by go_num, hv1, hb1⟩
        case measure => simp [intOf]; omega
      · have ho : s / p2 k % 2 = 0 := by omega
        have ht : (bits BinOp.and IntKind.i64 ((s : Int) / 2 ^ k) 1 == 1) = false := by rw [HBIT.out, ho]; rfl
        have HU := Lib.hid (setL_no hbit)
        clear hbit ho
        go_wp2
        go_roundw
        case rel => exact ⟨k + 1, by omega, by go_num, by rw [HU.out]; exact HO.out, HB.out⟩
        case measure => simp [intOf]; omega
    · obtain rfl : k = m := by omega
      go_wp2
      go_ret
      exact ⟨_, rfl, HO.out, HB.out⟩
set_option maxRecDepth 100000 in
set_option maxHeartbeats 1600000 in
theorem iSet_any (s m : Nat) (hs : s < p2 m) (hm : m ≤ 7) (w : World) : Calls Tryzx.prog 86 #[.int .u64 s] w (SetPost w (setL s m)) := by
  have hs7 : s < 128 := Nat.lt_of_lt_of_le hs (p2_7 hm)
  go_enter Tryzx.func86, Tryz.ntmps86
  go_wp2
  go_loopw [3, 4] (fun v i wr => ∃ k : Nat, k ≤ 7 ∧ i = .int .i64 k ∧ OwnV wr w.heap.size 3 v (setL s k) ∧ Below w.heap.size w wr) (fun _ i _ => 7 - (intOf i).toNat)
  case atStart => exact ⟨0, Nat.zero_le _, rfl, OwnV.nil _ _ _, Below.refl _ _⟩
  case round =>
    obtain ⟨k, hk, rfl, hown, hb⟩ := hrel
    have HB := Lib.hid hb
    have HO := Lib.hid hown
    have hlen := setL_len s k
    have hdiv := div_p2 s k
    clear hb hown
    by_cases hz : s / p2 k = 0
    · have HT := Lib.hid (setL_top hs hz)
      have ht : ((s : Int) / 2 ^ k != 0) = false := by rw [hdiv, hz]; rfl
      clear hz hdiv
      go_wp2
      go_ret
      exact ⟨_, rfl, by rw [← HT.out]; exact HO.out, HB.out⟩
    · have hlt : k < 7 := set_more hs7 hz
      have i1 : IntKind.i64.wrap ((k : Int) + 1) = (k : Int) + 1 := IntWalk.i64_in _ (by omega)
      have hn : ((s : Int) / 2 ^ k != 0) = true := by rw [hdiv]; simp; omega
      have HBIT : Hid (bits .and .u64 ((s : Int) / 2 ^ k) 1 = ((s / p2 k % 2 : Nat) : Int)) := Lib.hid (by rw [hdiv]; exact ubit_at hs7)
      clear hz hdiv
      by_cases hbit : s / p2 k % 2 = 1
      · have ht : (bits BinOp.and IntKind.u64 ((s : Int) / 2 ^ k) 1 == 1) = true := by rw [HBIT.out, hbit]; rfl
        have HU := Lib.hid (setL_yes hbit)
        clear hbit
        go_wp2_with (at_builtin; refine wpList_append_int _ rfl (.tmp 16) (.tmp 18) 54 rfl w.heap.size 3 Tryzx.underlying54 infoInt _ (setL s k) rfl (HO.out.alloc _) _ _ (k : Int) rfl (cell_new1 _ _ _) (by omega) (by have := HB.out.size; simp; omega) ?_; intro g' cap' w1 hown1 hgr1)
        have hb1 := ownB_below HB.out HB.out.size HO.out (Nat.le_refl _) hgr1
        have hv1 := hown1.toV
        rw [List.length_append, ← HU.out] at hv1
        go_wp2
        go_roundw
        case rel => exact ⟨k + 1, by omega, by go_num, hv1, hb1⟩
        case measure => simp [intOf]; omega
      · have ho : s / p2 k % 2 = 0 := by omega
        have ht : (bits BinOp.and IntKind.u64 ((s : Int) / 2 ^ k) 1 == 1) = false := by rw [HBIT.out, ho]; rfl
        have HU := Lib.hid (setL_no hbit)
        clear hbit ho
        go_wp2
        go_roundw
        case rel => exact ⟨k + 1, by omega, by go_num, by rw [HU.out]; exact HO.out, HB.out⟩
        case measure => simp [intOf]; omega
end Go.Proofs.YtbpnbhemdbgmjaaGreat.X
end
section
namespace Go.Proofs.YtbpnbhemdbgmjaaGreat.X
open Go.RowKit
set_option linter.unusedSimpArgs false
set_option linter.unusedVariables false
def cstN (zs : List Int) (n : Nat) : Nat := if archB zs n = true then n - 1 else 0
theorem cstN_t {zs : List Int} {n : Nat} (h : archB zs n = true) : cstN zs n = n - 1 := by simp only [cstN, h, if_pos]
theorem cstN_f {zs : List Int} {n : Nat} (h : archB zs n = false) : cstN zs n = 0 := by simp [cstN, h]
theorem cstN_le (zs : List Int) (n : Nat) : cstN zs n ≤ 7 := by
  cases h : archB zs n
  · rw [cstN_f h]; omega
  · have := (archB_out h).1; rw [cstN_t h]; omega
theorem cstN_pos {zs : List Int} {n : Nat} (h : archB zs n = true) : 2 ≤ cstN zs n := by
  have := (archB_out h).1; rw [cstN_t h]; omega
def setB (zs : List Int) (n s : Nat) : Bool := stgB zs n (setL s (cstN zs n)) (setL s (cstN zs n)).length
def stagesN (zs : List Int) (n : Nat) : Nat := if archB zs n = true then cntS (setB zs n) (p2 (cstN zs n)) else 0
theorem stagesN_t {zs : List Int} {n : Nat} (h : archB zs n = true) : stagesN zs n = cntS (setB zs n) (p2 (cstN zs n)) := by simp [stagesN, h]
theorem stagesN_f {zs : List Int} {n : Nat} (h : archB zs n = false) : stagesN zs n = 0 := by simp [stagesN, h]
section
variable (A : Option Addr) (n c : Nat) (zs : List Int) (w : World) (h : RecsAt w w.heap.size 4 A n zs) (hn : n ≤ 1048576)
include h hn
set_option maxRecDepth 100000 in
set_option maxHeartbeats 1600000 in
theorem sCst_any : Calls Tryzx.prog 40 #[.agg #[.slice A n c]] w fun e w' => e = .returned (.int .i64 (cstN zs n : Nat)) ∧ Below w.heap.size w w' := by
  have b0 : Below w.heap.size w (w.alloc (.cells #[.slice A n c] 26)) := (Below.refl _ _).alloc (Nat.le_refl _) _
  have HX : Hid (Box (w.alloc (.cells #[.slice A n c] 26)) w.heap.size (.slice A n c)) := Lib.hid (Box.new _ _ _)
  have h1 := h.after b0
  cases hA : archB zs n
  · have HN : Hid ((0 : Int) = ((cstN zs n : Nat) : Int)) := Lib.hid (by rw [cstN_f hA]; rfl)
    have cx0 := HX.out.1
    go_enter Tryzx.func40, Tryz.ntmps40
    go_wp2_with fail
    refine (sArchOk_any _ _ _ zs _ (by exact h1) hn).mono ?_
    rw [hA]
    rintro e w1 ⟨rfl, hb1⟩
    have HB1 := Lib.hid (below_then b0 hb1)
    clear hb1 b0 h h1
    go_wp2
    go_ret
    exact ⟨by rw [← HN.out]; rfl, HB1.out⟩
  · have hn8 := (archB_out hA).1
    have HN : Hid ((n : Int) - 1 = ((cstN zs n : Nat) : Int)) := Lib.hid (by rw [cstN_t hA]; omega)
    have e1 : IntKind.i64.wrap ((n : Int) - 1) = (n : Int) - 1 := IntWalk.i64_in _ (by omega)
    have cx0 := HX.out.1
    go_enter Tryzx.func40, Tryz.ntmps40
    go_wp2_with fail
    refine (sArchOk_any _ _ _ zs _ (by exact h1) hn).mono ?_
    rw [hA]
    rintro e w1 ⟨rfl, hb1⟩
    have HB1 := Lib.hid (below_then b0 hb1)
    have cx1 := (HX.out.after hb1).1
    clear hb1 b0 h h1 cx0
    go_wp2
    go_ret
    exact ⟨by rw [← HN.out]; rfl, HB1.out⟩
set_option maxRecDepth 100000 in
set_option maxHeartbeats 1600000 in
theorem iCst_any : Calls Tryzx.prog 85 #[.agg #[.slice A n c]] w fun e w' => e = .returned (.int .i64 (cstN zs n : Nat)) ∧ Below w.heap.size w w' := by
  have b0 : Below w.heap.size w (w.alloc (.cells #[.slice A n c] 26)) := (Below.refl _ _).alloc (Nat.le_refl _) _
  have HX : Hid (Box (w.alloc (.cells #[.slice A n c] 26)) w.heap.size (.slice A n c)) := Lib.hid (Box.new _ _ _)
  have h1 := h.after b0
  cases hA : archB zs n
  · have HN : Hid ((0 : Int) = ((cstN zs n : Nat) : Int)) := Lib.hid (by rw [cstN_f hA]; rfl)
    have cx0 := HX.out.1
    go_enter Tryzx.func85, Tryz.ntmps85
    go_wp2_with fail
    refine (iArchOk_any _ _ _ zs _ (by exact h1) hn).mono ?_
    rw [hA]
    rintro e w1 ⟨rfl, hb1⟩
    have HB1 := Lib.hid (below_then b0 hb1)
    clear hb1 b0 h h1
    go_wp2
    go_ret
    exact ⟨by rw [← HN.out]; rfl, HB1.out⟩
  · have hn8 := (archB_out hA).1
    have HN : Hid ((n : Int) - 1 = ((cstN zs n : Nat) : Int)) := Lib.hid (by rw [cstN_t hA]; omega)
    have e1 : IntKind.i64.wrap ((n : Int) - 1) = (n : Int) - 1 := IntWalk.i64_in _ (by omega)
    have cx0 := HX.out.1
    go_enter Tryzx.func85, Tryz.ntmps85
    go_wp2_with fail
    refine (iArchOk_any _ _ _ zs _ (by exact h1) hn).mono ?_
    rw [hA]
    rintro e w1 ⟨rfl, hb1⟩
    have HB1 := Lib.hid (below_then b0 hb1)
    have cx1 := (HX.out.after hb1).1
    clear hb1 b0 h h1 cx0
    go_wp2
    go_ret
    exact ⟨by rw [← HN.out]; rfl, HB1.out⟩
set_option maxRecDepth 100000 in
set_option maxHeartbeats 3200000 in
theorem sStages_any : Calls Tryzx.prog 35 #[.agg #[.slice A n c]] w fun e w' => e = .returned (.int .i64 (stagesN zs n : Nat)) ∧ Below w.heap.size w w' := by
  have b0 : Below w.heap.size w (w.alloc (.cells #[.slice A n c] 26)) := (Below.refl _ _).alloc (Nat.le_refl _) _
  have HX : Hid (Box (w.alloc (.cells #[.slice A n c] 26)) w.heap.size (.slice A n c)) := Lib.hid (Box.new _ _ _)
  have HH := Lib.hid h
  have h1 := h.after b0
  have cx0 := HX.out.1
  have hm7 := cstN_le zs n
  cases hA : archB zs n
  · have HN : Hid ((0 : Int) = ((stagesN zs n : Nat) : Int)) := Lib.hid (by rw [stagesN_f hA]; rfl)
    go_enter Tryzx.func35, Tryz.ntmps35
    go_wp2_with fail
    refine (sCst_any _ _ _ zs _ (by exact h1) hn).mono ?_
    rw [cstN_f hA]
    rintro e w1 ⟨rfl, hb1⟩
    have HB1 := Lib.hid (below_then b0 hb1)
    clear hb1 b0 h h1 cx0
    go_wp2
    go_loopw [4, 5] (fun v4 v5 wr => v4 = .int .i64 0 ∧ v5 = .int .i64 0 ∧ wr = w1) (fun _ _ _ => 0)
    case atStart => exact ⟨rfl, rfl, rfl⟩
    case round =>
      obtain ⟨rfl, rfl, rfl⟩ := hrel
      go_wp2
      go_ret
      exact ⟨by rw [← HN.out]; rfl, HB1.out⟩
  · have hm2 := cstN_pos hA
    have HN : Hid (stagesN zs n = cntS (setB zs n) (p2 (cstN zs n))) := Lib.hid (stagesN_t hA)
    have HS : Hid (∀ s, setB zs n s = stgB zs n (setL s (cstN zs n)) (setL s (cstN zs n)).length) := Lib.hid (fun s => rfl)
    obtain ⟨m, hm⟩ : ∃ m, cstN zs n = m := ⟨_, rfl⟩
    rw [hm] at HN HS hm7 hm2
    have hsh := wrap_p2 m (by omega)
    have hp7 := p2_7 hm7
    go_enter Tryzx.func35, Tryz.ntmps35
    go_wp2_with fail
    refine (sCst_any _ _ _ zs _ (by exact h1) hn).mono ?_
    rw [hm]
    rintro e w1 ⟨rfl, hb1⟩
    have HB1 := Lib.hid (below_then b0 hb1)
    have HX1 := Lib.hid (HX.out.after hb1)
    clear hb1 b0 h h1 cx0 HX
    go_wp2
    go_loopw [4, 5] (fun v4 v5 wr => ∃ S : Nat, v4 = .int .i64 (cntS (setB zs n) S : Nat) ∧ v5 = .int .i64 S ∧ S ≤ p2 m ∧ Hid (Below w.heap.size w wr) ∧ Hid (Box wr w.heap.size (.slice A n c))) (fun _ v5 _ => p2 m - (intOf v5).toNat)
    case atStart => exact ⟨0, rfl, rfl, Nat.zero_le _, HB1, HX1⟩
    case round =>
      clear HB1 HX1
      obtain ⟨S, rfl, rfl, hS, HB, HX⟩ := hrel
      have hm0 : (m : Int) > 0 := by omega
      by_cases hlt : S < p2 m
      · have i1 : IntKind.i64.wrap ((S : Int) + 1) = (S : Int) + 1 := IntWalk.i64_in _ (by omega)
        have hcl := cntS_le (setB zs n) S
        have i2 : IntKind.i64.wrap (((cntS (setB zs n) S : Nat) : Int) + 1) = ((cntS (setB zs n) S : Nat) : Int) + 1 := IntWalk.i64_in _ (by omega)
        have hz : w.heap.size ≤ wr.heap.size := HB.out.size
        have cx1 := HX.out.1
        go_wp2_with fail
        go_region_held3 (fun w' => w'.cell? ⟨w.heap.size, 0, none⟩ = some (.slice A n c)) (first | exact cx1 | exact cx2 | exact cx3) ((first | (go_at_call 84; refine (sSet_any S m (by omega) hm7 _).mono ?_; rintro e w2 ⟨v2, rfl, ho2, hbx⟩; have hb2 := below_undrew hbx; obtain ⟨A2, q2, d2, rfl⟩ := ho2.sliceN; have HB2 := Lib.hid (below_then HB.out (hb2)); have HX2 := Lib.hid (HX.out.after hb2); have cx2 := HX2.out.1; obtain rfl := ho2.len; have l2 := ho2.intsAt; have hq2 := setL_len S m) | (go_at_call 31; refine (sStageStands_any _ _ _ zs _ _ _ (setL S m) _ (by exact HH.out.after HB2.out) hn (by exact l2) (by omega)).mono ?_; rintro e w3 ⟨rfl, hb3⟩; have HB3 := Lib.hid (below_then HB2.out hb3); have HX3 := Lib.hid (HX2.out.after hb3); have cx3 := HX3.out.1)))
        clear hb2 hbx hb3 ho2 cx1 cx2 cx3 l2 HX2 HB2
        have hs := HS.out S
        rw [← hs]
        clear hs
        cases hb : setB zs n S
        · have HC := Lib.hid (cntS_no hb)
          go_wp2
          go_roundw
          case rel => exact ⟨S + 1, by rw [HC.out], by go_num, by omega, HB3, HX3⟩
          case measure => simp [intOf]; omega
        · have HC := Lib.hid (cntS_yes hb)
          go_wp2
          go_roundw
          case rel => exact ⟨S + 1, by rw [HC.out]; go_num, by go_num, by omega, HB3, HX3⟩
          case measure => simp [intOf]; omega
      · obtain rfl : S = p2 m := by omega
        go_wp2
        go_ret
        exact ⟨by rw [HN.out]; rfl, HB.out⟩
set_option maxRecDepth 100000 in
set_option maxHeartbeats 3200000 in
theorem iStages_any : Calls Tryzx.prog 36 #[.agg #[.slice A n c]] w fun e w' => e = .returned (.int .i64 (stagesN zs n : Nat)) ∧ Below w.heap.size w w' := by
  have b0 : Below w.heap.size w (w.alloc (.cells #[.slice A n c] 26)) := (Below.refl _ _).alloc (Nat.le_refl _) _
  have HX : Hid (Box (w.alloc (.cells #[.slice A n c] 26)) w.heap.size (.slice A n c)) := Lib.hid (Box.new _ _ _)
  have HH := Lib.hid h
  have h1 := h.after b0
  have cx0 := HX.out.1
  have hm7 := cstN_le zs n
  cases hA : archB zs n
  · have HN : Hid ((0 : Int) = ((stagesN zs n : Nat) : Int)) := Lib.hid (by rw [stagesN_f hA]; rfl)
    go_enter Tryzx.func36, Tryz.ntmps36
    go_wp2_with fail
    refine (iArchOk_any _ _ _ zs _ (by exact h1) hn).mono ?_
    rw [hA]
    rintro e w1 ⟨rfl, hb1⟩
    have HB1 := Lib.hid (below_then b0 hb1)
    clear hb1 b0 h h1 cx0
    go_wp2
    go_ret
    exact ⟨by rw [← HN.out]; rfl, HB1.out⟩
  · have hm2 := cstN_pos hA
    have HN : Hid (stagesN zs n = cntS (setB zs n) (p2 (cstN zs n))) := Lib.hid (stagesN_t hA)
    have HS : Hid (∀ s, setB zs n s = stgB zs n (setL s (cstN zs n)) (setL s (cstN zs n)).length) := Lib.hid (fun s => rfl)
    obtain ⟨m, hm⟩ : ∃ m, cstN zs n = m := ⟨_, rfl⟩
    rw [hm] at HN HS hm7 hm2
    have hsh := uwrap_p2 m hm7
    have hp7 := p2_7 hm7
    go_enter Tryzx.func36, Tryz.ntmps36
    go_wp2_with fail
    refine (iArchOk_any _ _ _ zs _ (by exact h1) hn).mono ?_
    rw [hA]
    rintro e wq ⟨rfl, hbq⟩
    have HBq := Lib.hid (below_then b0 hbq)
    have HXq := Lib.hid (HX.out.after hbq)
    have hq := HH.out.after HBq.out
    have cxq := HXq.out.1
    clear hbq b0 h h1 cx0 HX
    go_wp2_with fail
    refine (iCst_any _ _ _ zs _ (by exact hq) hn).mono ?_
    rw [hm]
    rintro e w1 ⟨rfl, hb1⟩
    have HB1 := Lib.hid (below_then HBq.out hb1)
    have HX1 := Lib.hid (HXq.out.after hb1)
    clear hb1 hq cxq HXq HBq
    go_wp2
    go_loopw [3, 11] (fun v4 v5 wr => ∃ S : Nat, v4 = .int .i64 (cntS (setB zs n) S : Nat) ∧ v5 = .int .u64 S ∧ S ≤ p2 m ∧ Hid (Below w.heap.size w wr) ∧ Hid (Box wr w.heap.size (.slice A n c))) (fun _ v5 _ => p2 m - (intOf v5).toNat)
    case atStart => exact ⟨0, rfl, rfl, Nat.zero_le _, HB1, HX1⟩
    case round =>
      clear HB1 HX1
      obtain ⟨S, rfl, rfl, hS, HB, HX⟩ := hrel
      by_cases hlt : S < p2 m
      · have i1 : IntKind.u64.wrap ((S : Int) + 1) = (S : Int) + 1 := u64_in _ (by omega)
        have hcl := cntS_le (setB zs n) S
        have i2 : IntKind.i64.wrap (((cntS (setB zs n) S : Nat) : Int) + 1) = ((cntS (setB zs n) S : Nat) : Int) + 1 := IntWalk.i64_in _ (by omega)
        have hz : w.heap.size ≤ wr.heap.size := HB.out.size
        have cx1 := HX.out.1
        go_wp2_with fail
        go_region_held3 (fun w' => w'.cell? ⟨w.heap.size, 0, none⟩ = some (.slice A n c)) (first | exact cx1 | exact cx2 | exact cx3) ((first | (go_at_call 86; refine (iSet_any S m hlt hm7 _).mono ?_; rintro e w2 ⟨v2, rfl, ho2, hbx⟩; have hb2 := below_undrew hbx; obtain ⟨A2, q2, d2, rfl⟩ := ho2.sliceN; have HB2 := Lib.hid (below_then HB.out (hb2)); have HX2 := Lib.hid (HX.out.after hb2); have cx2 := HX2.out.1; obtain rfl := ho2.len; have l2 := ho2.intsAt; have hq2 := setL_len S m) | (go_at_call 33; refine (iStageStands_any _ _ _ zs _ _ _ (setL S m) _ (by exact HH.out.after HB2.out) hn (by exact l2) (by omega)).mono ?_; rintro e w3 ⟨rfl, hb3⟩; have HB3 := Lib.hid (below_then HB2.out hb3); have HX3 := Lib.hid (HX2.out.after hb3); have cx3 := HX3.out.1)))
        clear hb2 hbx hb3 ho2 cx1 cx2 cx3 l2 HX2 HB2
        have hs := HS.out S
        rw [← hs]
        clear hs
        cases hb : setB zs n S
        · have HC := Lib.hid (cntS_no hb)
          go_wp2
          go_roundw
          case rel => exact ⟨S + 1, by rw [HC.out], by go_num, by omega, HB3, HX3⟩
          case measure => simp [intOf]; omega
        · have HC := Lib.hid (cntS_yes hb)
          go_wp2
          go_roundw
          case rel => exact ⟨S + 1, by rw [HC.out]; go_num, by go_num, by omega, HB3, HX3⟩
          case measure => simp [intOf]; omega
      · obtain rfl : S = p2 m := by omega
        go_wp2
        go_ret
        exact ⟨by rw [HN.out]; rfl, HB.out⟩
end
end Go.Proofs.YtbpnbhemdbgmjaaGreat.X
end
section
namespace Go.Proofs.YtbpnbhemdbgmjaaGreat.X
open Go.RowKit
set_option linter.unusedVariables false
set_option maxRecDepth 100000 in
set_option maxHeartbeats 1600000 in
theorem fnExactCountStages.walk (A0 : Option Addr) (n0 c0 : Nat) (z0 : List Int) (hm0 : n0 ≤ maxLen) (w : World) (a0_ : RecsAt w w.heap.size 4 A0 n0 z0) :
    Calls Tryzx.prog 6 #[.agg #[.slice A0 n0 c0]] w fun e w' => e = .returned (.bool true) ∧ Below w.heap.size w w' := by
  have hm0' : n0 ≤ 9223372036854775807 := by unfold maxLen at hm0; omega
  have b_0 : Below w.heap.size w w := Below.refl _ _
  have a0_0 := a0_
  have hb_1 : Below w.heap.size w (w.alloc (.cells #[.slice A0 n0 c0] 49)) := (Below.refl _ _).alloc (Nat.le_refl _) _
  have b_1 := below_then b_0 hb_1
  clear b_0
  have a0_1 := a0_0.after hb_1
  clear a0_0
  clear hb_1
  have bx0_1 : Box (w.alloc (.cells #[.slice A0 n0 c0] 49)) w.heap.size (.slice A0 n0 c0) := Box.new _ _ _
  go_enter Tryzx.func6, Tryz.ntmps6
  go_wp2_with fail
  refine (sz1_any (n := n0) (by omega) (fun h => szArch_ok A0 n0 c0 _ _ (by omega) (by omega) hm0' h) (fun h => szArch_no A0 n0 c0 _ _ (by omega) (by omega) hm0' h)).mono ?_
  rintro e w2 ⟨r2, rfl, hb_2, hr2⟩
  have b_2 := below_then b_1 hb_2
  clear b_1
  have a0_2 := a0_1.after hb_2
  clear a0_1
  have bx0_2 := bx0_1.after hb_2
  clear bx0_1
  have cbx0_2 := bx0_2.1
  clear hb_2
  rcases hr2 with rfl | hr2
  · go_wp2
    go_ret
    exact ⟨rfl, b_2⟩
  obtain ⟨hr2a, hr2b, hr2c⟩ := hr2
  have hn0 : n0 ≤ 1048576 := by omega
  have ht0 : ¬ r2 < 0 := by omega
  go_wp2_with fail
  refine (toArch_any A0 n0 c0 z0 _ a0_2 hn0).mono ?_
  rintro e w3 ⟨g3, rfl, _, r_3, hb_3⟩
  have b_3 := below_then b_2 hb_3
  clear b_2
  have a0_3 := a0_2.after hb_3
  clear a0_2
  have bx0_3 := bx0_2.after hb_3
  clear bx0_2
  have cbx0_3 := bx0_3.1
  clear cbx0_2
  have s0_3 := recsAt_row r_3 a0_.1 (fun k _ => rfl)
  clear r_3 hb_3
  go_wp2_with fail
  refine (sStages_any _ _ _ z0 _ (by exact s0_3) hn0).mono ?_
  rintro e w4 ⟨rfl, hb_4⟩
  have b_4 := below_then b_3 hb_4
  clear b_3
  have a0_4 := a0_3.after hb_4
  clear a0_3
  have bx0_4 := bx0_3.after hb_4
  clear bx0_3
  have s0_4 := s0_3.after hb_4
  clear s0_3
  have cbx0_4 := bx0_4.1
  clear cbx0_3
  clear hb_4
  clear s0_4
  go_wp2_with fail
  refine (toArch_any A0 n0 c0 z0 _ a0_4 hn0).mono ?_
  rintro e w5 ⟨g5, rfl, _, r_5, hb_5⟩
  have b_5 := below_then b_4 hb_5
  clear b_4
  have a0_5 := a0_4.after hb_5
  clear a0_4
  have bx0_5 := bx0_4.after hb_5
  clear bx0_4
  have cbx0_5 := bx0_5.1
  clear cbx0_4
  have s0_5 := recsAt_row r_5 a0_.1 (fun k _ => rfl)
  clear r_5 hb_5
  have hb_6 : Below w5.heap.size w5 (w5.alloc (.cells #[.slice (some ⟨g5, 0, none⟩) n0 n0] 26)) := (Below.refl _ _).alloc (Nat.le_refl _) _
  have b_6 := below_then b_5 hb_6
  clear b_5
  have a0_6 := a0_5.after hb_6
  clear a0_5
  have bx0_6 := bx0_5.after hb_6
  clear bx0_5
  have s0_6 := s0_5.after hb_6
  clear s0_5
  have cbx0_6 := bx0_6.1
  clear cbx0_5
  clear hb_6
  have by0_6 : Box (w5.alloc (.cells #[.slice (some ⟨g5, 0, none⟩) n0 n0] 26)) w5.heap.size (.slice (some ⟨g5, 0, none⟩) n0 n0) := Box.new _ _ _
  have cby0_6 := by0_6.1
  go_wp2_with fail
  refine (iStages_any _ _ _ z0 _ (by exact s0_6) hn0).mono ?_
  rintro e w7 ⟨rfl, hb_7⟩
  have b_7 := below_then b_6 hb_7
  clear b_6
  have a0_7 := a0_6.after hb_7
  clear a0_6
  have bx0_7 := bx0_6.after hb_7
  clear bx0_6
  have s0_7 := s0_6.after hb_7
  clear s0_6
  have by0_7 := by0_6.after hb_7
  clear by0_6
  have cbx0_7 := bx0_7.1
  clear cbx0_6
  have cby0_7 := by0_7.1
  clear cby0_6
  clear hb_7
  go_wp2_with fail
  go_region_held3 (fun w' => w'.cell? ⟨w5.heap.size, 0, none⟩ = some (.slice (some ⟨g5, 0, none⟩) n0 n0) ∧ w'.cell? ⟨w.heap.size, 0, none⟩ = some (.slice A0 n0 c0)) (first | exact ⟨cby0_7, cbx0_7⟩ | exact ⟨dy0_1, dx0_1⟩ | exact ⟨dy0_2, dx0_2⟩) ((first | (go_at_call 28; refine (toArch_any A0 n0 c0 z0 _ (by exact a0_7) hn0).mono ?_; rintro e w8 ⟨g8, rfl, _, r_8, hbx8⟩; have hb_8 := below_undrew hbx8; have e0_1 := s0_7.after hb_8; have v0_1 := recsAt_row r_8 a0_.1 (fun k _ => rfl); have dy0_1 := (by0_7.after hb_8).1; have dx0_1 := (bx0_7.after hb_8).1) | (go_at_call 30; refine (eqArch_same _ _ _ _ _ z0 _ (by exact e0_1) (by exact v0_1) hn0).mono ?_; rintro e w9 ⟨rfl, hb_9⟩; have dy0_2 := ((by0_7.after hb_8).after hb_9).1; have dx0_2 := ((bx0_7.after hb_8).after hb_9).1)))
  have b_8 := below_then b_7 hb_8
  clear b_7
  have a0_8 := a0_7.after hb_8
  clear a0_7
  have bx0_8 := bx0_7.after hb_8
  clear bx0_7
  have s0_8 := s0_7.after hb_8
  clear s0_7
  have by0_8 := by0_7.after hb_8
  clear by0_7
  have cbx0_8 := bx0_8.1
  clear cbx0_7
  have cby0_8 := by0_8.1
  clear cby0_7
  have b_9 := below_then b_8 hb_9
  clear b_8
  have a0_9 := a0_8.after hb_9
  clear a0_8
  have bx0_9 := bx0_8.after hb_9
  clear bx0_8
  have s0_9 := s0_8.after hb_9
  clear s0_8
  have by0_9 := by0_8.after hb_9
  clear by0_8
  have cbx0_9 := bx0_9.1
  clear cbx0_8
  have cby0_9 := by0_9.1
  clear cby0_8
  clear hb_8 hb_9
  go_wp2
  go_ret
  exact ⟨rfl, b_9⟩
end Go.Proofs.YtbpnbhemdbgmjaaGreat.X
end
