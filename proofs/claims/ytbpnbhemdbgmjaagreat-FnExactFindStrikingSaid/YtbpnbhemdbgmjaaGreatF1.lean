/-
  Texts that the law stands on, part 1.
-/
import Derived.Test.YtbpnbhemdbgmjaaGreatC1
import Derived.Test.YtbpnbhemdbgmjaaGreatC11
import Derived.Test.YtbpnbhemdbgmjaaGreatC17
import Derived.Test.YtbpnbhemdbgmjaaGreatC19
import Derived.Test.YtbpnbhemdbgmjaaGreatC22
import Derived.WalkKit
import Derived.ProofKit
import Derived.OpenShut
import Derived.SizedLaws
import Derived.ChangeSame
import Derived.Lib.Hide
import Derived.Deep.OwnRows
import Derived.Deep.Draws
import Derived.OwnWalk
import Derived.ArgAppend
import Derived.Test.YtbpnbhemdbgmjaaGreatProg
import Derived.KernelRfl
import Derived.Outline
import Derived.Deep.QuietTactic
import Derived.BigQuiet
import Derived.IntWalk
import Derived.Maps.OwnOps
import Derived.Maps.OwnSet
import Derived.Maps.Views
set_option linter.unusedVariables false
set_option linter.unusedSimpArgs false
namespace Go.Proofs.YtbpnbhemdbgmjaaGreat
section
open Go.ChangeShapes Go.WideShapes Go.ChangeAt Go.RowKit
section
variable {H : Type} {enc : TypeId × Value → H} {P : Program}
end
section
variable {w w' : World} {B B' n : Nat} {A : Option Addr} {zs : List Int}
end
theorem list_ext_nth {xs ys : List Int} (hl : xs.length = ys.length) (h : ∀ k, k < xs.length → nth xs k = nth ys k) : xs = ys := by
 refine List.ext_getElem hl fun k h1 h2 => ?_
 have := h k h1
 rwa [nth_get _ _ h1, nth_get _ _ h2] at this
theorem open_ints_arg {H : Type} {enc : TypeId × Value → H} {P : Program} {W : World} {base : Nat} {t e : TypeId} {v : Value} {d : DataW H} {p : List MemPlace} (ht : P.underlying t = some (.slice e)) (he : P.underlying e = some (.int .i64)) (hc : P.cellsOf e = 1)
  (hv : Value.okWide P W .any base t v) (h : DataW.Trod enc P W 0 (fun _ => true) true t v d p) (hlt : ∀ x ∈ p, x.block < W.heap.size) :
  ∃ (A : Option Addr) (n c : Nat) (zs : List Int), v = .slice A n c ∧ IntsAt W W.heap.size A n zs ∧ n ≤ maxLen ∧ n ≤ c ∧ (∀ k, -9223372036854775808 ≤ nth zs k ∧ nth zs k ≤ 9223372036854775807) := by
 obtain ⟨A, n, c, rfl⟩ := okWide_slice ht hv
 obtain ⟨fuel, hf⟩ := h
 rcases open_ints ht he hc hf with ⟨h0, _⟩ | ⟨a, len, cap, ys, h1, _, hl, hm, hy, hx, hcell, hwf⟩
 ·simp [Value.cells] at h0
  obtain ⟨rfl, rfl, rfl⟩ := h0
  exact ⟨_, _, _, [], rfl, IntsAt.nil, by simp [maxLen], Nat.le_refl _, fun k => by simp [nth]⟩
 ·simp [Value.cells] at h1
  obtain ⟨rfl, rfl, rfl⟩ := h1
  simp only [if_true] at hy
  have hw : ∀ k, -9223372036854775808 ≤ nth (ys.take n) k ∧ nth (ys.take n) k ≤ 9223372036854775807 := by
   intro k
   by_cases hk : k < (ys.take n).length
   ·rw [nth_get _ _ hk]
    exact i64_bounds (hwf _ (List.mem_of_mem_take (List.getElem_mem hk)))
   ·simp [nth, List.getD, List.getElem?_eq_none (Nat.le_of_not_lt hk)]
  refine ⟨_, _, _, ys.take n, rfl, ⟨by simp; omega, fun hn => ?_⟩, by omega, hl, hw⟩
  obtain ⟨b, off, rfl, hc'⟩ := ints_at hcell (by omega)
  refine ⟨b, off, rfl, ?_, fun k hk => ?_⟩
  ·have hpx : p = MemPlace.row ⟨b, off, none⟩ ys.length := by simpa using congrArg Prod.snd hx
   have : MemPlace.cell b off ∈ p := by
    rw [hpx]
    simp [MemPlace.row]
    omega
   exact hlt _ this
  ·rw [hc' k (by omega)]
   have : nth (ys.take n) k = ys.getD k 0 := by
    simp [nth, List.getD, hk]
   rw [this]
end
section
open Go.RowKit
section
variable {w w' : World} {base : Nat} {E : TypeId} {g cap : Nat} {v : Value} {xs : List Int}
theorem OwnI.toV (h : OwnI w base E g cap xs) : OwnV w base E (.slice (some ⟨g, 0, none⟩) xs.length cap) xs := h
theorem OwnI.intsAt (h : OwnI w base E g cap xs) : IntsAt w w.heap.size (some ⟨g, 0, none⟩) xs.length xs :=
 ⟨rfl, fun _ => ⟨g, 0, rfl, h.blk.2, fun k hk => by rw [Nat.zero_add]; exact h.cell hk⟩⟩
theorem OwnV.intsAt {A : Option Addr} {n c : Nat} (h : OwnV w base E (.slice A n c) xs) : IntsAt w w.heap.size A n xs := by
 rcases h.2 with ⟨h1, h2⟩ | ⟨g, cap, cur, h1, hr⟩
 ·simp at h1
  obtain ⟨rfl, rfl, rfl⟩ := h1
  have : xs = [] := List.eq_nil_of_length_eq_zero h2
  subst this
  exact IntsAt.nil
 ·simp at h1
  obtain ⟨rfl, rfl, rfl⟩ := h1
  exact OwnI.intsAt h
end
theorem wpList_append_int {P : Program} (w : World) {ops : Array Oper} {rest : List Oper} {o : Oper} {a : Act} {Q : Exit → Act → World → Prop} (hgd : o.guard = none) (s x : Operand) (t : TypeId)
  (ho : o.op = .call { callee := .builtin .append, args := #[s, x], argTypes := #[t, t] })
  (base : Nat) (E : TypeId) (ht : P.underlying t = some (.slice E)) (hinfo : (P.info? E).map (fun i => (i.zero, i.size, i.bytes)) = some (some (.int .i64 0), 1, 8))
  (v : Value) (xs : List Int) (hs : a.eval s = v) (hown : OwnV w base E v xs) (g c : Nat) (z : Int) (hx : a.eval x = .slice (some ⟨g, 0, none⟩) 1 c)
  (hg : w.cell? ⟨g, 0, none⟩ = some (.int .i64 z)) (hlen : xs.length ≤ 1099511627776) (hbase : base ≤ w.heap.size)
  (h : ∀ g' cap' w', OwnI w' base E g' cap' (xs ++ [z]) → w.grownBy w' v.ownBlock → wpList P ops Q rest (a.put o.dst (.slice (some ⟨g', 0, none⟩) (xs.length + 1) cap')) w') : wpList P ops Q (o :: rest) a w := by
 obtain ⟨i0, hi0, hz0, hz1, hz2⟩ := info_parts hinfo
 refine wpList_append_own (P := P) w hgd s x t ho base E i0 (.int .i64 0) 1 8 ht hi0 hz0 hz1 hz2 rfl (by decide) v xs.length _ hs hown ⟨g, 0, none⟩ 1 c [.int .i64 z] hx rfl ?_ ?_ (by unfold maxLen; omega) (by omega) hbase ?_
 ·intro j u hj
  match j, hj with
  | 0, hj => simp at hj; subst hj; simpa [Addr.add] using hg
 ·intro u hu; simp at hu; subst hu; rfl
 ·intro v' w' hown' hgr _
  have h' : OwnV w' base E v' (xs ++ [z]) := by
   unfold OwnV
   rw [List.length_append, List.map_append]
   exact hown'
  rcases h'.form with ⟨_, h2⟩ | ⟨g', cap', rfl, hi⟩
  ·simp at h2
  ·have e : (xs ++ [z]).length = xs.length + 1 := by simp
   rw [e] at *
   exact h g' cap' w' hi hgr
end
end Go.Proofs.YtbpnbhemdbgmjaaGreat
section
namespace Go.Proofs.Tryzx
theorem func10 : prog.funcs[10]? = some Tryz.f10 := by kernel_rfl
theorem func40 : prog.funcs[40]? = some Tryz.f40 := by kernel_rfl
theorem func48 : prog.funcs[48]? = some Tryz.f48 := by kernel_rfl
theorem func49 : prog.funcs[49]? = some Tryz.f49 := by kernel_rfl
theorem func84 : prog.funcs[84]? = some Tryz.f84 := by kernel_rfl
theorem func85 : prog.funcs[85]? = some Tryz.f85 := by kernel_rfl
theorem func86 : prog.funcs[86]? = some Tryz.f86 := by kernel_rfl
theorem func100 : prog.funcs[100]? = some Tryz.f100 := by kernel_rfl
theorem func101 : prog.funcs[101]? = some Tryz.f101 := by kernel_rfl
theorem underlying164 : prog.underlying 164 = some (Go.TypeDesc.slice 4) := (underlying_x 164).trans Tryz.underlying164
@[simp] theorem call10 (args w) : Sem.run prog (callFunc 10 args) w = .ok (.enter 10 args) w := call_x 10 args w func10
@[simp] theorem call40 (args w) : Sem.run prog (callFunc 40 args) w = .ok (.enter 40 args) w := call_x 40 args w func40
@[simp] theorem call48 (args w) : Sem.run prog (callFunc 48 args) w = .ok (.enter 48 args) w := call_x 48 args w func48
@[simp] theorem call49 (args w) : Sem.run prog (callFunc 49 args) w = .ok (.enter 49 args) w := call_x 49 args w func49
@[simp] theorem call84 (args w) : Sem.run prog (callFunc 84 args) w = .ok (.enter 84 args) w := call_x 84 args w func84
@[simp] theorem call85 (args w) : Sem.run prog (callFunc 85 args) w = .ok (.enter 85 args) w := call_x 85 args w func85
@[simp] theorem call86 (args w) : Sem.run prog (callFunc 86 args) w = .ok (.enter 86 args) w := call_x 86 args w func86
@[simp] theorem call100 (args w) : Sem.run prog (callFunc 100 args) w = .ok (.enter 100 args) w := call_x 100 args w func100
@[simp] theorem call101 (args w) : Sem.run prog (callFunc 101 args) w = .ok (.enter 101 args) w := call_x 101 args w func101
end Go.Proofs.Tryzx
end
namespace Go.Proofs.YtbpnbhemdbgmjaaGreat
namespace X
open Go.RowKit
theorem infoInt : (Tryzx.prog.info? 3).map (fun i => (i.zero, i.size, i.bytes)) = some (some (.int .i64 0), 1, 8) := by kernel_rfl
def upto (zs : List Int) (k j : Nat) : Value := if j < k then .int .i64 (nth zs j) else .int .i64 0
theorem upto_at (zs : List Int) (k : Nat) : upto zs k k = .int .i64 0 := by simp [upto]
theorem upto_step (zs : List Int) (k j : Nat) : (if j = k then Value.int .i64 (nth zs k) else upto zs k j) = upto zs (k + 1) j := by
 unfold upto
 by_cases h : j = k
 ·subst h; simp
 ·by_cases h' : j < k
  ·simp [h, h', show j < k + 1 by omega]
  ·simp [h, h', show ¬ j < k + 1 by omega]
theorem upto_end (zs : List Int) (n j : Nat) (h : j < n) : upto zs n j = .int .i64 (nth zs j) := by simp [upto, h]
set_option maxHeartbeats 400000 in
theorem toIntS_any (A : Option Addr) (n c : Nat) (zs : List Int) (w : World) (h : IntsAt w w.heap.size A n zs) (hn : n ≤ 1048576) :
  Calls Tryzx.prog 32 #[.slice A n c] w fun e w' => e = .returned (.slice (some ⟨w.heap.size, 0, none⟩) n n) ∧ IntsAt w' w'.heap.size (some ⟨w.heap.size, 0, none⟩) n zs ∧ Below w.heap.size w w' := by
 have H := Lib.hid h
 clear h
 have hmk := run_make_row' (P := Tryzx.prog) 54 3 (.int .i64 0) 8 Tryzx.underlying54 infoInt rfl .i64 .i64 n (by omega) (by omega)
 go_enter Tryzx.func32, Tryz.ntmps32
 go_wp2
 clear hmk
 go_loopw [4] (fun i wr => ∃ k : Nat, k ≤ n ∧ i = .int .i64 k ∧ wr.rowIs w.heap.size 3 n (upto zs k) ∧ Below w.heap.size w wr) (fun i _ => n - (intOf i).toNat)
 case atStart => exact ⟨0, Nat.zero_le _, rfl, (World.rowIs_made _ _ _ _).congr (fun i _ => by simp [upto]), (Below.refl _ _).alloc (Nat.le_refl _) _⟩
 case round =>
  obtain ⟨k, hk, rfl, hrow, hb⟩ := hrel
  by_cases hlt : k < n
  ·obtain ⟨b, off, rfl, hbB, hc⟩ := H.out.2 (by omega)
   have hcx : wr.cell? ⟨b, off + k, none⟩ = some (.int .i64 (nth zs k)) := (hb.cell (by exact hbB)).trans (hc k hlt)
   have hcy : wr.cell? ⟨w.heap.size, k, none⟩ = some (.int .i64 0) := by rw [hrow.cell hlt, upto_at]
   have hfy : wr.frozen? ⟨w.heap.size, k, none⟩ = false := hrow.frozen k
   have HR := Lib.hid hrow
   have HB := Lib.hid hb
   clear hrow hb hc
   go_wp2
   go_roundw
   case rel => exact ⟨k + 1, by omega, by go_num, (HR.out.set k _).congr (fun j _ => upto_step zs k j), HB.out.setCell (Nat.le_refl _) _⟩
   case measure => simp [intOf]; omega
  ·have hkn : k = n := by omega
   subst hkn
   have HR := Lib.hid hrow
   have HB := Lib.hid hb
   clear hrow hb
   go_wp2
   go_ret
   exact ⟨rfl, intsAt_row HR.out H.out.1 (fun j hj => upto_end zs k j hj), HB.out⟩
def agree (xs ys : List Int) (k : Nat) : Prop := ∀ j, j < k → nth xs j = nth ys j
theorem agree_step {xs ys : List Int} {k : Nat} (h : agree xs ys k) (e : nth xs k = nth ys k) : agree xs ys (k + 1) := by
 intro j hj
 by_cases hjk : j = k
 ·subst hjk; exact e
 ·exact h j (by omega)
def eqL (xs ys : List Int) : Bool := decide (xs = ys)
theorem eqL_refl (xs : List Int) : eqL xs xs = true := by simp [eqL]
set_option maxHeartbeats 400000 in
theorem eqIntS_any (A A' : Option Addr) (n n' c c' : Nat) (xs ys : List Int) (w : World) (hx : IntsAt w w.heap.size A n xs) (hy : IntsAt w w.heap.size A' n' ys) (hn : n ≤ 1048576) (hn' : n' ≤ 1048576) :
  Calls Tryzx.prog 34 #[.slice A n c, .slice A' n' c'] w fun e w' => e = .returned (.bool (eqL xs ys)) ∧ Below w.heap.size w w' := by
 by_cases hl : n = n'
 ·subst hl
  have HX := Lib.hid hx
  have HY := Lib.hid hy
  clear hx hy
  have ht : ((n : Int) != (n : Int)) = false := by simp
  go_enter Tryzx.func34, Tryz.ntmps34
  go_wp2
  go_loopw [5] (fun i wr => ∃ k : Nat, k ≤ n ∧ i = .int .i64 k ∧ agree xs ys k ∧ Below w.heap.size w wr) (fun i _ => n - (intOf i).toNat)
  case atStart => exact ⟨0, Nat.zero_le _, rfl, fun j hj => absurd hj (by omega), Below.refl _ _⟩
  case round =>
   obtain ⟨k, hk, rfl, hag, hb⟩ := hrel
   have HB := Lib.hid hb
   by_cases hlt : k < n
   ·obtain ⟨b, off, rfl, hbB, hc⟩ := HX.out.2 (by omega)
    obtain ⟨b', off', rfl, hbB', hc'⟩ := HY.out.2 (by omega)
    have hcx : wr.cell? ⟨b, off + k, none⟩ = some (.int .i64 (nth xs k)) := (hb.cell (by exact hbB)).trans (hc k hlt)
    have hcy : wr.cell? ⟨b', off' + k, none⟩ = some (.int .i64 (nth ys k)) := (hb.cell (by exact hbB')).trans (hc' k hlt)
    have hki : (k : Int) < (n : Int) := by omega
    have hk0 : (0 : Int) ≤ (k : Int) := by omega
    clear hc hc' hb
    by_cases he : nth xs k = nth ys k
    ·have hne : (nth xs k != nth ys k) = false := by simp [he]
     have HE := Lib.hid he
     clear he
     go_wp2
     go_quiet (fail)
     go_wp2
     go_roundw
     case rel => exact ⟨k + 1, by omega, by go_num, agree_step hag HE.out, below_drewN HB.out _⟩
     case measure => simp [intOf]; omega
    ·have hne : (nth xs k != nth ys k) = true := by simp [he]
     have HE := Lib.hid he
     clear he
     go_wp2
     go_quiet (fail)
     go_wp2
     go_ret
     refine ⟨ret_bool ?_, below_drewN HB.out _⟩
     have : xs ≠ ys := fun e => HE.out (by rw [e])
     simp [eqL, this]
   ·have hkn : k = n := by omega
    subst hkn
    clear hb
    go_wp2
    go_ret
    refine ⟨ret_bool ?_, HB.out⟩
    have : xs = ys := list_ext_nth (by rw [HX.out.1, HY.out.1]) (fun j hj => hag j (by rw [HX.out.1] at hj; exact hj))
    simp [eqL, this]
 ·have H := Lib.hid (show xs ≠ ys from fun e => hl (by rw [← hx.1, ← hy.1, e]))
  have ht : ((n : Int) != (n' : Int)) = true := by simp; omega
  clear hx hy
  go_enter Tryzx.func34, Tryz.ntmps34
  go_wp2
  go_ret
  exact ⟨ret_bool (by simp [eqL, H.out]), Below.refl _ _⟩
end X
namespace X
open Go.RowKit
section
variable {w w1 w2 : World}
theorem below_box {o : Obj} (h : Below w.heap.size w w1) : Below w.heap.size w (w1.alloc o) := h.alloc h.size _
end
theorem toIntS_ex (A : Option Addr) (n c : Nat) (zs : List Int) (w : World) (h : IntsAt w w.heap.size A n zs) (hn : n ≤ 1048576) :
  Calls Tryzx.prog 32 #[.slice A n c] w fun e w' => ∃ g, e = .returned (.slice (some ⟨g, 0, none⟩) n n) ∧ w.heap.size ≤ g ∧ IntsAt w' w'.heap.size (some ⟨g, 0, none⟩) n zs ∧ Below w.heap.size w w' :=
 (toIntS_any A n c zs w h hn).mono fun _ _ ⟨he, hi, hb⟩ => ⟨_, he, Nat.le_refl _, hi, hb⟩
end X
namespace Rn
open Go.Conc Go.WideShapes
section
variable {P : Program} {w : World} {r : Reach} {base : Nat} {t e u : TypeId} {fs : Array Field} {A : Option Addr} {n c : Nat}
theorem slice_atCells (ht : P.underlying t = some (.slice e)) (h : Value.okWide P w r base t (.slice A n c)) : AtCells w A := by
 simp only [Value.okWide, ht] at h
 exact cell_atCells ht h
end
section
variable {noT : TypeId} {ws : List Win} {v : World} {B K n i : Nat} {A : Option Addr} {zs : List Int}
theorem ints_recs (h : IntsAt v B A n zs) : RecsAt v B 1 A n zs := ⟨by rw [h.1, Nat.mul_one], by rw [Nat.mul_one]; exact h.2⟩
theorem recs_ints (h : RecsAt v B 1 A n zs) : IntsAt v B A n zs := ⟨by rw [h.1, Nat.mul_one], by have := h.2; rwa [Nat.mul_one] at this⟩
theorem lone_ints (h : IntsAt v B A n zs) (hi : ws[i]? = some (winOf .i64 A (n * 1) zs)) (t : Tp) (d : Nat) : IntsAt ((lworld noT ws v).tp t d) ((lworld noT ws v).tp t d).heap.size (lA A i) n zs := recs_ints (lone_recs (ints_recs h) hi t d)
end
end Rn
end Go.Proofs.YtbpnbhemdbgmjaaGreat
section
namespace Go.Proofs.Tryzx
theorem ntmps10 : Tryz.f10.ntmps = 43 := Tryz.ntmps10
end Go.Proofs.Tryzx
end
namespace Go.Proofs.YtbpnbhemdbgmjaaGreat
namespace X
open Go.RowKit
theorem quiet_same' {P : Program} {f : FuncId} {args : Array Value} {w : World} {n : Nat} {v : Value}
  (h : Calls P f args (w.drewN n) fun e w' => e = .returned v ∧ w.drewN n = w') : Calls P f args (w.drewN n) fun e w'' => e = .returned v ∧ ∃ m, w'' = w.drewN m :=
 h.mono fun _ _ ⟨he, hm⟩ => ⟨he, n, hm.symm⟩
theorem quiet_bool {P : Program} {f : FuncId} {args : Array Value} {w : World} {n : Nat} {b b' : Bool}
  (h : Calls P f args (w.drewN n) fun e w' => e = .returned (.bool b) ∧ w.drewN n = w') (e : b = b') : Calls P f args (w.drewN n) fun e w'' => e = .returned (.bool b') ∧ ∃ m, w'' = w.drewN m := by
 subst e; exact quiet_same' h
def ascAt (cs : List Int) (lo hi : Int) (i : Nat) : Bool := inB (nth cs i) lo hi && (decide (i = 0) || decide (nth cs (i - 1) < nth cs i))
def ascTo (cs : List Int) (lo hi : Int) (k : Nat) : Prop := ∀ i, i < k → ascAt cs lo hi i = true
def ascB (cs : List Int) (q : Nat) (lo hi : Int) : Bool := (List.range q).all (ascAt cs lo hi)
theorem ascTo_0 (cs : List Int) (lo hi : Int) : ascTo cs lo hi 0 := fun i hi => absurd hi (by omega)
theorem ascTo_step {cs : List Int} {lo hi : Int} {k : Nat} (h : ascTo cs lo hi k) (e : ascAt cs lo hi k = true) : ascTo cs lo hi (k + 1) := by
 intro i hi
 by_cases hik : i = k
 ·subst hik; exact e
 ·exact h i (by omega)
theorem ascAt_1 {cs : List Int} {lo hi : Int} {k : Nat} (h : inB (nth cs k) lo hi = false) : ascAt cs lo hi k = false := by simp [ascAt, h]
theorem ascAt_2 {cs : List Int} {lo hi : Int} {k : Nat} (hk : 0 < k) (h : ¬ nth cs (k - 1) < nth cs k) : ascAt cs lo hi k = false := by
 simp [ascAt, h]; intro _; omega
theorem ascAt_3 {cs : List Int} {lo hi : Int} (h : inB (nth cs 0) lo hi = true) : ascAt cs lo hi 0 = true := by simp [ascAt, h]
theorem ascAt_4 {cs : List Int} {lo hi : Int} {k : Nat} (h : inB (nth cs k) lo hi = true) (h' : nth cs (k - 1) < nth cs k) : ascAt cs lo hi k = true := by simp [ascAt, h, h']
theorem ascB_f {cs : List Int} {q : Nat} {lo hi : Int} {k : Nat} (hk : k < q) (h : ascAt cs lo hi k = false) : ascB cs q lo hi = false := by
 rw [ascB, List.all_eq_false]
 exact ⟨k, by simpa using hk, by simp [h]⟩
theorem ascB_t {cs : List Int} {q : Nat} {lo hi : Int} (h : ascTo cs lo hi q) : ascB cs q lo hi = true := by
 rw [ascB, List.all_eq_true]
 exact fun i hi => h i (by simpa using hi)
def carriedB (zs : List Int) (n : Nat) (cs : List Int) (q : Nat) : Bool := archB zs n && ascB cs q 0 ((n : Int) - 2)
theorem carriedB_1 {zs : List Int} {n : Nat} (cs : List Int) (q : Nat) (h : archB zs n = false) : carriedB zs n cs q = false := by simp [carriedB, h]
theorem carriedB_2 (zs : List Int) {n : Nat} {cs : List Int} {q : Nat} (h : ascB cs q 0 ((n : Int) - 2) = false) : carriedB zs n cs q = false := by simp [carriedB, h]
theorem carriedB_3 {zs : List Int} {n : Nat} {cs : List Int} {q : Nat} (h : ascB cs q 0 ((n : Int) - 2) = true) : carriedB zs n cs q = archB zs n := by simp [carriedB, h]
set_option maxHeartbeats 800000 in
theorem ascending_any (lo hi : Int) (B : Option Addr) (q d : Nat) (cs : List Int) (w : World) (hI : IntsAt w w.heap.size B q cs) (hq : q ≤ 1048576) :
  Calls Tryzx.prog 95 #[.slice B q d, .int .i64 lo, .int .i64 hi] w fun e w' => e = .returned (.bool (ascB cs q lo hi)) ∧ w = w' := by
 have HI := Lib.hid hI
 clear hI
 go_enter Tryzx.func95, Tryz.ntmps95
 go_wp2
 go_loop [11] (fun i => ∃ k : Nat, k ≤ q ∧ i = .int .i64 k ∧ ascTo cs lo hi k) (fun i => q - (intOf i).toNat)
 case atStart => exact ⟨0, Nat.zero_le _, rfl, ascTo_0 _ _ _⟩
 case round =>
  obtain ⟨k, hk, rfl, hag⟩ := hrel
  by_cases hlt : k < q
  ·obtain ⟨b, off, rfl, hbB, hc⟩ := HI.out.2 (by omega)
   have x0 := hc k hlt
   cases hp : inB (nth cs k) lo hi
   ·have HF := Lib.hid (ascB_f hlt (ascAt_1 hp))
    clear hc
    go_wp2_with (go_at_call 112; refine (within_any _ _ _ _).mono ?_; rw [hp]; rintro e w' ⟨rfl, rfl⟩)
    go_ret
    exact ⟨ret_bool HF.out.symm, rfl⟩
   ·by_cases hk0 : k = 0
    ·subst hk0
     have x00 : w.cell? ⟨b, off, none⟩ = some (.int .i64 (nth cs 0)) := x0
     have HS := Lib.hid (ascTo_step hag (ascAt_3 hp))
     clear hc
     go_wp2_with (go_at_call 112; refine (within_any _ _ _ _).mono ?_; rw [hp]; rintro e w' ⟨rfl, rfl⟩)
     go_round
     case rel => exact ⟨1, by omega, by go_num, HS.out⟩
     case measure => first | (simp [intOf]; done) | (simp [intOf]; omega)
    ·obtain ⟨m, rfl⟩ : ∃ m, k = m + 1 := ⟨k - 1, by omega⟩
     have x1 := hc m (by omega)
     have i1 : (0 : Int) < ((m + 1 : Nat) : Int) := by omega
     have e1 : ((m + 1 : Nat) : Int) - 1 = (m : Int) := by omega
     by_cases hlt2 : nth cs m < nth cs (m + 1)
     ·have HS := Lib.hid (ascTo_step hag (ascAt_4 hp hlt2))
      have hge : ¬ nth cs (m + 1) ≤ nth cs m := by omega
      clear hc hag hk0
      go_wp2_with (go_at_call 112; refine (within_any _ _ _ _).mono ?_; rw [hp]; rintro e w' ⟨rfl, rfl⟩)
      go_round
      case rel => exact ⟨m + 1 + 1, by omega, by go_num, HS.out⟩
      case measure => first | (simp [intOf]; done) | (simp [intOf]; omega)
     ·have HF := Lib.hid (ascB_f hlt (ascAt_2 (lo := lo) (hi := hi) (by omega) hlt2))
      have hge : nth cs (m + 1) ≤ nth cs m := by omega
      clear hc hag hk0
      go_wp2_with (go_at_call 112; refine (within_any _ _ _ _).mono ?_; rw [hp]; rintro e w' ⟨rfl, rfl⟩)
      go_ret
      exact ⟨ret_bool HF.out.symm, rfl⟩
  ·obtain rfl : k = q := by omega
   have HF := Lib.hid (ascB_t hag)
   clear hag
   go_wp2
   go_ret
   exact ⟨ret_bool HF.out.symm, rfl⟩
set_option maxHeartbeats 800000 in
theorem iCarriedOk_any (A : Option Addr) (n c : Nat) (zs : List Int) (B : Option Addr) (q d : Nat) (cs : List Int) (w : World) (h : RecsAt w w.heap.size 4 A n zs) (hn : n ≤ 1048576) (hi : IntsAt w w.heap.size B q cs) (hq : q ≤ 1048576) :
  Calls Tryzx.prog 43 #[.agg #[.slice A n c], .slice B q d] w fun e w' => e = .returned (.bool (carriedB zs n cs q)) ∧ Below w.heap.size w w' := by
 have HA := Lib.hid ((Below.refl w.heap.size w).alloc (Nat.le_refl _) (.cells #[.slice A n c] 26))
 have h1 : RecsAt (w.alloc (.cells #[.slice A n c] 26)) (w.alloc (.cells #[.slice A n c] 26)).heap.size 4 A n zs := (h.alloc (Nat.le_refl _) _).mono (by simp)
 have i1 : IntsAt (w.alloc (.cells #[.slice A n c] 26)) (w.alloc (.cells #[.slice A n c] 26)).heap.size B q cs := (hi.alloc (Nat.le_refl _) _).mono (by simp)
 clear h hi
 cases hA : archB zs n
 ·have HF := Lib.hid (carriedB_1 cs q hA)
  go_enter Tryzx.func43, Tryz.ntmps43
  go_wp2_with fail
  refine (iArchOk_any _ _ _ zs _ h1 hn).mono ?_
  rw [hA]
  rintro e w1 ⟨rfl, hb1⟩
  have HB1 := Lib.hid (HA.out.trans (hb1.mono (by simp)))
  go_wp2
  go_ret
  exact ⟨ret_bool HF.out.symm, HB1.out⟩
 ·have HF := Lib.hid (show carriedB zs n cs q = ascB cs q 0 ((n : Int) - 2) by simp [carriedB, hA])
  go_enter Tryzx.func43, Tryz.ntmps43
  go_wp2_with fail
  refine (iArchOk_any _ _ _ zs _ h1 hn).mono ?_
  rw [hA]
  rintro e w1 ⟨rfl, hb1⟩
  have HB1 := Lib.hid (HA.out.trans (hb1.mono (by simp)))
  have hbox1 := (hb1.cell (p := ⟨w.heap.size, 0, none⟩) (by simp)).trans (cell_new0 _ _ _)
  have i2 := (i1.below hb1).mono hb1.size
  clear hb1
  go_wp2_with fail
  refine (ascending_any _ _ _ _ _ cs _ i2 hq).mono ?_
  rintro e w2 ⟨rfl, rfl⟩
  go_wp2
  go_ret
  exact ⟨ret_bool HF.out.symm, HB1.out⟩
set_option maxHeartbeats 1600000 in
theorem sCarriedOk_any (A : Option Addr) (n c : Nat) (zs : List Int) (B : Option Addr) (q d : Nat) (cs : List Int) (w : World) (h : RecsAt w w.heap.size 4 A n zs) (hn : n ≤ 1048576) (hi : IntsAt w w.heap.size B q cs) (hq : q ≤ 1048576) :
  Calls Tryzx.prog 87 #[.agg #[.slice A n c], .slice B q d] w fun e w' => e = .returned (.bool (carriedB zs n cs q)) ∧ Below w.heap.size w w' := by
 have HA := Lib.hid ((Below.refl w.heap.size w).alloc (Nat.le_refl _) (.cells #[.slice A n c] 26))
 have H := Lib.hid h
 have HI := Lib.hid hi
 clear h hi
 go_enter Tryzx.func87, Tryz.ntmps87
 go_wp2
 go_loopw [5] (fun i wr => ∃ k : Nat, k ≤ q ∧ i = .int .i64 k ∧ ascTo cs 0 ((n : Int) - 2) k ∧ wr.cell? ⟨w.heap.size, 0, none⟩ = some (.slice A n c) ∧ Below w.heap.size w wr) (fun i _ => q - (intOf i).toNat)
 case atStart => exact ⟨0, Nat.zero_le _, rfl, ascTo_0 _ _ _, cell_new0 _ _ _, HA.out⟩
 case round =>
  clear HA
  obtain ⟨k, hk, rfl, hag, hbox, hb⟩ := hrel
  have HB := Lib.hid hb
  by_cases hlt : k < q
  ·obtain ⟨b, off, rfl, hbB, hc⟩ := HI.out.2 (by omega)
   have x0 : wr.cell? ⟨b, off + k, none⟩ = some (.int .i64 (nth cs k)) := (hb.cell (by exact hbB)).trans (hc k hlt)
   have HBX := Lib.hid hbox
   have ik0 : (0 : Int) ≤ (k : Int) := by omega
   have ik1 : (k : Int) < (q : Int) := by omega
   have hw2 : IntKind.i64.wrap ((n : Int) - 2) = (n : Int) - 2 := IntWalk.i64_in _ (by omega)
   cases hp : inB (nth cs k) 0 ((n : Int) - 2)
   ·have HF := Lib.hid (carriedB_2 zs (ascB_f hlt (ascAt_1 hp)))
    clear hc hb hag
    go_wp2
    go_quiet ((go_at_call 126; exact quiet_bool (l01In_any _ _ _ _) hp))
    go_wp2
    go_ret
    exact ⟨ret_bool HF.out.symm, below_drewN HB.out _⟩
   ·by_cases hk0 : k = 0
    ·subst hk0
     have x00 : wr.cell? ⟨b, off, none⟩ = some (.int .i64 (nth cs 0)) := x0
     have HS := Lib.hid (ascTo_step hag (ascAt_3 hp))
     have hd : decide ((0 : Int) < ((0 : Nat) : Int)) = false := by simp
     clear hc hb hag
     go_wp2
     go_quiet ((go_at_call 126; exact quiet_bool (l01In_any _ _ _ _) hp))
     go_wp2
     go_roundw
     case rel => exact ⟨1, by omega, by go_num, HS.out, HBX.out, below_drewN HB.out _⟩
     case measure => first | (simp [intOf]; done) | (simp [intOf]; omega)
    ·obtain ⟨m, rfl⟩ : ∃ m, k = m + 1 := ⟨k - 1, by omega⟩
     have x1 : wr.cell? ⟨b, off + m, none⟩ = some (.int .i64 (nth cs m)) := (hb.cell (by exact hbB)).trans (hc m (by omega))
     have i1 : (0 : Int) < ((m + 1 : Nat) : Int) := by omega
     have e0 : (((m + 1 : Nat) : Int)).toNat = m + 1 := by omega
     by_cases hlt2 : nth cs m < nth cs (m + 1)
     ·have HS := Lib.hid (ascTo_step hag (ascAt_4 hp hlt2))
      have hge : decide (nth cs (m + 1) ≤ nth cs m) = false := by simp; omega
      clear hc hb hag hk0
      have e2 : IntKind.i64.wrap (((m + 1 : Nat) : Int) - 1) = (m : Int) := by rw [IntWalk.i64_in _ (by omega)]; omega
      go_wp2
      go_quiet ((go_at_call 126; exact quiet_bool (l01In_any _ _ _ _) hp))
      go_wp2
      go_roundw
      case rel => exact ⟨m + 1 + 1, by omega, by go_num, HS.out, HBX.out, below_drewN HB.out _⟩
      case measure => first | (simp [intOf]; done) | (simp [intOf]; omega)
     ·have HF := Lib.hid (carriedB_2 zs (ascB_f hlt (ascAt_2 (lo := 0) (hi := (n : Int) - 2) (by omega) hlt2)))
      have hge : decide (nth cs (m + 1) ≤ nth cs m) = true := by simp; omega
      clear hc hb hag hk0
      have e2 : IntKind.i64.wrap (((m + 1 : Nat) : Int) - 1) = (m : Int) := by rw [IntWalk.i64_in _ (by omega)]; omega
      go_wp2
      go_quiet ((go_at_call 126; exact quiet_bool (l01In_any _ _ _ _) hp))
      go_wp2
      go_ret
      exact ⟨ret_bool HF.out.symm, below_drewN HB.out _⟩
  ·obtain rfl : k = q := by omega
   have HF := Lib.hid (carriedB_3 (zs := zs) (ascB_t hag))
   have h1 := (H.out.below hb).mono hb.size
   clear hb hag
   go_wp2_with fail
   refine (sArchOk_any _ _ _ zs _ h1 hn).mono ?_
   rintro e w1 ⟨rfl, hb1⟩
   have HB1 := Lib.hid (HB.out.trans (hb1.mono HB.out.size))
   go_wp2
   go_ret
   exact ⟨ret_bool HF.out.symm, HB1.out⟩
end X
namespace X
open Go.RowKit
def isC (cs : List Int) : Nat → Nat → Bool
 | 0, _ => false
 | i + 1, j => isC cs i j || decide (nth cs i = (j : Int))
theorem isC_iff (cs : List Int) (j : Nat) : ∀ i, isC cs i j = true ↔ ∃ t, t < i ∧ nth cs t = (j : Int)
 | 0 => by simp [isC]
 | i + 1 => by
  simp only [isC, Bool.or_eq_true, decide_eq_true_eq, isC_iff cs j i]
  constructor
  ·rintro (⟨t, h1, h2⟩ | h)
   ·exact ⟨t, by omega, h2⟩
   ·exact ⟨i, by omega, h⟩
  ·rintro ⟨t, h1, h2⟩
   by_cases e : t = i
   ·subst e; exact .inr h2
   ·exact .inl ⟨t, by omega, h2⟩
theorem isC_f {cs : List Int} {i j : Nat} (h : ∀ t, t < i → nth cs t ≠ (j : Int)) : isC cs i j = false := by
 cases e : isC cs i j
 ·rfl
 ·obtain ⟨t, h1, h2⟩ := (isC_iff cs j i).1 e
  exact absurd h2 (h t h1)
def stgW (zs cs : List Int) (q j : Nat) : Int := if isC cs q j = true then 0 else swt zs j
def stgM (zs cs : List Int) (q j : Nat) : Int := if isC cs q j = true then 0 else smt zs j
theorem stg_bd (zs cs : List Int) (q j : Nat) : (-129600 ≤ stgW zs cs q j ∧ stgW zs cs q j ≤ 129600) ∧ (-5184000 ≤ stgM zs cs q j ∧ stgM zs cs q j ≤ 5184000) := by
 have h1 := swt_bd zs j
 have h2 := smt_bd zs j
 unfold stgW stgM
 split <;> omega
def stgL (zs cs : List Int) (q : Nat) : Nat → List Int
 | 0 => []
 | k + 1 => stgL zs cs q k ++ [stgW zs cs q k, stgM zs cs q k]
theorem stgL_len (zs cs : List Int) (q : Nat) : ∀ k, (stgL zs cs q k).length = k * 2
 | 0 => rfl
 | k + 1 => by simp [stgL, stgL_len zs cs q k]; omega
theorem stgL_nth (zs cs : List Int) (q : Nat) : ∀ {m k : Nat}, k < m → nth (stgL zs cs q m) (k * 2) = stgW zs cs q k ∧ nth (stgL zs cs q m) (k * 2 + 1) = stgM zs cs q k
 | 0, k, h => absurd h (by omega)
 | m + 1, k, h => by
  have hl := stgL_len zs cs q m
  simp only [stgL]
  by_cases e : k = m
  ·subst e
   exact ⟨nthA_r 0 (by omega), nthA_r 1 (by omega)⟩
  ·rw [nthA_l (by omega), nthA_l (by omega)]
   exact stgL_nth zs cs q (by omega)
theorem sumStg_bd (zs cs : List Int) (q m : Nat) : ∀ k : Nat, (-(129600 * (k : Int)) ≤ sumW (stgL zs cs q m) k ∧ sumW (stgL zs cs q m) k ≤ 129600 * (k : Int)) ∧ (-(5184000 * (k : Int)) ≤ sumM (stgL zs cs q m) k ∧ sumM (stgL zs cs q m) k ≤ 5184000 * (k : Int))
 | 0 => by simp [sumW, sumM]
 | k + 1 => by
  have ih := sumStg_bd zs cs q m k
  have hb : (-129600 ≤ nth (stgL zs cs q m) (k * 2) ∧ nth (stgL zs cs q m) (k * 2) ≤ 129600) ∧ (-5184000 ≤ nth (stgL zs cs q m) (k * 2 + 1) ∧ nth (stgL zs cs q m) (k * 2 + 1) ≤ 5184000) := by
   by_cases h : k < m
   ·rw [(stgL_nth zs cs q h).1, (stgL_nth zs cs q h).2]; exact stg_bd zs cs q k
   ·have hl := stgL_len zs cs q m
    have h1 : nth (stgL zs cs q m) (k * 2) = 0 := by simp [nth, List.getD, List.getElem?_eq_none (show (stgL zs cs q m).length ≤ k * 2 by omega)]
    have h2 : nth (stgL zs cs q m) (k * 2 + 1) = 0 := by simp [nth, List.getD, List.getElem?_eq_none (show (stgL zs cs q m).length ≤ k * 2 + 1 by omega)]
    rw [h1, h2]; omega
  simp only [sumW, sumM]
  omega
theorem wmok_stg {zs : List Int} {n : Nat} (cs : List Int) (q m : Nat) (hA : archB zs n = true) : WMok (sumW (stgL zs cs q m)) (sumM (stgL zs cs q m)) n := by
 have hn := (archB_out hA).1
 intro k hk
 have h := sumStg_bd zs cs q m k
 omega
theorem stg_step {zs cs : List Int} {q n k : Nat} (hn : 0 < n) (hk : k < n) :
  sumW (stgL zs cs q (n - 1)) (k + 1) = sumW (stgL zs cs q (n - 1)) k + (if isC cs q k = true then 0 else if k + 1 < n then swt zs k else 0) ∧
  sumM (stgL zs cs q (n - 1)) (k + 1) = sumM (stgL zs cs q (n - 1)) k + (if isC cs q k = true then 0 else if k + 1 < n then smt zs k else 0) := by
 simp only [sumW, sumM]
 by_cases h : k + 1 < n
 ·rw [(stgL_nth zs cs q (show k < n - 1 by omega)).1, (stgL_nth zs cs q (show k < n - 1 by omega)).2]
  simp only [stgW, stgM, h, if_true]
  exact ⟨trivial, trivial⟩
 ·have hl := stgL_len zs cs q (n - 1)
  have h1 : nth (stgL zs cs q (n - 1)) (k * 2) = 0 := by simp [nth, List.getD, List.getElem?_eq_none (show (stgL zs cs q (n - 1)).length ≤ k * 2 by omega)]
  have h2 : nth (stgL zs cs q (n - 1)) (k * 2 + 1) = 0 := by simp [nth, List.getD, List.getElem?_eq_none (show (stgL zs cs q (n - 1)).length ≤ k * 2 + 1 by omega)]
  rw [h1, h2]
  simp [h]
def stgN (zs : List Int) (n : Nat) (cs : List Int) (q : Nat) : Nat := if carriedB zs n cs q = true then n * 2 + 1 else 0
def stgR (zs : List Int) (n : Nat) (cs : List Int) (q : Nat) : List Int := if carriedB zs n cs q = true then rowsL zs (sumW (stgL zs cs q (n - 1))) (sumM (stgL zs cs q (n - 1))) n else []
section
variable {zs : List Int} {n : Nat} {cs : List Int} {q : Nat}
theorem stg_t (h : carriedB zs n cs q = true) : stgN zs n cs q = n * 2 + 1 ∧ stgR zs n cs q = rowsL zs (sumW (stgL zs cs q (n - 1))) (sumM (stgL zs cs q (n - 1))) n := by simp [stgN, stgR, h]
theorem stg_f (h : carriedB zs n cs q = false) : stgN zs n cs q = 0 ∧ stgR zs n cs q = [] := by simp [stgN, stgR, h]
theorem carriedB_out (h : carriedB zs n cs q = true) : archB zs n = true ∧ ascTo cs 0 ((n : Int) - 2) q := by
 simp only [carriedB, Bool.and_eq_true, ascB, List.all_eq_true] at h
 exact ⟨h.1, fun i hi => h.2 i (by simpa using hi)⟩
theorem asc_in {lo hi : Int} (h : ascTo cs lo hi q) {i : Nat} (hi' : i < q) : lo ≤ nth cs i ∧ nth cs i ≤ hi := by
 have := h i hi'
 simp only [ascAt, Bool.and_eq_true] at this
 exact inB_iff.1 this.1
theorem asc_lt {lo hi : Int} (h : ascTo cs lo hi q) : ∀ {i j : Nat}, i < j → j < q → nth cs i < nth cs j
 | i, 0, hij, _ => absurd hij (by omega)
 | i, j + 1, hij, hj => by
  have h1 := h (j + 1) hj
  simp only [ascAt, Bool.and_eq_true, Bool.or_eq_true, decide_eq_true_eq, Nat.add_sub_cancel] at h1
  have h2 : nth cs j < nth cs (j + 1) := by
   rcases h1.2 with e | e
   ·omega
   ·exact e
  by_cases e : i = j
  ·subst e; exact h2
  ·have := asc_lt h (i := i) (j := j) (by omega) (by omega)
   omega
structure AtOk (cs : List Int) (q k t : Nat) : Prop where
 le : t ≤ q
 lo : ∀ i, i < t → nth cs i < (k : Int)
 hi : ∀ i, t ≤ i → i < q → (k : Int) ≤ nth cs i
theorem atOk_0 (h : ascTo cs 0 ((n : Int) - 2) q) : AtOk cs q 0 0 := ⟨Nat.zero_le _, fun i hi => absurd hi (by omega), fun i _ hi => (asc_in h hi).1⟩
theorem atOk_t {k t : Nat} (ha : ascTo cs 0 ((n : Int) - 2) q) (h : AtOk cs q k t) (ht : t < q) (e : nth cs t = (k : Int)) : isC cs q k = true ∧ AtOk cs q (k + 1) (t + 1) := by
 refine ⟨(isC_iff cs k q).2 ⟨t, ht, e⟩, by omega, fun i hi => ?_, fun i hi hq => ?_⟩
 ·by_cases he : i = t
  ·subst he; omega
  ·have := h.lo i (by omega); omega
 ·have := asc_lt ha (i := t) (j := i) (by omega) hq
  omega
theorem atOk_f {k t : Nat} (ha : ascTo cs 0 ((n : Int) - 2) q) (h : AtOk cs q k t) (e : ¬ (t < q ∧ nth cs t = (k : Int))) : isC cs q k = false ∧ AtOk cs q (k + 1) t := by
 have key : ∀ i, t ≤ i → i < q → (k : Int) < nth cs i := by
  intro i hi hq
  have h1 := h.hi i hi hq
  by_cases he : i = t
  ·subst he
   by_cases e2 : nth cs i = (k : Int)
   ·exact absurd ⟨hq, e2⟩ e
   ·omega
  ·have h2 := asc_lt ha (i := t) (j := i) (by omega) hq
   have h3 := h.hi t (Nat.le_refl _) (by omega)
   omega
 refine ⟨isC_f fun i hi => ?_, h.le, fun i hi => by have := h.lo i hi; omega, fun i hi hq => by have := key i hi hq; omega⟩
 by_cases he : i < t
 ·have := h.lo i he; omega
 ·have := key i (by omega) hi; omega
end
section
open Go.RowKit Go.Maps
def keyL (m : Int) : Lit := .int .i64 m
theorem keyL_ne {a b : Int} (h : a ≠ b) : keyL a ≠ keyL b := by
 intro e
 exact h (by simpa [keyL] using e)
def prD (a b : Int) : DataW Unit := .agg [.lit (.int .i64 a), .lit (.int .i64 b)]
def prR (v : Value) : Option (DataW Unit × List MemPlace) :=
 match v with
 | .agg cs => match cs.toList with
  | [.int .i64 a, .int .i64 b] => some (prD a b, [])
  | _ => none
 | _ => none
theorem prR_mk (a b : Int) : prR (.agg #[.int .i64 a, .int .i64 b]) = some (prD a b, []) := rfl
theorem prR_inj {v : Value} {ps : List MemPlace} {a b : Int} (h : prR v = some (prD a b, ps)) : v = .agg #[.int .i64 a, .int .i64 b] := by
 unfold prR at h
 split at h
 ·rename_i cs
  split at h
  ·rename_i a' b' e
   simp [prD] at h
   obtain ⟨⟨rfl, rfl⟩, _⟩ := h
   congr 1
   exact Array.ext' (by simpa using e)
  ·cases h
 ·cases h
def MapIs (D : DataW Unit) (F G : Nat → Int) : Prop := ∀ j : Nat, D.atKey (keyL (j : Int)) (prD 0 0) = prD (F j) (G j)
def f1W (zs : List Int) (k j : Nat) : Int := if j < k then swt zs j else 0
def f1M (zs : List Int) (k j : Nat) : Int := if j < k then smt zs j else 0
def f2W (zs cs : List Int) (m i j : Nat) : Int := if isC cs i j = true then 0 else f1W zs m j
def f2M (zs cs : List Int) (m i j : Nat) : Int := if isC cs i j = true then 0 else f1M zs m j
theorem mapIs_0 (zs : List Int) : MapIs (.map []) (f1W zs 0) (f1M zs 0) := fun j => by simp [f1W, f1M, DataW.atKey]
theorem mapIs_put {D : DataW Unit} {zs : List Int} {k : Nat} (hD : IsMap D) (h : MapIs D (f1W zs k) (f1M zs k)) : MapIs (D.put (keyL (k : Int)) (prD (swt zs k) (smt zs k))) (f1W zs (k + 1)) (f1M zs (k + 1)) := by
 intro j
 by_cases e : j = k
 ·subst e
  rw [atKey_put_same hD (by exact trivial)]
  simp [f1W, f1M]
 ·rw [atKey_put_other (keyL_ne (by omega)), h j]
  unfold f1W f1M
  by_cases h1 : j < k
  ·rw [if_pos h1, if_pos h1, if_pos (show j < k + 1 by omega), if_pos (show j < k + 1 by omega)]
  ·rw [if_neg h1, if_neg h1, if_neg (show ¬ j < k + 1 by omega), if_neg (show ¬ j < k + 1 by omega)]
theorem mapIs_del {D : DataW Unit} {zs cs : List Int} {m i : Nat} (h : MapIs D (f2W zs cs m i) (f2M zs cs m i)) : MapIs (D.del (keyL (nth cs i))) (f2W zs cs m (i + 1)) (f2M zs cs m (i + 1)) := by
 intro j
 by_cases e : nth cs i = (j : Int)
 ·rw [e, atKey_del_same]
  simp [f2W, f2M, isC, e]
 ·rw [atKey_del_other (keyL_ne (fun h => e h.symm)), h j]
  simp [f2W, f2M, isC, e]
theorem mapIs_12 {D : DataW Unit} {zs : List Int} (cs : List Int) {m : Nat} (h : MapIs D (f1W zs m) (f1M zs m)) : MapIs D (f2W zs cs m 0) (f2M zs cs m 0) := fun j => by
 rw [h j]
 simp [f2W, f2M, isC]
theorem f2_stg {zs cs : List Int} {m q j : Nat} (hj : j < m) : f2W zs cs m q j = stgW zs cs q j ∧ f2M zs cs m q j = stgM zs cs q j := by
 simp [f2W, f2M, f1W, f1M, stgW, stgM, hj]
theorem stgL_fill {zs cs : List Int} {q m k : Nat} (hk : k < m) : (fun j => if j = k * 2 + 1 then Value.int .i64 (stgM zs cs q k) else if j = k * 2 then Value.int .i64 (stgW zs cs q k) else fill (stgL zs cs q m) (k * 2) j) = fill (stgL zs cs q m) ((k + 1) * 2) := by
 funext j
 have h := stgL_nth zs cs q hk
 have h2 := fill_step2 (stgL zs cs q m) (k * 2) j
 rw [h.1, h.2] at h2
 rw [h2, show (k + 1) * 2 = k * 2 + 2 by omega]
theorem wf_inM {x : Int} (h : -9223372036854775808 ≤ x ∧ x ≤ 9223372036854775807) : (Lit.int .i64 x).wf = true := by
 simp [Lit.wf, IntKind.min, IntKind.max, IntKind.signed, IntKind.bits]
 omega
end
end X
end Go.Proofs.YtbpnbhemdbgmjaaGreat
