/-
  Texts that the law stands on, part 1.
-/
import Derived.Test.YtbpnbhemdbgmjaaGreatM1
import Derived.Test.YtbpnbhemdbgmjaaGreatM11
import Derived.Test.YtbpnbhemdbgmjaaGreatM18
import Derived.Test.YtbpnbhemdbgmjaaGreatM21
import Derived.Test.YtbpnbhemdbgmjaaGreatM25
import Derived.Test.YtbpnbhemdbgmjaaGreatM27
import Derived.WalkKit
import Derived.ProofKit
import Derived.OpenShut
import Derived.SizedLaws
import Derived.ChangeSame
import Derived.Lib.Hide
import Derived.Deep.OwnRows
import Derived.Deep.Draws
import Derived.OwnWalk
import Derived.ArgAppend
import Derived.Test.YtbpnbhemdbgmjaaGreatProg
import Derived.KernelRfl
import Derived.Outline
import Derived.Deep.QuietTactic
import Derived.BigQuiet
import Derived.Deep.RegionLaw
import Derived.Lib.SliceRun
section
namespace Go.Proofs.YtbpnbhemdbgmjaaGreat
open Go.ChangeShapes Go.WideShapes Go.ChangeAt Go.RowKit
section
variable {H : Type} {enc : TypeId × Value → H} {P : Program}
end
section
variable {w w' : World} {B B' n : Nat} {A : Option Addr} {zs : List Int}
end
theorem list_ext_nth {xs ys : List Int} (hl : xs.length = ys.length) (h : ∀ k, k < xs.length → nth xs k = nth ys k) : xs = ys := by
  refine List.ext_getElem hl fun k h1 h2 => ?_
  have := h k h1
  rwa [nth_get _ _ h1, nth_get _ _ h2] at this
theorem open_ints_arg {H : Type} {enc : TypeId × Value → H} {P : Program} {W : World} {base : Nat} {t e : TypeId} {v : Value} {d : DataW H} {p : List MemPlace} (ht : P.underlying t = some (.slice e)) (he : P.underlying e = some (.int .i64)) (hc : P.cellsOf e = 1)
    (hv : Value.okWide P W .any base t v) (h : DataW.Trod enc P W 0 (fun _ => true) true t v d p) (hlt : ∀ x ∈ p, x.block < W.heap.size) :
    ∃ (A : Option Addr) (n c : Nat) (zs : List Int), v = .slice A n c ∧ IntsAt W W.heap.size A n zs ∧ n ≤ maxLen ∧ n ≤ c ∧ (∀ k, -9223372036854775808 ≤ nth zs k ∧ nth zs k ≤ 9223372036854775807) := by
  obtain ⟨A, n, c, rfl⟩ := okWide_slice ht hv
  obtain ⟨fuel, hf⟩ := h
  rcases open_ints ht he hc hf with ⟨h0, _⟩ | ⟨a, len, cap, ys, h1, _, hl, hm, hy, hx, hcell, hwf⟩
  · simp [Value.cells] at h0
    obtain ⟨rfl, rfl, rfl⟩ := h0
    exact ⟨_, _, _, [], rfl, IntsAt.nil, by simp [maxLen], Nat.le_refl _, fun k => by simp [nth]⟩
  · simp [Value.cells] at h1
    obtain ⟨rfl, rfl, rfl⟩ := h1
    simp only [if_true] at hy
    have hw : ∀ k, -9223372036854775808 ≤ nth (ys.take n) k ∧ nth (ys.take n) k ≤ 9223372036854775807 := by
      intro k
      by_cases hk : k < (ys.take n).length
      · rw [nth_get _ _ hk]
        exact i64_bounds (hwf _ (List.mem_of_mem_take (List.getElem_mem hk)))
      · simp [nth, List.getD, List.getElem?_eq_none (Nat.le_of_not_lt hk)]
    refine ⟨_, _, _, ys.take n, rfl, ⟨by simp; omega, fun hn => ?_⟩, by omega, hl, hw⟩
    obtain ⟨b, off, rfl, hc'⟩ := ints_at hcell (by omega)
    refine ⟨b, off, rfl, ?_, fun k hk => ?_⟩
    · have hpx : p = MemPlace.row ⟨b, off, none⟩ ys.length := by simpa using congrArg Prod.snd hx
      have : MemPlace.cell b off ∈ p := by
        rw [hpx]
        simp [MemPlace.row]
        omega
      exact hlt _ this
    · rw [hc' k (by omega)]
      have : nth (ys.take n) k = ys.getD k 0 := by
        simp [nth, List.getD, hk]
      rw [this]
end Go.Proofs.YtbpnbhemdbgmjaaGreat
end
section
namespace Go.Proofs.YtbpnbhemdbgmjaaGreat
open Go.RowKit
section
variable {w w' : World} {base : Nat} {E : TypeId} {g cap : Nat} {v : Value} {xs : List Int}
theorem OwnI.toV (h : OwnI w base E g cap xs) : OwnV w base E (.slice (some ⟨g, 0, none⟩) xs.length cap) xs := h
theorem OwnI.intsAt (h : OwnI w base E g cap xs) : IntsAt w w.heap.size (some ⟨g, 0, none⟩) xs.length xs :=
  ⟨rfl, fun _ => ⟨g, 0, rfl, h.blk.2, fun k hk => by rw [Nat.zero_add]; exact h.cell hk⟩⟩
theorem OwnV.intsAt {A : Option Addr} {n c : Nat} (h : OwnV w base E (.slice A n c) xs) : IntsAt w w.heap.size A n xs := by
  rcases h.2 with ⟨h1, h2⟩ | ⟨g, cap, cur, h1, hr⟩
  · simp at h1
    obtain ⟨rfl, rfl, rfl⟩ := h1
    have : xs = [] := List.eq_nil_of_length_eq_zero h2
    subst this
    exact IntsAt.nil
  · simp at h1
    obtain ⟨rfl, rfl, rfl⟩ := h1
    exact OwnI.intsAt h
end
theorem wpList_append_int {P : Program} (w : World) {ops : Array Oper} {rest : List Oper} {o : Oper} {a : Act} {Q : Exit → Act → World → Prop} (hgd : o.guard = none) (s x : Operand) (t : TypeId)
    (ho : o.op = .call { callee := .builtin .append, args := #[s, x], argTypes := #[t, t] })
    (base : Nat) (E : TypeId) (ht : P.underlying t = some (.slice E)) (hinfo : (P.info? E).map (fun i => (i.zero, i.size, i.bytes)) = some (some (.int .i64 0), 1, 8))
    (v : Value) (xs : List Int) (hs : a.eval s = v) (hown : OwnV w base E v xs) (g c : Nat) (z : Int) (hx : a.eval x = .slice (some ⟨g, 0, none⟩) 1 c)
    (hg : w.cell? ⟨g, 0, none⟩ = some (.int .i64 z)) (hlen : xs.length ≤ 1099511627776) (hbase : base ≤ w.heap.size)
    (h : ∀ g' cap' w', OwnI w' base E g' cap' (xs ++ [z]) → w.grownBy w' v.ownBlock → wpList P ops Q rest (a.put o.dst (.slice (some ⟨g', 0, none⟩) (xs.length + 1) cap')) w') : wpList P ops Q (o :: rest) a w := by
  obtain ⟨i0, hi0, hz0, hz1, hz2⟩ := info_parts hinfo
  refine wpList_append_own (P := P) w hgd s x t ho base E i0 (.int .i64 0) 1 8 ht hi0 hz0 hz1 hz2 rfl (by decide) v xs.length _ hs hown ⟨g, 0, none⟩ 1 c [.int .i64 z] hx rfl ?_ ?_ (by unfold maxLen; omega) (by omega) hbase ?_
  · intro j u hj
    match j, hj with
    | 0, hj => simp at hj; subst hj; simpa [Addr.add] using hg
  · intro u hu; simp at hu; subst hu; rfl
  · intro v' w' hown' hgr _
    have h' : OwnV w' base E v' (xs ++ [z]) := by
      unfold OwnV
      rw [List.length_append, List.map_append]
      exact hown'
    rcases h'.form with ⟨_, h2⟩ | ⟨g', cap', rfl, hi⟩
    · simp at h2
    · have e : (xs ++ [z]).length = xs.length + 1 := by simp
      rw [e] at *
      exact h g' cap' w' hi hgr
end Go.Proofs.YtbpnbhemdbgmjaaGreat
end
section
namespace Go.Proofs.Tryzx
set_option linter.unusedSimpArgs false
theorem func7 : prog.funcs[7]? = some Tryz.f7 := by kernel_rfl
theorem func37 : prog.funcs[37]? = some Tryz.f37 := by kernel_rfl
theorem func38 : prog.funcs[38]? = some Tryz.f38 := by kernel_rfl
theorem func50 : prog.funcs[50]? = some Tryz.f50 := by kernel_rfl
theorem func51 : prog.funcs[51]? = some Tryz.f51 := by kernel_rfl
theorem func100 : prog.funcs[100]? = some Tryz.f100 := by kernel_rfl
theorem func102 : prog.funcs[102]? = some Tryz.f102 := by kernel_rfl
theorem func103 : prog.funcs[103]? = some Tryz.f103 := by kernel_rfl
@[simp] theorem call7 (args : Array Value) (w : World) : Sem.run prog (callFunc 7 args) w = .ok (.enter 7 args) w := call_x 7 args w func7 (by kernel_rfl) (by kernel_rfl)
@[simp] theorem call37 (args : Array Value) (w : World) : Sem.run prog (callFunc 37 args) w = .ok (.enter 37 args) w := call_x 37 args w func37 (by kernel_rfl) (by kernel_rfl)
@[simp] theorem call38 (args : Array Value) (w : World) : Sem.run prog (callFunc 38 args) w = .ok (.enter 38 args) w := call_x 38 args w func38 (by kernel_rfl) (by kernel_rfl)
@[simp] theorem call50 (args : Array Value) (w : World) : Sem.run prog (callFunc 50 args) w = .ok (.enter 50 args) w := call_x 50 args w func50 (by kernel_rfl) (by kernel_rfl)
@[simp] theorem call51 (args : Array Value) (w : World) : Sem.run prog (callFunc 51 args) w = .ok (.enter 51 args) w := call_x 51 args w func51 (by kernel_rfl) (by kernel_rfl)
@[simp] theorem call100 (args : Array Value) (w : World) : Sem.run prog (callFunc 100 args) w = .ok (.enter 100 args) w := call_x 100 args w func100 (by kernel_rfl) (by kernel_rfl)
@[simp] theorem call102 (args : Array Value) (w : World) : Sem.run prog (callFunc 102 args) w = .ok (.enter 102 args) w := call_x 102 args w func102 (by kernel_rfl) (by kernel_rfl)
@[simp] theorem call103 (args : Array Value) (w : World) : Sem.run prog (callFunc 103 args) w = .ok (.enter 103 args) w := call_x 103 args w func103 (by kernel_rfl) (by kernel_rfl)
end Go.Proofs.Tryzx
end
section
namespace Go.Proofs.YtbpnbhemdbgmjaaGreat.X
open Go.RowKit
theorem infoInt : (Tryzx.prog.info? 3).map (fun i => (i.zero, i.size, i.bytes)) = some (some (.int .i64 0), 1, 8) := by kernel_rfl
def upto (zs : List Int) (k j : Nat) : Value := if j < k then .int .i64 (nth zs j) else .int .i64 0
theorem upto_at (zs : List Int) (k : Nat) : upto zs k k = .int .i64 0 := by simp [upto]
theorem upto_step (zs : List Int) (k j : Nat) : (if j = k then Value.int .i64 (nth zs k) else upto zs k j) = upto zs (k + 1) j := by
  unfold upto
  by_cases h : j = k
  · subst h; simp
  · by_cases h' : j < k
    · simp [h, h', show j < k + 1 by omega]
    · simp [h, h', show ¬ j < k + 1 by omega]
theorem upto_end (zs : List Int) (n j : Nat) (h : j < n) : upto zs n j = .int .i64 (nth zs j) := by simp [upto, h]
set_option maxHeartbeats 400000 in
theorem toIntS_any (A : Option Addr) (n c : Nat) (zs : List Int) (w : World) (h : IntsAt w w.heap.size A n zs) (hn : n ≤ 1048576) :
    Calls Tryzx.prog 32 #[.slice A n c] w fun e w' => e = .returned (.slice (some ⟨w.heap.size, 0, none⟩) n n) ∧ IntsAt w' w'.heap.size (some ⟨w.heap.size, 0, none⟩) n zs ∧ Below w.heap.size w w' := by
  have H := Lib.hid h
  clear h
  have hmk := run_make_row' (P := Tryzx.prog) 54 3 (.int .i64 0) 8 Tryzx.underlying54 infoInt rfl .i64 .i64 n (by omega) (by omega)
  go_enter Tryzx.func32, Tryz.ntmps32
  go_wp2
  clear hmk
  go_loopw [4] (fun i wr => ∃ k : Nat, k ≤ n ∧ i = .int .i64 k ∧ wr.rowIs w.heap.size 3 n (upto zs k) ∧ Below w.heap.size w wr) (fun i _ => n - (intOf i).toNat)
  case atStart => exact ⟨0, Nat.zero_le _, rfl, (World.rowIs_made _ _ _ _).congr (fun i _ => by simp [upto]), (Below.refl _ _).alloc (Nat.le_refl _) _⟩
  case round =>
    obtain ⟨k, hk, rfl, hrow, hb⟩ := hrel
    by_cases hlt : k < n
    · obtain ⟨b, off, rfl, hbB, hc⟩ := H.out.2 (by omega)
      have hcx : wr.cell? ⟨b, off + k, none⟩ = some (.int .i64 (nth zs k)) := (hb.cell (by exact hbB)).trans (hc k hlt)
      have hcy : wr.cell? ⟨w.heap.size, k, none⟩ = some (.int .i64 0) := by rw [hrow.cell hlt, upto_at]
      have hfy : wr.frozen? ⟨w.heap.size, k, none⟩ = false := hrow.frozen k
      have HR := Lib.hid hrow
      have HB := Lib.hid hb
      clear hrow hb hc
      go_wp2
      go_roundw
      case rel => exact ⟨k + 1, by omega, by go_num, (HR.out.set k _).congr (fun j _ => upto_step zs k j), HB.out.setCell (Nat.le_refl _) _⟩
      case measure => simp [intOf]; omega
    · have hkn : k = n := by omega
      subst hkn
      have HR := Lib.hid hrow
      have HB := Lib.hid hb
      clear hrow hb
      go_wp2
      go_ret
      exact ⟨rfl, intsAt_row HR.out H.out.1 (fun j hj => upto_end zs k j hj), HB.out⟩
def agree (xs ys : List Int) (k : Nat) : Prop := ∀ j, j < k → nth xs j = nth ys j
theorem agree_step {xs ys : List Int} {k : Nat} (h : agree xs ys k) (e : nth xs k = nth ys k) : agree xs ys (k + 1) := by
  intro j hj
  by_cases hjk : j = k
  · subst hjk; exact e
  · exact h j (by omega)
def eqL (xs ys : List Int) : Bool := decide (xs = ys)
theorem eqL_refl (xs : List Int) : eqL xs xs = true := by simp [eqL]
set_option maxHeartbeats 400000 in
theorem eqIntS_any (A A' : Option Addr) (n n' c c' : Nat) (xs ys : List Int) (w : World) (hx : IntsAt w w.heap.size A n xs) (hy : IntsAt w w.heap.size A' n' ys) (hn : n ≤ 1048576) (hn' : n' ≤ 1048576) :
    Calls Tryzx.prog 34 #[.slice A n c, .slice A' n' c'] w fun e w' => e = .returned (.bool (eqL xs ys)) ∧ Below w.heap.size w w' := by
  by_cases hl : n = n'
  · subst hl
    have HX := Lib.hid hx
    have HY := Lib.hid hy
    clear hx hy
    have ht : ((n : Int) != (n : Int)) = false := by simp
    go_enter Tryzx.func34, Tryz.ntmps34
    go_wp2
    go_loopw [5] (fun i wr => ∃ k : Nat, k ≤ n ∧ i = .int .i64 k ∧ agree xs ys k ∧ Below w.heap.size w wr) (fun i _ => n - (intOf i).toNat)
    case atStart => exact ⟨0, Nat.zero_le _, rfl, fun j hj => absurd hj (by omega), Below.refl _ _⟩
    case round =>
      obtain ⟨k, hk, rfl, hag, hb⟩ := hrel
      have HB := Lib.hid hb
      by_cases hlt : k < n
      · obtain ⟨b, off, rfl, hbB, hc⟩ := HX.out.2 (by omega)
        obtain ⟨b', off', rfl, hbB', hc'⟩ := HY.out.2 (by omega)
        have hcx : wr.cell? ⟨b, off + k, none⟩ = some (.int .i64 (nth xs k)) := (hb.cell (by exact hbB)).trans (hc k hlt)
        have hcy : wr.cell? ⟨b', off' + k, none⟩ = some (.int .i64 (nth ys k)) := (hb.cell (by exact hbB')).trans (hc' k hlt)
        have hki : (k : Int) < (n : Int) := by omega
        have hk0 : (0 : Int) ≤ (k : Int) := by omega
        clear hc hc' hb
        by_cases he : nth xs k = nth ys k
        · have hne : (nth xs k != nth ys k) = false := by simp [he]
          have HE := Lib.hid he
          clear he
          go_wp2
          go_quiet (fail)
          go_wp2
          go_roundw
          case rel => exact ⟨k + 1, by omega, by go_num, agree_step hag HE.out, below_drewN HB.out _⟩
          case measure => simp [intOf]; omega
        · have hne : (nth xs k != nth ys k) = true := by simp [he]
          have HE := Lib.hid he
          clear he
          go_wp2
          go_quiet (fail)
          go_wp2
          go_ret
          refine ⟨ret_bool ?_, below_drewN HB.out _⟩
          have : xs ≠ ys := fun e => HE.out (by rw [e])
          simp [eqL, this]
      · have hkn : k = n := by omega
        subst hkn
        clear hb
        go_wp2
        go_ret
        refine ⟨ret_bool ?_, HB.out⟩
        have : xs = ys := list_ext_nth (by rw [HX.out.1, HY.out.1]) (fun j hj => hag j (by rw [HX.out.1] at hj; exact hj))
        simp [eqL, this]
  · have H := Lib.hid (show xs ≠ ys from fun e => hl (by rw [← hx.1, ← hy.1, e]))
    have ht : ((n : Int) != (n' : Int)) = true := by simp; omega
    clear hx hy
    go_enter Tryzx.func34, Tryz.ntmps34
    go_wp2
    go_ret
    exact ⟨ret_bool (by simp [eqL, H.out]), Below.refl _ _⟩
end Go.Proofs.YtbpnbhemdbgmjaaGreat.X
end
section
namespace Go.Proofs.YtbpnbhemdbgmjaaGreat.X
open Go.RowKit
section
variable {w w1 w2 : World}
theorem below_box {o : Obj} (h : Below w.heap.size w w1) : Below w.heap.size w (w1.alloc o) := h.alloc h.size _
end
theorem toIntS_ex (A : Option Addr) (n c : Nat) (zs : List Int) (w : World) (h : IntsAt w w.heap.size A n zs) (hn : n ≤ 1048576) :
    Calls Tryzx.prog 32 #[.slice A n c] w fun e w' => ∃ g, e = .returned (.slice (some ⟨g, 0, none⟩) n n) ∧ w.heap.size ≤ g ∧ IntsAt w' w'.heap.size (some ⟨g, 0, none⟩) n zs ∧ Below w.heap.size w w' :=
  (toIntS_any A n c zs w h hn).mono fun _ _ ⟨he, hi, hb⟩ => ⟨_, he, Nat.le_refl _, hi, hb⟩
end Go.Proofs.YtbpnbhemdbgmjaaGreat.X
end
section
namespace Go.Proofs.YtbpnbhemdbgmjaaGreat.Rn
open Go.Conc Go.WideShapes
set_option linter.unusedVariables false
set_option linter.unusedSimpArgs false
section
variable {P : Program} {w : World} {r : Reach} {base : Nat} {t e u : TypeId} {fs : Array Field} {A : Option Addr} {n c : Nat}
theorem slice_atCells (ht : P.underlying t = some (.slice e)) (h : Value.okWide P w r base t (.slice A n c)) : AtCells w A := by
  simp only [Value.okWide, ht] at h
  exact cell_atCells ht h
end
section
variable {noT : TypeId} {ws : List Win} {v : World} {B K n i : Nat} {A : Option Addr} {zs : List Int}
theorem ints_recs (h : IntsAt v B A n zs) : RecsAt v B 1 A n zs := ⟨by rw [h.1, Nat.mul_one], by rw [Nat.mul_one]; exact h.2⟩
theorem recs_ints (h : RecsAt v B 1 A n zs) : IntsAt v B A n zs := ⟨by rw [h.1, Nat.mul_one], by have := h.2; rwa [Nat.mul_one] at this⟩
theorem lone_ints (h : IntsAt v B A n zs) (hi : ws[i]? = some (winOf .i64 A (n * 1) zs)) (t : Tp) (d : Nat) : IntsAt ((lworld noT ws v).tp t d) ((lworld noT ws v).tp t d).heap.size (lA A i) n zs := recs_ints (lone_recs (ints_recs h) hi t d)
end
end Go.Proofs.YtbpnbhemdbgmjaaGreat.Rn
end
section
namespace Go.Proofs.Tryzx
theorem ntmps7 : Tryz.f7.ntmps = 43 := Tryz.ntmps7
end Go.Proofs.Tryzx
end
section
namespace Go.Proofs.YtbpnbhemdbgmjaaGreat
open Go.RowKit
theorem ownB_below {B base : Nat} {E : TypeId} {a w w' : World} {v : Value} {xs : List Int} {o : Obj} (hb : Below B a w) (hB : B ≤ w.heap.size) (hown : OwnV w base E v xs) (h : B ≤ base) (hg : (w.alloc o).grownBy w' v.ownBlock) : Below B a w' :=
  (hb.alloc hB o).grown hg (by simp; omega) (fun k hk => Nat.le_trans h (hown.ownLt k hk))
end Go.Proofs.YtbpnbhemdbgmjaaGreat
end
section
namespace Go.Proofs.YtbpnbhemdbgmjaaGreat
open Go.RowKit
set_option linter.unusedSimpArgs false
theorem OwnV.sliceN {w : World} {base : Nat} {E : TypeId} {v : Value} {xs : List Int} (h : OwnV w base E v xs) : ∃ A l c, v = .slice A l c := by
  rcases h.form with ⟨rfl, _⟩ | ⟨g, cap, rfl, _⟩ <;> exact ⟨_, _, _, rfl⟩
theorem OwnV.weakenN {w : World} {base base' : Nat} {E : TypeId} {v : Value} {xs : List Int} (h : OwnV w base E v xs) (hb : base' ≤ base) : OwnV w base' E v xs := by
  refine ⟨h.1, ?_⟩
  rcases h.2 with h2 | ⟨g, cap, cur, h1, h2, h3⟩
  · exact .inl h2
  · exact .inr ⟨g, cap, cur, h1, Nat.le_trans hb h2, h3⟩
theorem OwnV.capN {w : World} {base : Nat} {E : TypeId} {A : Option Addr} {n c : Nat} {xs : List Int} (h : OwnV w base E (.slice A n c) xs) : n ≤ c ∧ c ≤ 9223372036854775807 := by
  rcases h.2 with ⟨h1, h2⟩ | ⟨g, cap, cur, h1, hb, hg, hc, h5, _⟩
  · simp at h1; omega
  · simp at h1
    obtain ⟨_, hn, rfl⟩ := h1
    unfold maxLen at h5
    omega
theorem OwnV.afterN {w w' : World} {base : Nat} {E : TypeId} {v : Value} {xs : List Int} (h : OwnV w base E v xs) (hb : Below w.heap.size w w') : OwnV w' base E v xs := h.below hb
def layI : List Int → Nat → List Int → List Int
  | xs, _, [] => xs
  | xs, o, y :: ys => layI (xs.set o y) (o + 1) ys
theorem layI_len : ∀ (ys xs : List Int) (o : Nat), (layI xs o ys).length = xs.length
  | [], xs, o => rfl
  | y :: ys, xs, o => by rw [layI, layI_len ys, List.length_set]
theorem layI_eq : ∀ (ys xs : List Int) (o : Nat), o + ys.length ≤ xs.length → layI xs o ys = xs.take o ++ ys ++ xs.drop (o + ys.length)
  | [], xs, o, _ => by simp [layI]
  | y :: ys, xs, o, h => by
    simp only [List.length_cons] at h
    have ho : o < xs.length := by omega
    rw [layI, layI_eq ys (xs.set o y) (o + 1) (by rw [List.length_set]; omega)]
    have e1 : (xs.set o y).take (o + 1) = xs.take o ++ [y] := by
      rw [List.take_add_one, List.getElem?_set_self ho, List.take_set_of_le (Nat.le_refl o)]; rfl
    have e2 : (xs.set o y).drop (o + 1 + ys.length) = xs.drop (o + (y :: ys).length) := by
      rw [List.drop_set_of_lt (by omega)]
      congr 1
      simp
      omega
    rw [e1, e2]
    simp
theorem OwnI.setCells {w : World} {base g cap : Nat} {E : TypeId} {xs : List Int} (h : OwnI w base E g cap xs) : ∀ (ys : List Int) (o : Nat), OwnI (w.setCells g o (ys.map (Value.int .i64))) base E g cap (layI xs o ys) := by
  intro ys
  induction ys generalizing w xs with
  | nil => intro o; exact h
  | cons y ys ih => intro o; exact ih (h.set o y) (o + 1)
theorem OwnI.take {w : World} {base g cap : Nat} {E : TypeId} {xs : List Int} (h : OwnI w base E g cap xs) (k : Nat) (hk : k ≤ xs.length) : OwnI w base E g cap (xs.take k) := by
  have hl : (xs.take k).length = k := by rw [List.length_take]; omega
  refine ⟨by simp, ?_⟩
  rcases h.2 with ⟨h1, h2⟩ | ⟨g0, cap0, cur, h1, h2, h3, h4, h5, h6, h7⟩
  · simp at h1
  · simp at h1
    obtain ⟨rfl, rfl⟩ := h1
    refine .inr ⟨_, _, cur, rfl, h2, h3, by omega, h5, h6, ?_⟩
    rw [hl, List.map_take, ← h7, List.take_take]
    congr 1
    omega
theorem below_setCells {B g : Nat} {a w : World} (h : Below B a w) (hg : B ≤ g) : ∀ (vs : List Value) (o : Nat), Below B a (w.setCells g o vs) := by
  intro vs
  induction vs generalizing w with
  | nil => intro o; exact h
  | cons v vs ih => intro o; exact ih (h.setCell hg _) (o + 1)
end Go.Proofs.YtbpnbhemdbgmjaaGreat
end
section
namespace Go.Proofs.YtbpnbhemdbgmjaaGreat
open Go.RowKit
set_option linter.unusedSimpArgs false
theorem wpList_append_rowO {P : Program} (w : World) {ops : Array Oper} {rest : List Oper} {o : Oper} {a : Act} {Q : Exit → Act → World → Prop} (hgd : o.guard = none) (s x : Operand) (t : TypeId)
    (ho : o.op = .call { callee := .builtin .append, args := #[s, x], argTypes := #[t, t] })
    (base : Nat) (E : TypeId) (ht : P.underlying t = some (.slice E)) (hinfo : (P.info? E).map (fun i => (i.zero, i.size, i.bytes)) = some (some (.int .i64 0), 1, 8))
    (v : Value) (hs : a.eval s = v) (hown : OwnV w base E v []) (g off n c : Nat) (zs : List Int) (hx : a.eval x = .slice (some ⟨g, off, none⟩) n c)
    (hl : zs.length = n) (hg : ∀ j, j < n → w.cell? ⟨g, off + j, none⟩ = some (.int .i64 (nth zs j))) (B : Nat) (w0 : World) (hb : Below B w0 w) (hB : B ≤ base) (hbase : base ≤ w.heap.size) (hk2 : n ≤ 1099511627776)
    (h : ∀ A k c w', OwnV w' base E (.slice A k c) zs → Below B w0 w' → wpList P ops Q rest (a.put o.dst (.slice A k c)) w') : wpList P ops Q (o :: rest) a w := by
  obtain ⟨i0, hi0, hz0, hz1, hz2⟩ := info_parts hinfo
  refine wpList_append_own (P := P) w hgd s x t ho base E i0 (.int .i64 0) 1 8 ht hi0 hz0 hz1 hz2 rfl (by decide) v 0 _ hs hown ⟨g, off, none⟩ n c (zs.map (Value.int .i64)) hx (by simp [hl]) ?_ ?_ (by unfold maxLen; omega) (by omega) hbase ?_
  · intro j u hj
    rw [List.getElem?_map] at hj
    by_cases hjn : j < n
    · have e := hg j hjn
      rw [nth_get _ _ (by omega)] at e
      rw [List.getElem?_eq_getElem (by omega)] at hj
      simp at hj
      rw [← hj]
      rw [Go.WideShapes.add_plain]
      exact e
    · rw [List.getElem?_eq_none (by omega)] at hj
      simp at hj
  · intro u hu
    simp at hu
    obtain ⟨z, _, rfl⟩ := hu
    rfl
  · intro v' w' hown' hgr _
    have h' : OwnV w' base E v' zs := by
      unfold OwnV
      have e : 0 + n = zs.length := by omega
      rw [e] at hown'
      exact hown'
    obtain ⟨A, k, c', rfl⟩ := h'.sliceN
    exact h A k c' w' h' (hb.grown hgr (by omega) (fun k hk => by have := hown.ownLt k hk; omega))
end Go.Proofs.YtbpnbhemdbgmjaaGreat
end
section
namespace Go.Proofs.YtbpnbhemdbgmjaaGreat.X
open Go.RowKit
set_option linter.unusedSimpArgs false
set_option linter.unusedVariables false
theorem zeroIntD (w : World) : (zeroValue 3).run Tryzx.prog w = .ok (.int .i64 0) w := by kernel_rfl
set_option maxRecDepth 100000 in
set_option maxHeartbeats 800000 in
theorem cloneI_any (g off n c : Nat) (zs : List Int) (w : World) (hg : g < w.heap.size) (hc : ∀ j, j < n → w.cell? ⟨g, off + j, none⟩ = some (.int .i64 (nth zs j))) (hl : zs.length = n) (hn : n ≤ 1048576) :
    Calls Tryzx.prog 103 #[.slice (some ⟨g, off, none⟩) n c] w fun e w' => ∃ A k d, e = .returned (.slice A k d) ∧ OwnV w' w.heap.size 3 (.slice A k d) zs ∧ Below w.heap.size w w' := by
  have HC := Lib.hid (fun j hj => (World.cell?_alloc_lt w (.cells #[] 3) ⟨g, off + j, none⟩ hg).trans (hc j hj))
  clear hc
  have hnil := Lib.run_eql_slice_nil (P := Tryzx.prog) w 54 3 (some ⟨g, off, none⟩) n c 0 0 Tryzx.underlying54
  go_enter Tryzx.func103, Tryz.ntmps103
  go_wp2_with (at_builtin; refine wpList_append_rowO _ rfl (.tmp 5) (.tmp 6) 54 rfl w.heap.size 3 Tryzx.underlying54 infoInt _ rfl (by exact (OwnI.new w _).toV) g off n c zs rfl hl (by exact HC.out) w.heap.size w (by exact (Below.refl _ _).alloc (Nat.le_refl _) _) (Nat.le_refl _) (by simp) (by omega) ?_; intro A k c' w3 hown3 hb3)
  go_ret
  exact ⟨_, _, _, rfl, hown3, hb3⟩
theorem delL_eq (L : List Int) (i m : Nat) (h : L.length = i + 1 + m) : (layI (layI L (0 + i * 1) (L.drop (i + 1))) (i + m) [0]).take (i + m) = L.eraseIdx i := by
  rw [layI_eq [0] _ _ (by rw [layI_len]; simp; omega), layI_eq (L.drop (i + 1)) L _ (by simp; omega), List.eraseIdx_eq_take_drop_succ]
  have e0 : 0 + i * 1 = i := by omega
  rw [e0]
  have e1 : (L.take i ++ L.drop (i + 1)).length = i + m := by simp; omega
  rw [List.append_assoc (List.take (i + m) _), List.take_append_of_le_length (by simp; omega), List.take_take, Nat.min_self, List.take_append_of_le_length (by omega), List.take_of_length_le (by omega)]
set_option maxRecDepth 1000000 in
set_option maxHeartbeats 4000000 in
theorem deleteI_any (g cap base i m : Nat) (L : List Int) (w : World) (h : OwnI w base 3 g cap L) (hl : L.length = i + 1 + m) (hcap : L.length ≤ cap ∧ cap ≤ 9223372036854775807) (hn : L.length ≤ 1048576) :
    Calls Tryzx.prog 102 #[.slice (some ⟨g, 0, none⟩) (i + 1 + m) cap, .int .i64 i, .int .i64 ((i : Int) + 1)] w fun e w' => e = .returned (.slice (some ⟨g, 0, none⟩) (i + m) cap) ∧ OwnV w' base 3 (.slice (some ⟨g, 0, none⟩) (i + m) cap) (L.eraseIdx i) ∧ Below base w w' := by
  obtain ⟨i0, hi0, hz0, hz1, hz2⟩ := info_parts infoInt
  obtain ⟨news, hnews⟩ : ∃ news, news = (L.drop (i + 1)).map (Value.int .i64) := ⟨_, rfl⟩
  have hlen : news.length = m := by rw [hnews]; simp; omega
  have hget : ∀ t, t < m → news[t]? = some (.int .i64 (nth L (i + 1 + t))) := by
    intro t ht
    rw [hnews, List.getElem?_map, List.getElem?_drop, List.getElem?_eq_getElem (by omega), nth_get _ _ (by omega)]
    rfl
  obtain ⟨A, hA, hsrc⟩ : ∃ A : Addr, (if cap = i + 1 then some (⟨g, 0, none⟩ : Addr) else some ⟨g, i + 1, none⟩) = some A ∧ Hid (∀ t u, news[t]? = some u → w.drew.cell? (A.add t) = some u) := by
    by_cases hci : cap = i + 1
    · refine ⟨⟨g, 0, none⟩, by simp [hci], fun t u hu => ?_⟩
      have h0 : news.length = 0 := by rw [hlen]; omega
      rw [List.length_eq_zero_iff.1 h0] at hu
      simp at hu
    · refine ⟨⟨g, i + 1, none⟩, by simp [hci], fun t u hu => ?_⟩
      have ht : t < m := by
        have := (List.getElem?_eq_some_iff.1 hu).1
        rwa [hlen] at this
      rw [hget t ht] at hu
      rw [Addr.add_lit]
      exact (h.drew.cell (by omega)).trans hu
  have s1 : Hid (news.length = m * 1) := by rw [Nat.mul_one]; exact hlen
  have s2 : Hid (∀ u ∈ news, u.oneCell' = true) := by
    intro u hu
    rw [hnews] at hu
    obtain ⟨x, _, rfl⟩ := List.mem_map.1 hu
    rfl
  have s3 : Hid (∀ t, t < news.length → (w.drew.cell? ⟨g, 0 + i * 1 + t, none⟩).isSome = true ∧ w.drew.frozen? ⟨g, 0 + i * 1 + t, none⟩ = false) := by
    intro t ht
    rw [hlen] at ht
    rw [Nat.mul_one, Nat.zero_add]
    exact ⟨by rw [h.drew.cell (by omega)]; rfl, h.drew.frozen _⟩
  obtain ⟨W1, hW1⟩ : ∃ W1, W1 = w.drew.setCells g (0 + i * 1) news := ⟨_, rfl⟩
  have hO1 : OwnI W1 base 3 g cap (layI L (0 + i * 1) (L.drop (i + 1))) := by rw [hW1, hnews]; exact h.drew.setCells _ _
  have hB1 : Below base w W1 := by rw [hW1]; exact below_setCells (below_drewN (Below.refl _ _) 1) h.blk.1 _ _
  have hcl : ∀ ty, (Builtin.clear_ #[54] ty #[.slice (some ⟨g, i + m, none⟩) 1 (cap - (i + m))]).run Tryzx.prog W1 = .ok (.tuple #[]) (W1.setCells g (i + m) [.int .i64 0]) :=
    fun ty => Lib.run_clear_slice W1 _ _ ty _ Tryzx.underlying54 zeroIntD rfl rfl g (i + m) 1 _ (by omega) (fun t ht => by rw [hO1.cell (by rw [layI_len]; omega)]; rfl) (fun t ht => hO1.frozen _)
  have HO2 : Hid (OwnV (W1.setCells g (i + m) [.int .i64 0]) base 3 (.slice (some ⟨g, 0, none⟩) (i + m) cap) (L.eraseIdx i)) := Lib.hid (by
    have h2 := (hO1.setCells [0] (i + m)).take (i + m) (by rw [layI_len, layI_len]; omega)
    rw [delL_eq L i m hl] at h2
    have h3 := h2.toV
    rwa [show (L.eraseIdx i).length = i + m by rw [List.length_eraseIdx_of_lt (by omega)]; omega] at h3)
  have HB2 : Hid (Below base w (W1.setCells g (i + m) [.int .i64 0])) := Lib.hid (below_setCells hB1 h.blk.1 _ _)
  have hW : Hid (W1 = w.drew.setCells g (0 + i * 1) news) := hW1
  have hic : i ≤ cap := by omega
  have hjc : i + 1 ≤ cap := by omega
  have e1 : i + 1 + m - (i + 1) = m := by omega
  have e2 : i + 1 + m - (i + m) = 1 := by omega
  have hp0 : (0 : Int) ≤ (i : Int) + 1 := by omega
  have hp1 : (i : Int) + 1 ≤ (i : Int) + 1 + (m : Int) := by omega
  have hp2 : ((i : Int) + 1).toNat = i + 1 := by omega
  have hne : ((i : Int) == (i : Int) + 1) = false := by simp; omega
  clear hO1 hB1 hW1 hget hnews hlen h
  go_enter Tryzx.func102, Tryz.ntmps102
  go_wp2_with fail
  go_region_law (refine step_append_room rfl (.tmp 22) (.tmp 25) 54 rfl 3 i0 1 Tryzx.underlying54 hi0 hz1 g 0 i cap (by simp [Act.eval, Act.put]) A m (cap - (i + 1)) news (by simp [Act.eval, Act.put]) s1.out hsrc.out s2.out (by omega) s3.out ?_; rw [← hW.out])
  go_wp2
  go_ret
  exact ⟨rfl, HO2.out, HB2.out⟩
end Go.Proofs.YtbpnbhemdbgmjaaGreat.X
end
section
namespace Go.Proofs.YtbpnbhemdbgmjaaGreat
open Go.RowKit
def woL (cs : List Int) (z : Int) : Nat → List Int
  | 0 => []
  | k + 1 => if nth cs k = z then woL cs z k else woL cs z k ++ [nth cs k]
theorem woL_yes {cs : List Int} {z : Int} {k : Nat} (h : nth cs k = z) : woL cs z (k + 1) = woL cs z k := by simp [woL, h]
theorem woL_no {cs : List Int} {z : Int} {k : Nat} (h : ¬ nth cs k = z) : woL cs z (k + 1) = woL cs z k ++ [nth cs k] := by simp [woL, h]
theorem woL_len (cs : List Int) (z : Int) : ∀ k, (woL cs z k).length ≤ k
  | 0 => Nat.le_refl _
  | k + 1 => by
    have ih := woL_len cs z k
    by_cases h : nth cs k = z
    · rw [woL_yes h]; omega
    · rw [woL_no h, List.length_append]; simp; omega
theorem take_snoc {cs : List Int} {k : Nat} (h : k < cs.length) : cs.take (k + 1) = cs.take k ++ [nth cs k] := by
  rw [List.take_add_one, List.getElem?_eq_getElem h, nth_get _ _ h]; rfl
theorem woL_take {cs : List Int} {i : Nat} (hi : i < cs.length) (hd : ∀ j, j < cs.length → j ≠ i → nth cs j ≠ nth cs i) : ∀ k, k ≤ i → woL cs (nth cs i) k = cs.take k
  | 0, _ => by simp [woL]
  | k + 1, h => by rw [woL_no (hd k (by omega) (by omega)), woL_take hi hd k (by omega), take_snoc (by omega)]
theorem woL_drop {cs : List Int} {i : Nat} (hi : i < cs.length) (hd : ∀ j, j < cs.length → j ≠ i → nth cs j ≠ nth cs i) : ∀ m, i + 1 + m ≤ cs.length → woL cs (nth cs i) (i + 1 + m) = cs.take i ++ (cs.drop (i + 1)).take m
  | 0, _ => by rw [Nat.add_zero, woL_yes rfl, woL_take hi hd i (Nat.le_refl _)]; simp
  | m + 1, h => by
    rw [← Nat.add_assoc, woL_no (hd _ (by omega) (by omega)), woL_drop hi hd m (by omega), List.append_assoc]
    congr 1
    have e : m < (cs.drop (i + 1)).length := by simp; omega
    rw [List.take_add_one, List.getElem?_eq_getElem e, List.getElem_drop, nth_get _ _ (by omega)]
    rfl
theorem woL_erase {cs : List Int} {i : Nat} (hi : i < cs.length) (hd : ∀ j, j < cs.length → j ≠ i → nth cs j ≠ nth cs i) : woL cs (nth cs i) cs.length = cs.eraseIdx i := by
  have h := woL_drop hi hd (cs.length - (i + 1)) (by omega)
  rw [show i + 1 + (cs.length - (i + 1)) = cs.length by omega] at h
  rw [h, List.eraseIdx_eq_take_drop_succ]
  congr 1
  exact List.take_of_length_le (by rw [List.length_drop]; exact Nat.le_refl _)
def pickL (f : Nat → Bool) (cs : List Int) : Nat → List Int
  | 0 => []
  | k + 1 => if f k = true then pickL f cs k ++ [nth cs k] else pickL f cs k
theorem pickL_yes {f : Nat → Bool} {cs : List Int} {k : Nat} (h : f k = true) : pickL f cs (k + 1) = pickL f cs k ++ [nth cs k] := by simp [pickL, h]
theorem pickL_no {f : Nat → Bool} {cs : List Int} {k : Nat} (h : f k = false) : pickL f cs (k + 1) = pickL f cs k := by simp [pickL, h]
theorem pickL_len (f : Nat → Bool) (cs : List Int) : ∀ k, (pickL f cs k).length ≤ k
  | 0 => Nat.le_refl _
  | k + 1 => by
    have ih := pickL_len f cs k
    cases h : f k
    · rw [pickL_no h]; omega
    · rw [pickL_yes h, List.length_append]; simp; omega
end Go.Proofs.YtbpnbhemdbgmjaaGreat
end
section
namespace Go.Proofs.YtbpnbhemdbgmjaaGreat.X
open Go.RowKit
set_option linter.unusedSimpArgs false
set_option linter.unusedVariables false
theorem carried_ne {zs cs : List Int} {n q i j : Nat} (h : carriedB zs n cs q = true) (hi : i < q) (hj : j < q) (hij : j ≠ i) : nth cs j ≠ nth cs i := by
  have ha := (carriedB_out h).2
  rcases Nat.lt_or_ge i j with e | e
  · have := asc_lt ha e hj
    omega
  · have := asc_lt ha (show j < i by omega) hi
    omega
theorem carried_wo {zs cs : List Int} {n i : Nat} (h : carriedB zs n cs cs.length = true) (hi : i < cs.length) : woL cs (nth cs i) cs.length = cs.eraseIdx i :=
  woL_erase hi (fun j hj hji => carried_ne h hi hj hji)
def safeB (zs : List Int) (n : Nat) (cs : List Int) (k : Nat) : Bool := stgB zs n (cs.eraseIdx k) (cs.length - 1)
def safeL (zs : List Int) (n : Nat) (cs : List Int) : List Int := if carriedB zs n cs cs.length = true then pickL (safeB zs n cs) cs cs.length else []
theorem safeL_t {zs : List Int} {n : Nat} {cs : List Int} (h : carriedB zs n cs cs.length = true) : safeL zs n cs = pickL (safeB zs n cs) cs cs.length := by simp [safeL, h]
theorem safeL_f {zs : List Int} {n : Nat} {cs : List Int} (h : carriedB zs n cs cs.length = false) : safeL zs n cs = [] := by simp [safeL, h]
structure Kept (w : World) (v : Value) (wr : World) : Prop where
  below : Below w.heap.size w wr
  box : Box wr w.heap.size v
  lt : w.heap.size + 1 ≤ wr.heap.size
theorem Kept.new (w : World) (v : Value) (t : TypeId) : Kept w v (w.alloc (.cells #[v] t)) := ⟨(Below.refl _ _).alloc (Nat.le_refl _) _, Box.new _ _ _, by simp⟩
theorem Kept.after {w wr w1 : World} {v : Value} (h : Kept w v wr) (hb : Below wr.heap.size wr w1) : Kept w v w1 := ⟨below_then h.below hb, h.box.after hb, Nat.le_trans h.lt hb.size⟩
theorem Kept.step {w wr w1 : World} {v : Value} (h : Kept w v wr) (hb : Below (w.heap.size + 1) wr w1) : Kept w v w1 :=
  ⟨h.below.trans (hb.mono (Nat.le_succ _)), ⟨(hb.cell (p := ⟨w.heap.size, 0, none⟩) (Nat.lt_succ_self _)).trans h.box.1, Nat.lt_of_lt_of_le h.box.2 hb.size⟩, Nat.le_trans h.lt hb.size⟩
theorem Kept.own {w wr w1 : World} {v u : Value} {E : TypeId} {xs : List Int} {o : Obj} (h : Kept w v wr) (hown : OwnV wr (w.heap.size + 1) E u xs) (hg : (wr.alloc o).grownBy w1 u.ownBlock) : Kept w v w1 :=
  h.step (ownB_below (Below.refl _ _) h.lt hown (Nat.le_refl _) hg)
def NumsPost (w : World) (L : List Int) (e : Ending) (w' : World) : Prop :=
  ∃ v, e = .returned v ∧ OwnV w' w.heap.size 3 v L ∧ Below w.heap.size w w'
set_option maxRecDepth 100000 in
set_option maxHeartbeats 1600000 in
theorem without_any (B : Option Addr) (q d : Nat) (cs : List Int) (z : Int) (w : World) (hi : IntsAt w w.heap.size B q cs) (hq : q ≤ 1048576) : Calls Tryzx.prog 100 #[.slice B q d, .int .i64 z] w (NumsPost w (woL cs z q)) := by
  have HI := Lib.hid hi
  clear hi
  go_enter Tryzx.func100, Tryz.ntmps100
  go_wp2
  go_loopw [5, 6] (fun v i wr => ∃ k : Nat, k ≤ q ∧ i = .int .i64 k ∧ OwnV wr w.heap.size 3 v (woL cs z k) ∧ Below w.heap.size w wr) (fun _ i _ => q - (intOf i).toNat)
  case atStart => exact ⟨0, Nat.zero_le _, rfl, OwnI.new _ _, (Below.refl _ _).alloc (Nat.le_refl _) _⟩
  case round =>
    obtain ⟨k, hk, rfl, hown, hb⟩ := hrel
    have HB := Lib.hid hb
    have HO := Lib.hid hown
    have hlen := woL_len cs z k
    by_cases hlt : k < q
    · have i1 : IntKind.i64.wrap ((k : Int) + 1) = (k : Int) + 1 := IntWalk.i64_in _ (by omega)
      obtain ⟨b, off, rfl, hbB, hc⟩ := HI.out.2 (by omega)
      have hck : wr.cell? ⟨b, off + k, none⟩ = some (.int .i64 (nth cs k)) := (hb.cell (by exact hbB)).trans (hc k hlt)
      clear hb hown hc
      by_cases he : nth cs k = z
      · have hne : (nth cs k != z) = false := by simp [he]
        have HU := Lib.hid (woL_yes he)
        clear he
        go_wp2
        go_roundw
        case rel => exact ⟨k + 1, by omega, by go_num, by rw [HU.out]; exact HO.out, HB.out⟩
        case measure => simp [intOf]; omega
      · have hne : (nth cs k != z) = true := by simp [he]
        have HU := Lib.hid (woL_no he)
        clear he
        go_wp2_with (at_builtin; refine wpList_append_int _ rfl (.tmp 20) (.tmp 25) 54 rfl w.heap.size 3 Tryzx.underlying54 infoInt _ (woL cs z k) rfl (HO.out.alloc _) _ _ (nth cs k) rfl (cell_new1 _ _ _) (by omega) (by have := HB.out.size; simp; omega) ?_; intro g' cap' w1 hown1 hgr1)
        have hb1 := ownB_below HB.out HB.out.size HO.out (Nat.le_refl _) hgr1
        have hv1 := hown1.toV
        rw [List.length_append, ← HU.out] at hv1
        go_wp2
        go_roundw
        case rel => exact ⟨k + 1, by omega, by go_num, hv1, hb1⟩
        case measure => simp [intOf]; omega
    · obtain rfl : k = q := by omega
      clear hb hown
      go_wp2
      go_ret
      exact ⟨_, rfl, HO.out, HB.out⟩
theorem deleteI_at (g cap base i n m : Nat) (L : List Int) (w : World) (h : OwnI w base 3 g cap L) (hnm : n = i + 1 + m) (hl : L.length = n) (hcap : L.length ≤ cap ∧ cap ≤ 9223372036854775807) (hn : L.length ≤ 1048576) :
    Calls Tryzx.prog 102 #[.slice (some ⟨g, 0, none⟩) n cap, .int .i64 i, .int .i64 ((i : Int) + 1)] w fun e w' => e = .returned (.slice (some ⟨g, 0, none⟩) (i + m) cap) ∧ OwnV w' base 3 (.slice (some ⟨g, 0, none⟩) (i + m) cap) (L.eraseIdx i) ∧ Below base w w' := by
  subst hnm
  exact deleteI_any g cap base i m L w h hl hcap hn
theorem ownI_of {w : World} {base : Nat} {E : TypeId} {A : Option Addr} {q d : Nat} {xs : List Int} (h : OwnV w base E (.slice A q d) xs) (hx : 0 < xs.length) : ∃ g, (.slice A q d : Value) = .slice (some ⟨g, 0, none⟩) xs.length d ∧ Hid (OwnI w base E g d xs) := by
  rcases h.form with ⟨_, e⟩ | ⟨g, cap, e, ho⟩
  · rw [e] at hx; simp at hx
  · simp at e
    obtain ⟨rfl, rfl, rfl⟩ := e
    exact ⟨g, rfl, ho⟩
section
variable (A : Option Addr) (n c : Nat) (zs : List Int) (B : Option Addr) (d : Nat) (cs : List Int) (w : World) (h : RecsAt w w.heap.size 4 A n zs) (hn : n ≤ 1048576) (hi : IntsAt w w.heap.size B cs.length cs) (hq : cs.length ≤ 1048576)
include h hn hi hq
set_option maxRecDepth 100000 in
set_option maxHeartbeats 3200000 in
theorem sSafe_any : Calls Tryzx.prog 50 #[.agg #[.slice A n c], .slice B cs.length d] w (NumsPost w (safeL zs n cs)) := by
  have hz0 : (w.alloc (.cells #[.slice A n c] 26)).heap.size = w.heap.size + 1 := by simp
  have HK0 : Hid (Kept w (.slice A n c) ((w.alloc (.cells #[.slice A n c] 26)).alloc (.cells #[] 3))) := Lib.hid ((Kept.new w (.slice A n c) 26).after ((Below.refl _ _).alloc (Nat.le_refl _) _))
  have HO0 : Hid (OwnV ((w.alloc (.cells #[.slice A n c] 26)).alloc (.cells #[] 3)) (w.heap.size + 1) 3 (.slice (some ⟨w.heap.size + 1, 0, none⟩) 0 0) []) := Lib.hid (by
    have h := (OwnI.new (w.alloc (.cells #[.slice A n c] 26)) 3).toV
    rw [hz0] at h
    exact h)
  have HH := Lib.hid h
  have HI := Lib.hid hi
  clear h hi hz0
  cases hC : carriedB zs n cs cs.length
  · have HN := Lib.hid (safeL_f hC)
    obtain ⟨W1, hW1⟩ : ∃ W1 : World, ((w.alloc (.cells #[.slice A n c] 26)).alloc (.cells #[] 3)) = W1 := ⟨_, rfl⟩
    rw [hW1] at HK0 HO0
    have cx0 := HK0.out.box.1
    have r0 := HH.out.after HK0.out.below
    have l0 := HI.out.after HK0.out.below
    go_enter Tryzx.func50, Tryz.ntmps50
    go_wp2
    go_loopw [5, 6] (fun v5 v6 wr => v5 = .slice (some ⟨w.heap.size + 1, 0, none⟩) 0 0 ∧ v6 = .int .i64 0 ∧ wr = W1) (fun _ _ _ => 0)
    case atStart => exact ⟨rfl, rfl, rfl⟩
    case round =>
      obtain ⟨rfl, rfl, rfl⟩ := hrel
      by_cases h1 : 0 < cs.length
      · have i3 : (0 : Int) < (cs.length : Int) := by omega
        go_wp2_with fail
        refine (sCarriedOk_any _ _ _ zs _ _ _ cs _ (by exact r0) hn (by exact l0) hq).mono ?_
        rw [hC]
        rintro e w1 ⟨rfl, hb1⟩
        have HO1 := Lib.hid ((HO0.out.afterN hb1).weakenN (Nat.le_succ _))
        have HK1 := Lib.hid (HK0.out.after hb1)
        clear hb1 cx0 r0 l0
        go_wp2
        go_ret
        exact ⟨_, rfl, by rw [HN.out]; exact HO1.out, HK1.out.below⟩
      · have i3 : ¬ (0 : Int) < (cs.length : Int) := by omega
        clear cx0 r0 l0
        go_wp2
        go_ret
        exact ⟨_, rfl, by rw [HN.out]; exact HO0.out.weakenN (Nat.le_succ _), HK0.out.below⟩
  · have HN := Lib.hid (safeL_t hC)
    have HW : Hid (∀ k, k < cs.length → woL cs (nth cs k) cs.length = cs.eraseIdx k) := Lib.hid (fun k hk => carried_wo hC hk)
    go_enter Tryzx.func50, Tryz.ntmps50
    go_wp2
    go_loopw [5, 6] (fun v5 v6 wr => ∃ k : Nat, v6 = .int .i64 k ∧ k ≤ cs.length ∧ Hid (OwnV wr (w.heap.size + 1) 3 v5 (pickL (safeB zs n cs) cs k)) ∧ Hid (Kept w (.slice A n c) wr)) (fun _ v6 _ => cs.length - (intOf v6).toNat)
    case atStart => exact ⟨0, rfl, Nat.zero_le _, HO0, HK0⟩
    case round =>
      clear HO0 HK0
      obtain ⟨k, rfl, hk, HO, HK⟩ := hrel
      by_cases hlt : k < cs.length
      · have i1 : IntKind.i64.wrap ((k : Int) + 1) = (k : Int) + 1 := IntWalk.i64_in _ (by omega)
        have i3 : (k : Int) < (cs.length : Int) := by omega
        have hpl := pickL_len (safeB zs n cs) cs k
        have HE : Hid ((cs.eraseIdx k).length = cs.length - 1) := Lib.hid (List.length_eraseIdx_of_lt hlt)
        have cx0 := HK.out.box.1
        go_wp2_with fail
        refine (sCarriedOk_any _ _ _ zs _ _ _ cs _ (by exact HH.out.after HK.out.below) hn (by exact HI.out.after HK.out.below) hq).mono ?_
        rw [hC]
        rintro e w1 ⟨rfl, hb1⟩
        have HO1 := Lib.hid (HO.out.afterN hb1)
        have HK1 := Lib.hid (HK.out.after hb1)
        clear hb1 HO HK cx0
        have hbox := HK1.out.box.1
        have HIA := Lib.hid (HI.out.after HK1.out.below)
        obtain ⟨b, off, rfl, hbB, hc⟩ := HIA.out.2 (by omega)
        have hck := hc k hlt
        clear hc
        go_wp2_with fail
        go_region_held3 (fun w' => w'.cell? ⟨w.heap.size, 0, none⟩ = some (.slice A n c) ∧ w'.cell? ⟨b, off + k, none⟩ = some (.int .i64 (nth cs k))) (first | exact ⟨hbox, hck⟩ | exact ⟨HK2.out.box.1, ck2⟩ | exact ⟨HK3.out.box.1, ck3⟩) ((first | (go_at_call 100; refine (without_any _ _ _ cs (nth cs k) _ (by exact HIA.out) hq).mono ?_; rintro e w2 ⟨v2, rfl, ho2, hbx⟩; have hb2 := below_undrew hbx; obtain ⟨A2, q2, d2, rfl⟩ := ho2.sliceN; have HK2 := Lib.hid (HK1.out.after hb2); have ck2 : w2.cell? ⟨b, off + k, none⟩ = some (.int .i64 (nth cs k)) := (hb2.cell (by exact hbB)).trans hck; have hl2 := ho2.len; have l2 := ho2.intsAt; have HO2 := Lib.hid (HO1.out.afterN hb2); rw [HW.out k hlt] at l2 hl2; subst hl2) | (go_at_call 31; refine (sStageStands_any _ _ _ zs _ _ _ (cs.eraseIdx k) _ (by exact HH.out.after HK2.out.below) hn (by exact l2) (by have := HE.out; omega)).mono ?_; rintro e w3 ⟨rfl, hb3⟩; have HK3 := Lib.hid (HK2.out.after hb3); have ck3 : w3.cell? ⟨b, off + k, none⟩ = some (.int .i64 (nth cs k)) := (hb3.cell (Nat.lt_of_lt_of_le hbB hb2.size)).trans ck2; have HO3 := Lib.hid (HO2.out.afterN hb3))))
        have hs : stgB zs n (cs.eraseIdx k) (cs.eraseIdx k).length = safeB zs n cs k := by rw [HE.out]; rfl
        rw [hs]
        clear hb2 hbx hb3 ho2 hbox hck ck2 l2 HO2 HO1 hs HIA HK1 HK2
        cases hb : safeB zs n cs k
        · have HU := Lib.hid (pickL_no hb (cs := cs))
          go_wp2
          go_roundw
          case rel => exact ⟨k + 1, by go_num, by omega, by rw [HU.out]; exact HO3, HK3⟩
          case measure => simp [intOf]; omega
        · have HU := Lib.hid (pickL_yes hb (cs := cs))
          go_wp2_with (at_builtin; refine wpList_append_int _ rfl (.tmp 27) (.tmp 32) 54 rfl (w.heap.size + 1) 3 Tryzx.underlying54 infoInt _ (pickL (safeB zs n cs) cs k) rfl (HO3.out.alloc _) _ _ (nth cs k) rfl (cell_new1 _ _ _) (by omega) (by have := HK3.out.lt; simp; omega) ?_; intro g' cap' w4 hown4 hgr4)
          have HK4 := Lib.hid (HK3.out.own HO3.out hgr4)
          have hv4 := hown4.toV
          rw [List.length_append, ← HU.out] at hv4
          go_wp2
          go_roundw
          case rel => exact ⟨k + 1, by go_num, by omega, Lib.hid hv4, HK4⟩
          case measure => simp [intOf]; omega
      · obtain rfl : k = cs.length := by omega
        go_wp2
        go_ret
        exact ⟨_, rfl, by rw [HN.out]; exact HO.out.weakenN (Nat.le_succ _), HK.out.below⟩
set_option maxRecDepth 100000 in
set_option maxHeartbeats 3200000 in
theorem iSafe_any : Calls Tryzx.prog 51 #[.agg #[.slice A n c], .slice B cs.length d] w (NumsPost w (safeL zs n cs)) := by
  have HK0 : Hid (Kept w (.slice A n c) (w.alloc (.cells #[.slice A n c] 26))) := Lib.hid (Kept.new w (.slice A n c) 26)
  have HH := Lib.hid h
  have HI := Lib.hid hi
  have cx0 := HK0.out.box.1
  clear h hi
  cases hC : carriedB zs n cs cs.length
  · have HN := Lib.hid (safeL_f hC)
    go_enter Tryzx.func51, Tryz.ntmps51
    go_wp2_with fail
    refine (iCarriedOk_any _ _ _ zs _ _ _ cs _ (by exact HH.out.after HK0.out.below) hn (by exact HI.out.after HK0.out.below) hq).mono ?_
    rw [hC]
    rintro e w1 ⟨rfl, hb1⟩
    have HK1 := Lib.hid (HK0.out.after hb1)
    clear hb1 cx0
    go_wp2
    go_ret
    exact ⟨_, rfl, by rw [HN.out]; exact OwnV.nil _ _ _, HK1.out.below⟩
  · have HN := Lib.hid (safeL_t hC)
    go_enter Tryzx.func51, Tryz.ntmps51
    go_wp2_with fail
    refine (iCarriedOk_any _ _ _ zs _ _ _ cs _ (by exact HH.out.after HK0.out.below) hn (by exact HI.out.after HK0.out.below) hq).mono ?_
    rw [hC]
    rintro e w1 ⟨rfl, hb1⟩
    have HK1 := Lib.hid (HK0.out.after hb1)
    clear hb1 cx0 HK0
    go_wp2
    go_loopw [5, 14] (fun v5 v14 wr => ∃ k : Nat, v14 = .int .i64 k ∧ k ≤ cs.length ∧ Hid (OwnV wr (w.heap.size + 1) 3 v5 (pickL (safeB zs n cs) cs k)) ∧ Hid (Kept w (.slice A n c) wr)) (fun _ v14 _ => cs.length - (intOf v14).toNat)
    case atStart => exact ⟨0, rfl, Nat.zero_le _, Lib.hid (OwnV.nil _ _ _), HK1⟩
    case round =>
      clear HK1
      obtain ⟨k, rfl, hk, HO, HK⟩ := hrel
      by_cases hlt : k < cs.length
      · have i1 : IntKind.i64.wrap ((k : Int) + 1) = (k : Int) + 1 := IntWalk.i64_in _ (by omega)
        have i3 : (k : Int) < (cs.length : Int) := by omega
        have hpl := pickL_len (safeB zs n cs) cs k
        have HE : Hid ((cs.eraseIdx k).length = cs.length - 1) := Lib.hid (List.length_eraseIdx_of_lt hlt)
        have hbox := HK.out.box.1
        have HIA := Lib.hid (HI.out.after HK.out.below)
        obtain ⟨b, off, rfl, hbB, hc⟩ := HIA.out.2 (by omega)
        have HC := Lib.hid hc
        have hck := hc k hlt
        clear hc
        go_wp2_with fail
        go_region_held3 (fun w' => w'.cell? ⟨w.heap.size, 0, none⟩ = some (.slice A n c)) (first | exact hbox | exact HK2.out.box.1 | exact HK3.out.box.1 | exact HK4.out.box.1) ((first | (go_at_call 103; refine (cloneI_any b off cs.length d cs _ (by exact hbB) (by exact HC.out) rfl hq).mono ?_; rintro e w2 ⟨A2, q2, d2, rfl, ho2, hbx⟩; have hb2 := below_undrew hbx; have HK2 := Lib.hid (HK.out.after hb2); have HO2 := Lib.hid (HO.out.afterN hb2); obtain ⟨g2, hg2, HG2⟩ : ∃ g2, (.slice A2 q2 d2 : Value) = .slice (some ⟨g2, 0, none⟩) cs.length d2 ∧ Hid (OwnI w2 wr.heap.size 3 g2 d2 cs) := ownI_of ho2 (by omega); cases hg2) | (go_at_call 102; refine (deleteI_at g2 d2 wr.heap.size k cs.length (cs.length - 1 - k) cs _ (by exact HG2.out) (by omega) rfl (by exact HG2.out.toV.capN) hq).mono ?_; rintro e w3 ⟨rfl, ho3, hb3⟩; have hbb := hb2.trans hb3; have HK3 := Lib.hid (HK.out.after hbb); have HO3 := Lib.hid (HO.out.afterN hbb); have l3 := ho3.intsAt) | (go_at_call 33; refine (iStageStands_any _ _ _ zs _ _ _ (cs.eraseIdx k) _ (by exact HH.out.after HK3.out.below) hn (by exact l3) (by omega)).mono ?_; rintro e w4 ⟨rfl, hb4⟩; have HK4 := Lib.hid (HK3.out.after hb4); have HO4 := Lib.hid (HO3.out.afterN hb4))))
        have hs : stgB zs n (cs.eraseIdx k) (k + (cs.length - 1 - k)) = safeB zs n cs k := by rw [show k + (cs.length - 1 - k) = cs.length - 1 by omega]; rfl
        rw [hs]
        clear hb2 hbx hb3 hbb hb4 ho2 ho3 hbox hck l3 HO2 HO3 hs HIA HK2 HK3 HG2 HC HO HK
        cases hb : safeB zs n cs k
        · have HU := Lib.hid (pickL_no hb (cs := cs))
          go_wp2
          go_roundw
          case rel => exact ⟨k + 1, by go_num, by omega, by rw [HU.out]; exact HO4, HK4⟩
          case measure => simp [intOf]; omega
        · have HU := Lib.hid (pickL_yes hb (cs := cs))
          go_wp2_with (at_builtin; refine wpList_append_int _ rfl (.tmp 27) (.tmp 29) 54 rfl (w.heap.size + 1) 3 Tryzx.underlying54 infoInt _ (pickL (safeB zs n cs) cs k) rfl (HO4.out.alloc _) _ _ (nth cs k) rfl (cell_new1 _ _ _) (by omega) (by have := HK4.out.lt; simp; omega) ?_; intro g' cap' w5 hown5 hgr5)
          have HK5 := Lib.hid (HK4.out.own HO4.out hgr5)
          have hv5 := hown5.toV
          rw [List.length_append, ← HU.out] at hv5
          go_wp2
          go_roundw
          case rel => exact ⟨k + 1, by go_num, by omega, Lib.hid hv5, HK5⟩
          case measure => simp [intOf]; omega
      · obtain rfl : k = cs.length := by omega
        go_wp2
        go_ret
        exact ⟨_, rfl, by rw [HN.out]; exact HO.out.weakenN (Nat.le_succ _), HK.out.below⟩
end
section
variable (A : Option Addr) (n c : Nat) (zs : List Int) (B : Option Addr) (q d : Nat) (cs : List Int) (w : World) (h : RecsAt w w.heap.size 4 A n zs) (hn : n ≤ 1048576) (hi : IntsAt w w.heap.size B q cs) (hq : q ≤ 1048576)
include h hn hi hq
end
end Go.Proofs.YtbpnbhemdbgmjaaGreat.X
end
section
namespace Go.Proofs.YtbpnbhemdbgmjaaGreat.X
open Go.RowKit
set_option linter.unusedSimpArgs false
set_option linter.unusedVariables false
def trapB (zs : List Int) (n : Nat) (cs : List Int) : Bool := carriedB zs n cs cs.length && stgB zs n cs cs.length && decide (0 < cs.length) && decide ((safeL zs n cs).length = 0)
theorem trap_1 {zs cs : List Int} {n : Nat} (h : carriedB zs n cs cs.length = false) : trapB zs n cs = false := by simp [trapB, h]
theorem trap_2 {zs cs : List Int} {n : Nat} (h : stgB zs n cs cs.length = false) : trapB zs n cs = false := by simp [trapB, h]
theorem trap_3 {zs cs : List Int} {n : Nat} (h : ¬ 0 < cs.length) : trapB zs n cs = false := by simp [trapB, show ¬ 0 < cs.length from h]
theorem trap_4 {zs cs : List Int} {n : Nat} (h : carriedB zs n cs cs.length = true) (h2 : stgB zs n cs cs.length = true) (h3 : 0 < cs.length) : trapB zs n cs = decide (((safeL zs n cs).length : Int) = 0) := by
  rw [trapB, h, h2, decide_eq_true h3]
  simp only [Bool.true_and]
  exact decide_eq_decide.2 (by omega)
theorem stg_carried {zs cs : List Int} {n : Nat} (h : carriedB zs n cs cs.length = false) : stgB zs n cs cs.length = false := by
  have : stgN zs n cs cs.length = 0 := by unfold stgN; rw [if_neg (by rw [h]; decide)]
  unfold stgB
  rw [this]
  exact decide_eq_false (by unfold cornN; rw [cornL_f (cornB_2 (by decide))]; simp)
section
variable (A : Option Addr) (n c : Nat) (zs : List Int) (B : Option Addr) (d : Nat) (cs : List Int) (w : World) (h : RecsAt w w.heap.size 4 A n zs) (hn : n ≤ 1048576) (hi : IntsAt w w.heap.size B cs.length cs) (hq : cs.length ≤ 1048576)
include h hn hi hq
set_option maxRecDepth 100000 in
set_option maxHeartbeats 3200000 in
theorem sTrap_any : Calls Tryzx.prog 37 #[.agg #[.slice A n c], .slice B cs.length d] w fun e w' => e = .returned (.bool (trapB zs n cs)) ∧ Below w.heap.size w w' := by
  have HK0 : Hid (Kept w (.slice A n c) (w.alloc (.cells #[.slice A n c] 26))) := Lib.hid (Kept.new w (.slice A n c) 26)
  have HH := Lib.hid h
  have HI := Lib.hid hi
  have cx0 := HK0.out.box.1
  clear h hi
  cases hC : carriedB zs n cs cs.length
  · have HN := Lib.hid (trap_1 hC)
    go_enter Tryzx.func37, Tryz.ntmps37
    go_wp2_with fail
    refine (sCarriedOk_any _ _ _ zs _ _ _ cs _ (by exact HH.out.after HK0.out.below) hn (by exact HI.out.after HK0.out.below) hq).mono ?_
    rw [hC]
    rintro e w1 ⟨rfl, hb1⟩
    have HK1 := Lib.hid (HK0.out.after hb1)
    clear hb1 cx0
    go_wp2
    go_ret
    exact ⟨by rw [HN.out]; rfl, HK1.out.below⟩
  · go_enter Tryzx.func37, Tryz.ntmps37
    go_wp2_with fail
    refine (sCarriedOk_any _ _ _ zs _ _ _ cs _ (by exact HH.out.after HK0.out.below) hn (by exact HI.out.after HK0.out.below) hq).mono ?_
    rw [hC]
    rintro e w1 ⟨rfl, hb1⟩
    have HK1 := Lib.hid (HK0.out.after hb1)
    have cx1 := HK1.out.box.1
    clear hb1 cx0 HK0
    go_wp2_with fail
    refine (sStageStands_any _ _ _ zs _ _ _ cs _ (by exact HH.out.after HK1.out.below) hn (by exact HI.out.after HK1.out.below) hq).mono ?_
    cases hS : stgB zs n cs cs.length
    · have HN := Lib.hid (trap_2 hS)
      rintro e w2 ⟨rfl, hb2⟩
      have HK2 := Lib.hid (HK1.out.after hb2)
      clear hb2 cx1
      go_wp2
      go_ret
      exact ⟨by rw [HN.out]; rfl, HK2.out.below⟩
    · rintro e w2 ⟨rfl, hb2⟩
      have HK2 := Lib.hid (HK1.out.after hb2)
      have cx2 := HK2.out.box.1
      clear hb2 cx1 HK1
      by_cases h0 : 0 < cs.length
      · have HN := Lib.hid (trap_4 hC hS h0)
        have i0 : (cs.length : Int) > 0 := by omega
        go_wp2_with fail
        refine (sSafe_any _ _ _ zs _ _ cs _ (by exact HH.out.after HK2.out.below) hn (by exact HI.out.after HK2.out.below) hq).mono ?_
        rintro e w3 ⟨v3, rfl, ho3, hb3⟩
        have HK3 := Lib.hid (HK2.out.after hb3)
        obtain ⟨A3, q3, d3, rfl⟩ := ho3.sliceN
        obtain rfl := ho3.len
        clear hb3 cx2 ho3
        go_wp2
        go_ret
        exact ⟨by rw [HN.out]; rfl, HK3.out.below⟩
      · have HN := Lib.hid (trap_3 (zs := zs) (n := n) h0)
        have i0 : ¬ (cs.length : Int) > 0 := by omega
        clear cx2
        go_wp2
        go_ret
        exact ⟨by rw [HN.out]; rfl, HK2.out.below⟩
set_option maxRecDepth 100000 in
set_option maxHeartbeats 3200000 in
theorem iTrap_any : Calls Tryzx.prog 38 #[.agg #[.slice A n c], .slice B cs.length d] w fun e w' => e = .returned (.bool (trapB zs n cs)) ∧ Below w.heap.size w w' := by
  have HK0 : Hid (Kept w (.slice A n c) (w.alloc (.cells #[.slice A n c] 26))) := Lib.hid (Kept.new w (.slice A n c) 26)
  have HH := Lib.hid h
  have HI := Lib.hid hi
  have cx0 := HK0.out.box.1
  clear h hi
  by_cases h0 : 0 < cs.length
  · have i0 : (cs.length : Int) > 0 := by omega
    go_enter Tryzx.func38, Tryz.ntmps38
    go_wp2_with fail
    refine (iStageStands_any _ _ _ zs _ _ _ cs _ (by exact HH.out.after HK0.out.below) hn (by exact HI.out.after HK0.out.below) hq).mono ?_
    cases hS : stgB zs n cs cs.length
    · have HN := Lib.hid (trap_2 hS)
      rintro e w2 ⟨rfl, hb2⟩
      have HK2 := Lib.hid (HK0.out.after hb2)
      clear hb2 cx0
      go_wp2
      go_ret
      exact ⟨by rw [HN.out]; rfl, HK2.out.below⟩
    · have hC : carriedB zs n cs cs.length = true := by
        cases hC : carriedB zs n cs cs.length
        · rw [stg_carried hC] at hS; cases hS
        · rfl
      have HN := Lib.hid (trap_4 hC hS h0)
      rintro e w2 ⟨rfl, hb2⟩
      have HK2 := Lib.hid (HK0.out.after hb2)
      have cx2 := HK2.out.box.1
      clear hb2 cx0 HK0 hC hS
      go_wp2_with fail
      refine (iSafe_any _ _ _ zs _ _ cs _ (by exact HH.out.after HK2.out.below) hn (by exact HI.out.after HK2.out.below) hq).mono ?_
      rintro e w3 ⟨v3, rfl, ho3, hb3⟩
      have HK3 := Lib.hid (HK2.out.after hb3)
      obtain ⟨A3, q3, d3, rfl⟩ := ho3.sliceN
      obtain rfl := ho3.len
      clear hb3 cx2 ho3
      go_wp2
      go_ret
      exact ⟨by rw [HN.out]; rfl, HK3.out.below⟩
  · have HN := Lib.hid (trap_3 (zs := zs) (n := n) h0)
    have i0 : ¬ (cs.length : Int) > 0 := by omega
    go_enter Tryzx.func38, Tryz.ntmps38
    go_wp2
    go_ret
    exact ⟨by rw [HN.out]; rfl, HK0.out.below⟩
end
section
variable (A : Option Addr) (n c : Nat) (zs : List Int) (B : Option Addr) (q d : Nat) (cs : List Int) (w : World) (h : RecsAt w w.heap.size 4 A n zs) (hn : n ≤ 1048576) (hi : IntsAt w w.heap.size B q cs) (hq : q ≤ 1048576)
include h hn hi hq
theorem sTrap_at : Calls Tryzx.prog 37 #[.agg #[.slice A n c], .slice B q d] w fun e w' => e = .returned (.bool (trapB zs n cs)) ∧ Below w.heap.size w w' := by
  obtain rfl := hi.1
  exact sTrap_any A n c zs B d cs w h hn hi hq
theorem iTrap_at : Calls Tryzx.prog 38 #[.agg #[.slice A n c], .slice B q d] w fun e w' => e = .returned (.bool (trapB zs n cs)) ∧ Below w.heap.size w w' := by
  obtain rfl := hi.1
  exact iTrap_any A n c zs B d cs w h hn hi hq
end
end Go.Proofs.YtbpnbhemdbgmjaaGreat.X
end
