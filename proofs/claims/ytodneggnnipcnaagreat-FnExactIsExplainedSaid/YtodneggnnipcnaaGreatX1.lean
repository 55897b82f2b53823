/-
  Texts that the law stands on, part 1.
-/
import Derived.Test.YtodneggnnipcnaaGreatC1
import Derived.Test.YtodneggnnipcnaaGreatC10
import Derived.Test.YtodneggnnipcnaaGreatC16
import Derived.Test.YtodneggnnipcnaaGreatC18
import Derived.Test.YtodneggnnipcnaaGreatC19
import Derived.Test.YtodneggnnipcnaaGreatC21
import Derived.Test.YtodneggnnipcnaaGreatC22
import Derived.Test.YtodneggnnipcnaaGreatC23
import Derived.Test.YtodneggnnipcnaaGreatC24
import Derived.WalkKit
import Derived.ProofKit
import Derived.OpenShut
import Derived.SizedLaws
import Derived.ChangeSame
import Derived.Lib.Hide
import Derived.Deep.OwnRows
import Derived.Deep.Draws
import Derived.OwnWalk
import Derived.ArgAppend
import Derived.Test.YtodneggnnipcnaaGreatProg
import Derived.KernelRfl
import Derived.Outline
import Derived.Deep.QuietTactic
import Derived.BigQuiet
import Derived.Deep.RegionHeld3
import Derived.BigRegion
import Derived.IntWalk
import Derived.Deep.DeepCutAuto
set_option maxRecDepth 100000
set_option linter.unusedVariables false
set_option linter.unusedSimpArgs false
namespace Go.Proofs.YtodneggnnipcnaaGreat
section
open Go.ChangeShapes Go.WideShapes Go.ChangeAt Go.RowKit
section
variable {H : Type} {enc : TypeId × Value → H} {P : Program}
end
section
variable {w w' : World} {B B' n : Nat} {A : Option Addr} {zs : List Int}
end
theorem list_ext_nth {xs ys : List Int} (hl : xs.length = ys.length) (h : ∀ k, k < xs.length → nth xs k = nth ys k) : xs = ys := by
 refine List.ext_getElem hl fun k h1 h2 => ?_
 have := h k h1;rwa [nth_get _ _ h1, nth_get _ _ h2] at this
theorem open_ints_arg {H : Type} {enc : TypeId × Value → H} {P : Program} {W : World} {base : Nat} {t e : TypeId} {v : Value} {d : DataW H} {p : List MemPlace} (ht : P.underlying t = some (.slice e)) (he : P.underlying e = some (.int .i64)) (hc : P.cellsOf e = 1)
  (hv : Value.okWide P W .any base t v) (h : DataW.Trod enc P W 0 (fun _ => true) true t v d p) (hlt : ∀ x ∈ p, x.block < W.heap.size) :
  ∃ (A : Option Addr) (n c : Nat) (zs : List Int), v = .slice A n c ∧ IntsAt W W.heap.size A n zs ∧ n ≤ maxLen ∧ n ≤ c ∧ (∀ k, -9223372036854775808 ≤ nth zs k ∧ nth zs k ≤ 9223372036854775807) := by
 obtain ⟨A, n, c, rfl⟩ := okWide_slice ht hv;obtain ⟨fuel, hf⟩ := h;rcases open_ints ht he hc hf with ⟨h0, _⟩ | ⟨a, len, cap, ys, h1, _, hl, hm, hy, hx, hcell, hwf⟩
 ·simp [Value.cells] at h0
  obtain ⟨rfl, rfl, rfl⟩ := h0;exact ⟨_, _, _, [], rfl, IntsAt.nil, by simp [maxLen], Nat.le_refl _, fun k => by simp [nth]⟩
 ·simp [Value.cells] at h1
  obtain ⟨rfl, rfl, rfl⟩ := h1;simp only [if_true] at hy;have hw : ∀ k, -9223372036854775808 ≤ nth (ys.take n) k ∧ nth (ys.take n) k ≤ 9223372036854775807 := by
   intro k;by_cases hk : k < (ys.take n).length
   ·rw [nth_get _ _ hk]
    exact i64_bounds (hwf _ (List.mem_of_mem_take (List.getElem_mem hk)))
   ·simp [nth, List.getD, List.getElem?_eq_none (Nat.le_of_not_lt hk)]
  refine ⟨_, _, _, ys.take n, rfl, ⟨by simp; omega, fun hn => ?_⟩, by omega, hl, hw⟩
  obtain ⟨b, off, rfl, hc'⟩ := ints_at hcell (by omega)
  refine ⟨b, off, rfl, ?_, fun k hk => ?_⟩
  ·have hpx : p = MemPlace.row ⟨b, off, none⟩ ys.length := by simpa using congrArg Prod.snd hx
   have : MemPlace.cell b off ∈ p := by
    rw [hpx];simp [MemPlace.row];omega
   exact hlt _ this
  ·rw [hc' k (by omega)]
   have : nth (ys.take n) k = ys.getD k 0 := by
    simp [nth, List.getD, hk]
   rw [this]
end
section
open Go.RowKit
section
variable {w w' : World} {base : Nat} {E : TypeId} {g cap : Nat} {v : Value} {xs : List Int}
theorem OwnI.toV (h : OwnI w base E g cap xs) : OwnV w base E (.slice (some ⟨g, 0, none⟩) xs.length cap) xs := h
theorem OwnI.intsAt (h : OwnI w base E g cap xs) : IntsAt w w.heap.size (some ⟨g, 0, none⟩) xs.length xs :=
 ⟨rfl, fun _ => ⟨g, 0, rfl, h.blk.2, fun k hk => by rw [Nat.zero_add]; exact h.cell hk⟩⟩
theorem OwnV.intsAt {A : Option Addr} {n c : Nat} (h : OwnV w base E (.slice A n c) xs) : IntsAt w w.heap.size A n xs := by
 rcases h.2 with ⟨h1, h2⟩ | ⟨g, cap, cur, h1, hr⟩
 ·simp at h1
  obtain ⟨rfl, rfl, rfl⟩ := h1;have : xs = [] := List.eq_nil_of_length_eq_zero h2;subst this;exact IntsAt.nil
 ·simp at h1
  obtain ⟨rfl, rfl, rfl⟩ := h1;exact OwnI.intsAt h
end
theorem wpList_append_int {P : Program} (w : World) {ops : Array Oper} {rest : List Oper} {o : Oper} {a : Act} {Q : Exit → Act → World → Prop} (hgd : o.guard = none) (s x : Operand) (t : TypeId)
  (ho : o.op = .call { callee := .builtin .append, args := #[s, x], argTypes := #[t, t] })
  (base : Nat) (E : TypeId) (ht : P.underlying t = some (.slice E)) (hinfo : (P.info? E).map (fun i => (i.zero, i.size, i.bytes)) = some (some (.int .i64 0), 1, 8))
  (v : Value) (xs : List Int) (hs : a.eval s = v) (hown : OwnV w base E v xs) (g c : Nat) (z : Int) (hx : a.eval x = .slice (some ⟨g, 0, none⟩) 1 c)
  (hg : w.cell? ⟨g, 0, none⟩ = some (.int .i64 z)) (hlen : xs.length ≤ 1099511627776) (hbase : base ≤ w.heap.size)
  (h : ∀ g' cap' w', OwnI w' base E g' cap' (xs ++ [z]) → w.grownBy w' v.ownBlock → wpList P ops Q rest (a.put o.dst (.slice (some ⟨g', 0, none⟩) (xs.length + 1) cap')) w') : wpList P ops Q (o :: rest) a w := by
 obtain ⟨i0, hi0, hz0, hz1, hz2⟩ := info_parts hinfo;refine wpList_append_own (P := P) w hgd s x t ho base E i0 (.int .i64 0) 1 8 ht hi0 hz0 hz1 hz2 rfl (by decide) v xs.length _ hs hown ⟨g, 0, none⟩ 1 c [.int .i64 z] hx rfl ?_ ?_ (by unfold maxLen; omega) (by omega) hbase ?_
 ·intro j u hj
  match j, hj with
  | 0, hj => simp at hj; subst hj; simpa [Addr.add] using hg
 ·intro u hu; simp at hu; subst hu; rfl
 ·intro v' w' hown' hgr _
  have h' : OwnV w' base E v' (xs ++ [z]) := by
   unfold OwnV;rw [List.length_append, List.map_append];exact hown'
  rcases h'.form with ⟨_, h2⟩ | ⟨g', cap', rfl, hi⟩
  ·simp at h2
  ·have e : (xs ++ [z]).length = xs.length + 1 := by simp
   rw [e] at *
   exact h g' cap' w' hi hgr
end
end Go.Proofs.YtodneggnnipcnaaGreat
section
namespace Go.Proofs.Tryzx
theorem func5 : prog.funcs[5]? = some Tryz.f5 := by kernel_rfl
theorem func20 : prog.funcs[20]? = some Tryz.f20 := by kernel_rfl
theorem func22 : prog.funcs[22]? = some Tryz.f22 := by kernel_rfl
theorem func42 : prog.funcs[42]? = some Tryz.f42 := by kernel_rfl
theorem func45 : prog.funcs[45]? = some Tryz.f45 := by kernel_rfl
theorem func46 : prog.funcs[46]? = some Tryz.f46 := by kernel_rfl
theorem func71 : prog.funcs[71]? = some Tryz.f71 := by kernel_rfl
theorem func73 : prog.funcs[73]? = some Tryz.f73 := by kernel_rfl
theorem func75 : prog.funcs[75]? = some Tryz.f75 := by kernel_rfl
theorem func76 : prog.funcs[76]? = some Tryz.f76 := by kernel_rfl
theorem func77 : prog.funcs[77]? = some Tryz.f77 := by kernel_rfl
theorem func78 : prog.funcs[78]? = some Tryz.f78 := by kernel_rfl
theorem func84 : prog.funcs[84]? = some Tryz.f84 := by kernel_rfl
theorem func85 : prog.funcs[85]? = some Tryz.f85 := by kernel_rfl
theorem func86 : prog.funcs[86]? = some Tryz.f86 := by kernel_rfl
theorem func87 : prog.funcs[87]? = some Tryz.f87 := by kernel_rfl
theorem func94 : prog.funcs[94]? = some Tryz.f94 := by kernel_rfl
theorem func106 : prog.funcs[106]? = some Tryz.f106 := by kernel_rfl
theorem func107 : prog.funcs[107]? = some Tryz.f107 := by kernel_rfl
theorem func109 : prog.funcs[109]? = some Tryz.f109 := by kernel_rfl
theorem func110 : prog.funcs[110]? = some Tryz.f110 := by kernel_rfl
theorem func111 : prog.funcs[111]? = some Tryz.f111 := by kernel_rfl
theorem func112 : prog.funcs[112]? = some Tryz.f112 := by kernel_rfl
theorem func113 : prog.funcs[113]? = some Tryz.f113 := by kernel_rfl
theorem func130 : prog.funcs[130]? = some Tryz.f130 := by kernel_rfl
theorem func133 : prog.funcs[133]? = some Tryz.f133 := by kernel_rfl
theorem func164 : prog.funcs[164]? = some Tryz.f164 := by kernel_rfl
theorem underlying25 : prog.underlying 25 = some (Go.TypeDesc.slice 77) := (underlying_x 25).trans Tryz.underlying25
theorem underlying77 : prog.underlying 77 = some (Go.TypeDesc.struct #[{ name := "Stone", type := 3, offset := 0, embedded := false, tag := "", pkgPath := "", byteOffset := 0 }, { name := "Weight", type := 3, offset := 1, embedded := false, tag := "", pkgPath := "", byteOffset := 8 }, { name := "X", type := 3, offset := 2, embedded := false, tag := "", pkgPath := "", byteOffset := 16 }]) := (underlying_x 77).trans Tryz.underlying77
@[simp] theorem call5 (args w) : Sem.run prog (callFunc 5 args) w = .ok (.enter 5 args) w := call_x 5 args w func5
@[simp] theorem call20 (args w) : Sem.run prog (callFunc 20 args) w = .ok (.enter 20 args) w := call_x 20 args w func20
@[simp] theorem call22 (args w) : Sem.run prog (callFunc 22 args) w = .ok (.enter 22 args) w := call_x 22 args w func22
@[simp] theorem call42 (args w) : Sem.run prog (callFunc 42 args) w = .ok (.enter 42 args) w := call_x 42 args w func42
@[simp] theorem call45 (args w) : Sem.run prog (callFunc 45 args) w = .ok (.enter 45 args) w := call_x 45 args w func45
@[simp] theorem call46 (args w) : Sem.run prog (callFunc 46 args) w = .ok (.enter 46 args) w := call_x 46 args w func46
@[simp] theorem call71 (args w) : Sem.run prog (callFunc 71 args) w = .ok (.enter 71 args) w := call_x 71 args w func71
@[simp] theorem call73 (args w) : Sem.run prog (callFunc 73 args) w = .ok (.enter 73 args) w := call_x 73 args w func73
@[simp] theorem call75 (args w) : Sem.run prog (callFunc 75 args) w = .ok (.enter 75 args) w := call_x 75 args w func75
@[simp] theorem call76 (args w) : Sem.run prog (callFunc 76 args) w = .ok (.enter 76 args) w := call_x 76 args w func76
@[simp] theorem call77 (args w) : Sem.run prog (callFunc 77 args) w = .ok (.enter 77 args) w := call_x 77 args w func77
@[simp] theorem call78 (args w) : Sem.run prog (callFunc 78 args) w = .ok (.enter 78 args) w := call_x 78 args w func78
@[simp] theorem call84 (args w) : Sem.run prog (callFunc 84 args) w = .ok (.enter 84 args) w := call_x 84 args w func84
@[simp] theorem call85 (args w) : Sem.run prog (callFunc 85 args) w = .ok (.enter 85 args) w := call_x 85 args w func85
@[simp] theorem call86 (args w) : Sem.run prog (callFunc 86 args) w = .ok (.enter 86 args) w := call_x 86 args w func86
@[simp] theorem call87 (args w) : Sem.run prog (callFunc 87 args) w = .ok (.enter 87 args) w := call_x 87 args w func87
@[simp] theorem call94 (args w) : Sem.run prog (callFunc 94 args) w = .ok (.enter 94 args) w := call_x 94 args w func94
@[simp] theorem call106 (args w) : Sem.run prog (callFunc 106 args) w = .ok (.enter 106 args) w := call_x 106 args w func106
@[simp] theorem call107 (args w) : Sem.run prog (callFunc 107 args) w = .ok (.enter 107 args) w := call_x 107 args w func107
@[simp] theorem call109 (args w) : Sem.run prog (callFunc 109 args) w = .ok (.enter 109 args) w := call_x 109 args w func109
@[simp] theorem call110 (args w) : Sem.run prog (callFunc 110 args) w = .ok (.enter 110 args) w := call_x 110 args w func110
@[simp] theorem call111 (args w) : Sem.run prog (callFunc 111 args) w = .ok (.enter 111 args) w := call_x 111 args w func111
@[simp] theorem call112 (args w) : Sem.run prog (callFunc 112 args) w = .ok (.enter 112 args) w := call_x 112 args w func112
@[simp] theorem call113 (args w) : Sem.run prog (callFunc 113 args) w = .ok (.enter 113 args) w := call_x 113 args w func113
@[simp] theorem call130 (args w) : Sem.run prog (callFunc 130 args) w = .ok (.enter 130 args) w := call_x 130 args w func130
@[simp] theorem call133 (args w) : Sem.run prog (callFunc 133 args) w = .ok (.enter 133 args) w := call_x 133 args w func133
@[simp] theorem call164 (args w) : Sem.run prog (callFunc 164 args) w = .ok (.enter 164 args) w := call_x 164 args w func164
end Go.Proofs.Tryzx
end
namespace Go.Proofs.YtodneggnnipcnaaGreat
namespace X
open Go.RowKit
def upto (zs : List Int) (k j : Nat) : Value := if j < k then .int .i64 (nth zs j) else .int .i64 0
theorem upto_at (zs : List Int) (k : Nat) : upto zs k k = .int .i64 0 := by simp [upto]
theorem upto_step (zs : List Int) (k j : Nat) : (if j = k then Value.int .i64 (nth zs k) else upto zs k j) = upto zs (k + 1) j := by
 unfold upto;by_cases h : j = k
 ·subst h; simp
 ·by_cases h' : j < k
  ·simp [h, h', show j < k + 1 by omega]
  ·simp [h, h', show ¬ j < k + 1 by omega]
theorem upto_end (zs : List Int) (n j : Nat) (h : j < n) : upto zs n j = .int .i64 (nth zs j) := by simp [upto, h]
set_option maxHeartbeats 400000 in
theorem toIntS_any (A : Option Addr) (n c : Nat) (zs : List Int) (w : World) (h : IntsAt w w.heap.size A n zs) (hn : n ≤ 1048576) :
  Calls Tryzx.prog 21 #[.slice A n c] w fun e w' => e = .returned (.slice (some ⟨w.heap.size, 0, none⟩) n n) ∧ IntsAt w' w'.heap.size (some ⟨w.heap.size, 0, none⟩) n zs ∧ Below w.heap.size w w' := by
 have H := Lib.hid h;clear h;have hmk := run_make_row' (P := Tryzx.prog) 45 3 (.int .i64 0) 8 Tryzx.underlying45 infoInt rfl .i64 .i64 n (by omega) (by omega)
 go_enter Tryzx.func21, Tryz.ntmps21;go_wp2;clear hmk;go_loopw [4] (fun i wr => ∃ k : Nat, k ≤ n ∧ i = .int .i64 k ∧ wr.rowIs w.heap.size 3 n (upto zs k) ∧ Below w.heap.size w wr) (fun i _ => n - (intOf i).toNat)
 case atStart => exact ⟨0, Nat.zero_le _, rfl, (World.rowIs_made _ _ _ _).congr (fun i _ => by simp [upto]), (Below.refl _ _).alloc (Nat.le_refl _) _⟩
 case round =>
  obtain ⟨k, hk, rfl, hrow, hb⟩ := hrel;by_cases hlt : k < n
  ·obtain ⟨b, off, rfl, hbB, hc⟩ := H.out.2 (by omega)
   have hcx : wr.cell? ⟨b, off + k, none⟩ = some (.int .i64 (nth zs k)) := (hb.cell (by exact hbB)).trans (hc k hlt)
   have hcy : wr.cell? ⟨w.heap.size, k, none⟩ = some (.int .i64 0) := by rw [hrow.cell hlt, upto_at]
   have hfy : wr.frozen? ⟨w.heap.size, k, none⟩ = false := hrow.frozen k;have HR := Lib.hid hrow;have HB := Lib.hid hb;clear hrow hb hc;go_wp2;go_roundw
   case rel => exact ⟨k + 1, by omega, by go_num, (HR.out.set k _).congr (fun j _ => upto_step zs k j), HB.out.setCell (Nat.le_refl _) _⟩
   case measure => simp [intOf]; omega
  ·have hkn : k = n := by omega
   subst hkn;have HR := Lib.hid hrow;have HB := Lib.hid hb;clear hrow hb;go_wp2;go_ret;exact ⟨rfl, intsAt_row HR.out H.out.1 (fun j hj => upto_end zs k j hj), HB.out⟩
def agree (xs ys : List Int) (k : Nat) : Prop := ∀ j, j < k → nth xs j = nth ys j
theorem agree_step {xs ys : List Int} {k : Nat} (h : agree xs ys k) (e : nth xs k = nth ys k) : agree xs ys (k + 1) := by
 intro j hj;by_cases hjk : j = k
 ·subst hjk; exact e
 ·exact h j (by omega)
def eqL (xs ys : List Int) : Bool := decide (xs = ys)
theorem eqL_refl (xs : List Int) : eqL xs xs = true := by simp [eqL]
set_option maxHeartbeats 400000 in
theorem eqIntS_any (A A' : Option Addr) (n n' c c' : Nat) (xs ys : List Int) (w : World) (hx : IntsAt w w.heap.size A n xs) (hy : IntsAt w w.heap.size A' n' ys) (hn : n ≤ 1048576) (hn' : n' ≤ 1048576) :
  Calls Tryzx.prog 23 #[.slice A n c, .slice A' n' c'] w fun e w' => e = .returned (.bool (eqL xs ys)) ∧ Below w.heap.size w w' := by
 by_cases hl : n = n'
 ·subst hl
  have HX := Lib.hid hx;have HY := Lib.hid hy;clear hx hy;have ht : ((n : Int) != (n : Int)) = false := by simp
  go_enter Tryzx.func23, Tryz.ntmps23;go_wp2;go_loopw [5] (fun i wr => ∃ k : Nat, k ≤ n ∧ i = .int .i64 k ∧ agree xs ys k ∧ Below w.heap.size w wr) (fun i _ => n - (intOf i).toNat)
  case atStart => exact ⟨0, Nat.zero_le _, rfl, fun j hj => absurd hj (by omega), Below.refl _ _⟩
  case round =>
   obtain ⟨k, hk, rfl, hag, hb⟩ := hrel;have HB := Lib.hid hb;by_cases hlt : k < n
   ·obtain ⟨b, off, rfl, hbB, hc⟩ := HX.out.2 (by omega)
    obtain ⟨b', off', rfl, hbB', hc'⟩ := HY.out.2 (by omega)
    have hcx : wr.cell? ⟨b, off + k, none⟩ = some (.int .i64 (nth xs k)) := (hb.cell (by exact hbB)).trans (hc k hlt)
    have hcy : wr.cell? ⟨b', off' + k, none⟩ = some (.int .i64 (nth ys k)) := (hb.cell (by exact hbB')).trans (hc' k hlt)
    have hki : (k : Int) < (n : Int) := by omega
    have hk0 : (0 : Int) ≤ (k : Int) := by omega
    clear hc hc' hb;by_cases he : nth xs k = nth ys k
    ·have hne : (nth xs k != nth ys k) = false := by simp [he]
     have HE := Lib.hid he;clear he;go_wp2;go_quiet (fail)
     go_wp2;go_roundw
     case rel => exact ⟨k + 1, by omega, by go_num, agree_step hag HE.out, below_drewN HB.out _⟩
     case measure => simp [intOf]; omega
    ·have hne : (nth xs k != nth ys k) = true := by simp [he]
     have HE := Lib.hid he;clear he;go_wp2;go_quiet (fail)
     go_wp2;go_ret;refine ⟨ret_bool ?_, below_drewN HB.out _⟩;have : xs ≠ ys := fun e => HE.out (by rw [e])
     simp [eqL, this]
   ·have hkn : k = n := by omega
    subst hkn;clear hb;go_wp2;go_ret;refine ⟨ret_bool ?_, HB.out⟩;have : xs = ys := list_ext_nth (by rw [HX.out.1, HY.out.1]) (fun j hj => hag j (by rw [HX.out.1] at hj; exact hj))
    simp [eqL, this]
 ·have H := Lib.hid (show xs ≠ ys from fun e => hl (by rw [← hx.1, ← hy.1, e]))
  have ht : ((n : Int) != (n' : Int)) = true := by simp; omega
  clear hx hy;go_enter Tryzx.func23, Tryz.ntmps23;go_wp2;go_ret;exact ⟨ret_bool (by simp [eqL, H.out]), Below.refl _ _⟩
end X
namespace X
open Go.RowKit
section
variable {w w1 w2 : World}
theorem below_box {o : Obj} (h : Below w.heap.size w w1) : Below w.heap.size w (w1.alloc o) := h.alloc h.size _
end
theorem toIntS_ex (A : Option Addr) (n c : Nat) (zs : List Int) (w : World) (h : IntsAt w w.heap.size A n zs) (hn : n ≤ 1048576) :
  Calls Tryzx.prog 21 #[.slice A n c] w fun e w' => ∃ g, e = .returned (.slice (some ⟨g, 0, none⟩) n n) ∧ w.heap.size ≤ g ∧ IntsAt w' w'.heap.size (some ⟨g, 0, none⟩) n zs ∧ Below w.heap.size w w' :=
 (toIntS_any A n c zs w h hn).mono fun _ _ ⟨he, hi, hb⟩ => ⟨_, he, Nat.le_refl _, hi, hb⟩
end X
namespace X
open Go.RowKit
theorem magnitude_any (a : Int) (w : World) (ha : okG a) : Calls Tryzx.prog 71 #[.int .i64 a] w fun e w' => e = .returned (.int .u64 (a.natAbs : Nat)) ∧ w = w' := by
 go_enter Tryzx.func71, Tryz.ntmps71;go_wp2;all_goals
  go_ret;first
  | exact ⟨ret_int (u64_neg ha (by assumption)), rfl⟩
  | exact ⟨ret_int (u64_pos ha (by assumption)), rfl⟩
set_option maxHeartbeats 400000 in
theorem commonDivisor_any (A : Option Addr) (n c : Nat) (L : List Int) (w : World) (h : IntsAt w w.heap.size A n L) (hn : n ≤ 1048576) (hL : ∀ k, okG (nth L k)) :
  Calls Tryzx.prog 42 #[.slice A n c] w fun e w' => e = .returned (.int .i64 (gcdTo L n : Nat)) ∧ ∃ n, w' = w.drewN n := by
 have H := Lib.hid h;have HL := Lib.hid hL;have HGL : Hid (∀ k, okU (gcdTo L k)) := fun k => okU_gcdTo hL k
 clear h hL;go_enter Tryzx.func42, Tryz.ntmps42;go_wp2;go_loopw [3, 9] (fun x i wr => ∃ (k : Nat), k ≤ n ∧ i = .int .i64 k ∧ x = .int .u64 (gcdTo L k : Nat) ∧ Hid (∃ n, wr = w.drewN n)) (fun _ i _ => n - (intOf i).toNat)
 case atStart => exact ⟨0, Nat.zero_le _, rfl, rfl, Lib.hid ⟨0, rfl⟩⟩
 case round =>
  obtain ⟨k, hk, rfl, rfl, HW⟩ := hrel;by_cases hlt : k < n
  ·obtain ⟨b, off, rfl, hbB, hc⟩ := H.out.2 (by omega)
   have x0 : wr.cell? ⟨b, off + k, none⟩ = some (.int .i64 (nth L k)) := by
    obtain ⟨n', rfl⟩ := HW.out;exact hc k hlt
   have ho := HL.out k;have HS : Hid (gcdTo L (k + 1) = Nat.gcd (gcdTo L k) (nth L k).natAbs) := rfl;have hu := HGL.out k;have hm := okU_nat ho;clear hc;go_wp2_with fail
   refine (magnitude_any _ _ ho).mono ?_;rintro e w' ⟨rfl, rfl⟩;generalize gcdTo L k = d0 at *
   generalize (nth L k).natAbs = m0 at *
   go_wp2;go_loopw [3, 6] (fun x y wr => ∃ (d m : Nat), x = .int .u64 d ∧ y = .int .u64 m ∧ Hid (Nat.gcd d m = Nat.gcd d0 m0) ∧ okU d ∧ okU m ∧ Hid (∃ n, wr = w.drewN n)) (fun _ y _ => (intOf y).toNat)
   case atStart => exact ⟨d0, m0, rfl, rfl, Lib.hid rfl, hu, hm, HW⟩
   case round =>
    clear HW hu hm;obtain ⟨d, m, rfl, rfl, HG, hd, hm, HW⟩ := hrel;by_cases h0 : m = 0
    ·subst h0
     have HF : Hid (gcdTo L (k + 1) = d) := by
      have h := HG.out;rw [Nat.gcd_zero_right] at h;show _ = _
      rw [HS.out, h]
     clear HG hm;go_wp2;go_roundw
     case rel => exact ⟨k + 1, by omega, by go_num, by rw [HF.out], HW⟩
     case measure => simp [intOf]; omega
    ·have hd1 : ((m : Int) != 0) = true := by simp [h0]
     have hd2 : ((m : Int) == 0) = false := by simp [h0]
     have hd3 : ¬ (m : Int) = 0 := by omega
     have he : Int.tmod (d : Int) (m : Int) = ((d % m : Nat) : Int) := by rw [Int.tmod_eq_emod_of_nonneg (by omega)]; rfl
     have HG2 : Hid (Nat.gcd m (d % m) = Nat.gcd d0 m0) := by
      show _ = _
      rw [gcd_round]; exact HG.out
     have HM : Hid (d % m < m) := Nat.mod_lt _ (by omega)
     have ho2 := okU_mod (d := d) h0 hm;clear HG;go_wp2;go_quiet (fail)
     go_wp2;go_roundw
     case rel => exact ⟨m, d % m, rfl, rfl, HG2, hm, ho2, by obtain ⟨n, rfl⟩ := HW.out; exact Lib.hid ⟨_, World.drewN_drewN _ _ _⟩⟩
     case measure => simp [intOf]; exact HM.out
  ·obtain rfl : n = k := by omega
   have hu := u64_to_i64 (HGL.out n);go_wp2;go_ret;exact ⟨rfl, HW.out⟩
theorem okG_nth4 {a b c d : Int} (ha : okG a) (hb : okG b) (hc : okG c) (hd : okG d) : ∀ k, okG (nth [a, b, c, d] k)
 | 0 => ha
 | 1 => hb
 | 2 => hc
 | 3 => hd
 | k + 4 => by simp [nth, List.getD, okG]
set_option maxRecDepth 100000 in
set_option maxHeartbeats 1600000 in
theorem iThrustOk_any (H V M D : Int) (w : World) :
  Calls Tryzx.prog 94 #[.agg #[.int .i64 H, .int .i64 V, .int .i64 M, .int .i64 D]] w fun e w' => e = .returned (.bool (thrB H V M D)) ∧ Below w.heap.size w w' := by
 have HA := Lib.hid ((Below.refl w.heap.size w).alloc (Nat.le_refl _) (.cells #[.int .i64 H, .int .i64 V, .int .i64 M, .int .i64 D] 40));cases h1 : inB D 1 1000000
 ·have HF := Lib.hid (thrB_1 H V M h1)
  go_enter Tryzx.func94, Tryz.ntmps94;go_wp2_with (go_at_call 80; refine (within_any _ _ _ _).mono ?_; rw [h1]; rintro e w' ⟨rfl, rfl⟩);go_ret;exact ⟨ret_bool HF.out.symm, HA.out⟩
 cases h2 : inB H 0 1000000000000
 ·have HF := Lib.hid (thrB_2 V M D h2)
  go_enter Tryzx.func94, Tryz.ntmps94;go_wp2_with (go_at_call 80; refine (within_any _ _ _ _).mono ?_; (first | rw [h1] | rw [h2]); rintro e w' ⟨rfl, rfl⟩)
  go_ret;exact ⟨ret_bool HF.out.symm, HA.out⟩
 cases h3 : inB V (-10000000000000) 10000000000000
 ·have HF := Lib.hid (thrB_3 H M D h3)
  go_enter Tryzx.func94, Tryz.ntmps94;go_wp2_with (go_at_call 80; refine (within_any _ _ _ _).mono ?_; (first | rw [h1] | rw [h2] | rw [h3]); rintro e w' ⟨rfl, rfl⟩)
  go_ret;exact ⟨ret_bool HF.out.symm, HA.out⟩
 cases h4 : inB M (-10000000000000) 10000000000000
 ·have HF := Lib.hid (thrB_4 H V D h4)
  go_enter Tryzx.func94, Tryz.ntmps94;go_wp2_with (go_at_call 80; refine (within_any _ _ _ _).mono ?_; (first | rw [h1] | rw [h2] | rw [h3] | rw [h4]); rintro e w' ⟨rfl, rfl⟩)
  go_ret;exact ⟨ret_bool HF.out.symm, HA.out⟩
 have HT : Hid (decide (gcdTo [H, V, M, D] 4 = 1) = thrB H V M D) := by
  show _ = _
  rw [thrB_t h1 h2 h3 h4, gcdTo_4]
 have HOK : Hid (∀ k, okG (nth [H, V, M, D] k)) := by
  have b1 := inB_iff.1 h1;have b2 := inB_iff.1 h2;have b3 := inB_iff.1 h3;have b4 := inB_iff.1 h4;exact okG_nth4 (okG_of (by omega)) (okG_of (by omega)) (okG_of (by omega)) (okG_of (by omega))
 go_enter Tryzx.func94, Tryz.ntmps94;go_wp2_with (go_at_call 80; refine (within_any _ _ _ _).mono ?_; (first | rw [h1] | rw [h2] | rw [h3] | rw [h4]); rintro e w' ⟨rfl, rfl⟩)
 have hx : IntsAt ((w.alloc (.cells #[.int .i64 H, .int .i64 V, .int .i64 M, .int .i64 D] 40)).alloc (.cells #[.int .i64 H, .int .i64 V, .int .i64 M, .int .i64 D] 3)) ((w.alloc (.cells #[.int .i64 H, .int .i64 V, .int .i64 M, .int .i64 D] 40)).alloc (.cells #[.int .i64 H, .int .i64 V, .int .i64 M, .int .i64 D] 3)).heap.size (some ⟨w.heap.size + 1, 0, none⟩) 4 [H, V, M, D] := by
  have h := intsAt_row (World.rowIs_alloc (w.alloc (.cells #[.int .i64 H, .int .i64 V, .int .i64 M, .int .i64 D] 40)) #[.int .i64 H, .int .i64 V, .int .i64 M, .int .i64 D] 3 (ints [H, V, M, D]) (fun j hj => by simp at hj; match j, hj with | 0, _ => rfl | 1, _ => rfl | 2, _ => rfl | 3, _ => rfl)) (zs := [H, V, M, D]) (by simp) (fun k _ => rfl)
  simp only [World.size_alloc] at h ⊢;exact h
 refine (commonDivisor_any _ _ _ [H, V, M, D] _ (by exact hx) (by omega) HOK.out).mono ?_
 rintro e w1 ⟨rfl, n1, rfl⟩;have HG := Lib.hid (gcd_one (gcdTo [H, V, M, D] 4));clear hx;generalize gcdTo [H, V, M, D] 4 = g0 at *
 go_wp2;go_ret;exact ⟨ret_bool (by rw [← HT.out]; first | exact HG.out | simp), below_drewN (HA.out.alloc (by simp) _) _⟩
end X
namespace X
open Go.RowKit
theorem at_below (w : World) (v : Value) (H V M D : Int) (T U : TypeId) : Below w.heap.size w ((w.alloc (.cells #[v] T)).alloc (.cells #[.int .i64 H, .int .i64 V, .int .i64 M, .int .i64 D] U)) := ((Below.refl _ _).alloc (Nat.le_refl _) _).alloc (by simp) _
end X
namespace X
open Go.RowKit
def fulB (a b c d H V M D : Int) : Bool := thrB H V M D && (rowB a b c d && metB a b c d H V M D)
theorem fulB_1 (a b c d : Int) {H V M D : Int} (h : thrB H V M D = false) : fulB a b c d H V M D = false := by simp [fulB, h]
theorem fulB_2 {a b c d : Int} (H V M D : Int) (h : rowB a b c d = false) : fulB a b c d H V M D = false := by simp [fulB, h]
theorem fulB_t {a b c d H V M D : Int} (h : thrB H V M D = true) (h2 : rowB a b c d = true) : fulB a b c d H V M D = metB a b c d H V M D := by simp [fulB, h, h2]
def fulAt (rs : List Int) (H V M D : Int) (i : Nat) : Bool := fulB (nth rs (i * 4)) (nth rs (i * 4 + 1)) (nth rs (i * 4 + 2)) (nth rs (i * 4 + 3)) H V M D
def fulAll (rs : List Int) (n : Nat) (H V M D : Int) : Bool := inB (n : Int) 1 40 && allB (fulAt rs H V M D) n
theorem fulAll_1 (rs : List Int) {n : Nat} (H V M D : Int) (h : inB (n : Int) 1 40 = false) : fulAll rs n H V M D = false := by simp [fulAll, h]
theorem fulAll_2 {rs : List Int} {n k : Nat} {H V M D : Int} (hk : k < n) (h : fulAt rs H V M D k = false) : fulAll rs n H V M D = false := by simp [fulAll, allB_f hk h]
theorem fulAll_t {rs : List Int} {n : Nat} {H V M D : Int} (h1 : inB (n : Int) 1 40 = true) (h : allTo (fulAt rs H V M D) n) : fulAll rs n H V M D = true := by simp [fulAll, h1, allB_t h]
theorem fulAll_s {rs : List Int} {n : Nat} {H V M D : Int} (h : allTo (fulAt rs H V M D) n) : fulAll rs n H V M D = inB (n : Int) 1 40 := by simp [fulAll, allB_t h]
set_option maxRecDepth 100000 in
set_option maxHeartbeats 1600000 in
theorem sides_any (a b c d H V M D : Int) (w : World) (hb : SideBd a b c d H V M D) :
  Calls Tryzx.prog 164 #[.agg #[.int .i64 a, .int .i64 b, .int .i64 c, .int .i64 d], .agg #[.int .i64 H, .int .i64 V, .int .i64 M, .int .i64 D]] w fun e w' => e = .returned (.tuple #[.int .i64 (a * H + b * V + c * M), .int .i64 (d * D)]) ∧ Below w.heap.size w w' := by
 obtain ⟨b1, b2, b3, b4⟩ := hb;have HA := Lib.hid (((Below.refl w.heap.size w).alloc (Nat.le_refl _) (.cells #[.int .i64 a, .int .i64 b, .int .i64 c, .int .i64 d] 168)).alloc (by simp) (.cells #[.int .i64 H, .int .i64 V, .int .i64 M, .int .i64 D] 40))
 go_enter Tryzx.func164, Tryz.ntmps164;go_wp2_with fail
 go_quiet (fail)
 go_wp2;go_ret2;exact ⟨rfl, below_drewN HA.out _⟩
set_option maxRecDepth 100000 in
set_option maxHeartbeats 1600000 in
theorem iFulfills_any (a b c d H V M D : Int) (w : World) :
  Calls Tryzx.prog 133 #[.agg #[.int .i64 H, .int .i64 V, .int .i64 M, .int .i64 D], .agg #[.int .i64 a, .int .i64 b, .int .i64 c, .int .i64 d]] w fun e w' => e = .returned (.bool (fulB a b c d H V M D)) ∧ Below w.heap.size w w' := by
 have HT := Lib.hid (TRi.start w a b c d H V M D 40 168);cases hT : thrB H V M D
 ·have HF := Lib.hid (fulB_1 a b c d hT)
  go_enter Tryzx.func133, Tryz.ntmps133;go_wp2_with fail
  refine (iThrustOk_any _ _ _ _ _).mono ?_;rw [hT];rintro e w1 ⟨rfl, hb1⟩;have HT1 := Lib.hid (HT.out.after hb1);clear hb1;go_wp2;go_ret;exact ⟨ret_bool HF.out.symm, HT1.out.below⟩
 cases hR : rowB a b c d
 ·have HF := Lib.hid (fulB_2 H V M D hR)
  go_enter Tryzx.func133, Tryz.ntmps133;go_wp2_with fail
  refine (iThrustOk_any _ _ _ _ _).mono ?_;rw [hT];rintro e w1 ⟨rfl, hb1⟩;have HT1 := Lib.hid (HT.out.after hb1);obtain ⟨c0, c1, c2, c3⟩ := HT1.out.row.1;clear hb1;go_wp2_with fail
  refine (iRowOk_any _ _ _ _ _).mono ?_;rw [hR];rintro e w2 ⟨rfl, hb2⟩;have HT2 := Lib.hid (HT1.out.after hb2);clear hb2;go_wp2;go_ret;exact ⟨ret_bool HF.out.symm, HT2.out.below⟩
 have HF := Lib.hid (fulB_t hT hR);have HS := Lib.hid (sideBd hT hR);go_enter Tryzx.func133, Tryz.ntmps133;go_wp2_with fail
 refine (iThrustOk_any _ _ _ _ _).mono ?_;rw [hT];rintro e w1 ⟨rfl, hb1⟩;have HT1 := Lib.hid (HT.out.after hb1);obtain ⟨c0, c1, c2, c3⟩ := HT1.out.row.1;clear hb1;go_wp2_with fail
 refine (iRowOk_any _ _ _ _ _).mono ?_;rw [hR];rintro e w2 ⟨rfl, hb2⟩;have HT2 := Lib.hid (HT1.out.after hb2);clear c0 c1 c2 c3 hb2;obtain ⟨c0, c1, c2, c3⟩ := HT2.out.row.1;obtain ⟨d0, d1, d2, d3⟩ := HT2.out.thr.1;go_wp2_with fail
 refine (sides_any _ _ _ _ _ _ _ _ _ HS.out).mono ?_;rintro e w3 ⟨rfl, hb3⟩;have HT3 := Lib.hid (HT2.out.after hb3);clear c0 c1 c2 c3 d0 d1 d2 d3 hb3;go_wp2;go_ret;exact ⟨ret_bool (by rw [HF.out]; try rfl), HT3.out.below⟩
set_option maxRecDepth 100000 in
set_option maxHeartbeats 1600000 in
theorem sFulfills_any (a b c d H V M D : Int) (w : World) :
  Calls Tryzx.prog 130 #[.agg #[.int .i64 H, .int .i64 V, .int .i64 M, .int .i64 D], .agg #[.int .i64 a, .int .i64 b, .int .i64 c, .int .i64 d]] w fun e w' => e = .returned (.bool (fulB a b c d H V M D)) ∧ Below w.heap.size w w' := by
 have HT := Lib.hid (TRs.start w a b c d H V M D 40 168);cases hT : thrB H V M D
 ·have HF := Lib.hid (fulB_1 a b c d hT)
  go_enter Tryzx.func130, Tryz.ntmps130;go_wp2_with fail
  refine (sThrustOk_any _ _ _ _ _).mono ?_;rw [hT];rintro e w1 ⟨rfl, hb1⟩;have HT1 := Lib.hid (HT.out.after hb1);clear hb1;go_wp2;go_ret;exact ⟨ret_bool HF.out.symm, HT1.out.below⟩
 cases hR : rowB a b c d
 ·have HF := Lib.hid (fulB_2 H V M D hR)
  go_enter Tryzx.func130, Tryz.ntmps130;go_wp2_with fail
  refine (sThrustOk_any _ _ _ _ _).mono ?_;rw [hT];rintro e w1 ⟨rfl, hb1⟩;have HT1 := Lib.hid (HT.out.after hb1);obtain ⟨c0, c1, c2, c3⟩ := HT1.out.row.1;clear hb1;go_wp2_with fail
  refine (sRowOk_any _ _ _ _ _).mono ?_;rw [hR];rintro e w2 ⟨rfl, hb2⟩;have HT2 := Lib.hid (HT1.out.after hb2);clear hb2;go_wp2;go_ret;exact ⟨ret_bool HF.out.symm, HT2.out.below⟩
 have HF := Lib.hid (fulB_t hT hR);have HS := Lib.hid (sideBd hT hR);go_enter Tryzx.func130, Tryz.ntmps130;go_wp2_with fail
 refine (sThrustOk_any _ _ _ _ _).mono ?_;rw [hT];rintro e w1 ⟨rfl, hb1⟩;have HT1 := Lib.hid (HT.out.after hb1);obtain ⟨c0, c1, c2, c3⟩ := HT1.out.row.1;clear hb1;go_wp2_with fail
 refine (sRowOk_any _ _ _ _ _).mono ?_;rw [hR];rintro e w2 ⟨rfl, hb2⟩;have HT2 := Lib.hid (HT1.out.after hb2);clear c0 c1 c2 c3 hb2;obtain ⟨c0, c1, c2, c3⟩ := HT2.out.row.1;obtain ⟨d0, d1, d2, d3⟩ := HT2.out.thr.1;go_wp2_with fail
 refine (l10Holds_any _ _ _ _ _ _ _ _ _ HS.out).mono ?_;rintro e w3 ⟨rfl, hb3⟩;have HT3 := Lib.hid (HT2.out.after hb3);clear c0 c1 c2 c3 d0 d1 d2 d3 hb3;go_wp2;go_ret;exact ⟨ret_bool (by rw [HF.out]; try rfl), HT3.out.below⟩
set_option maxRecDepth 100000 in
set_option maxHeartbeats 1600000 in
theorem iFulfillsAll_any (A : Option Addr) (n c : Nat) (rs : List Int) (H V M D : Int) (w : World) (h : RecsAt w w.heap.size 4 A n rs) (hn : n ≤ 1048576) :
  Calls Tryzx.prog 110 #[.agg #[.int .i64 H, .int .i64 V, .int .i64 M, .int .i64 D], .slice A n c] w fun e w' => e = .returned (.bool (fulAll rs n H V M D)) ∧ Below w.heap.size w w' := by
 have HL := Lib.hid h;have BX := Lib.hid (Box4.new w H V M D 40);have B0 := Lib.hid ((Below.refl w.heap.size w).alloc (Nat.le_refl _) (.cells #[.int .i64 H, .int .i64 V, .int .i64 M, .int .i64 D] 40));clear h;cases hI : inB (n : Int) 1 40
 ·have HF := Lib.hid (fulAll_1 rs H V M D hI)
  go_enter Tryzx.func110, Tryz.ntmps110;go_wp2_with (go_at_call 80; refine (within_any _ _ _ _).mono ?_; rw [hI]; rintro e w' ⟨rfl, rfl⟩);go_ret;exact ⟨ret_bool HF.out.symm, B0.out⟩
 have HT0 := Lib.hid (fun e => fulAll_t (rs := rs) (H := H) (V := V) (M := M) (D := D) hI e)
 go_enter Tryzx.func110, Tryz.ntmps110;go_wp2_with (go_at_call 80; refine (within_any _ _ _ _).mono ?_; rw [hI]; rintro e w' ⟨rfl, rfl⟩);go_loopw [13] (fun i wr => ∃ k : Nat, k ≤ n ∧ i = .int .i64 k ∧ Hid (allTo (fulAt rs H V M D) k) ∧ Hid (Box4 wr w.heap.size H V M D) ∧ Hid (Below w.heap.size w wr)) (fun i _ => n - (intOf i).toNat)
 case atStart => exact ⟨0, Nat.zero_le _, rfl, Lib.hid (allTo_0 _), BX, B0⟩
 case round =>
  clear BX B0;obtain ⟨k, hk, rfl, HP, HX, HB⟩ := hrel;by_cases hlt : k < n
  ·obtain ⟨b, off, rfl, hbB, hc⟩ := HL.out.2 (by omega)
   obtain ⟨x0, x1, x2, x3⟩ := rwCells (fun i hi => (HB.out.cell (by exact hbB)).trans (hc i hi)) hlt
   have hz := HB.out.size;have HS := Lib.hid (fun e => allTo_step HP.out (k := k) e)
   have HF0 := Lib.hid (fun e => fulAll_2 (rs := rs) (H := H) (V := V) (M := M) (D := D) hlt e)
   have eR : fulAt rs H V M D k = fulB (nth rs (k * 4)) (nth rs (k * 4 + 1)) (nth rs (k * 4 + 2)) (nth rs (k * 4 + 3)) H V M D := rfl;have ER := Lib.hid eR;clear hc eR;generalize nth rs (k * 4) = y0 at *
   generalize nth rs (k * 4 + 1) = y1 at *
   generalize nth rs (k * 4 + 2) = y2 at *
   generalize nth rs (k * 4 + 3) = y3 at *
   have HBA := Lib.hid (HB.out.alloc hz (.cells #[.int .i64 y0, .int .i64 y1, .int .i64 y2, .int .i64 y3] 168));have HXA := Lib.hid (HX.out.after ((Below.refl _ _).alloc (Nat.le_refl _) (.cells #[.int .i64 y0, .int .i64 y1, .int .i64 y2, .int .i64 y3] 168)));obtain ⟨⟨z0, z1, z2, z3⟩, _⟩ := Box4.new wr y0 y1 y2 y3 168;obtain ⟨c0, c1, c2, c3⟩ := HXA.out.1;go_wp2_with fail
   refine (iFulfills_any _ _ _ _ _ _ _ _ _).mono ?_;rintro e w1 ⟨rfl, hb1⟩;have HB1 := Lib.hid (HBA.out.trans (hb1.mono (by first | (simp; omega) | omega)))
   have HX1 := Lib.hid (HXA.out.after hb1);clear hb1 c0 c1 c2 c3;cases g : fulB y0 y1 y2 y3 H V M D
   ·have HF := Lib.hid (HF0.out (ER.out.trans g))
    go_wp2;go_ret;exact ⟨ret_bool HF.out.symm, HB1.out⟩
   ·have HS1 := Lib.hid (HS.out (ER.out.trans g))
    go_wp2;go_roundw
    case rel => exact ⟨k + 1, by omega, by go_num, HS1, HX1, HB1⟩
    case measure => simp [intOf]; omega
  ·obtain rfl : k = n := by omega
   have HF := Lib.hid (HT0.out HP.out);go_wp2;go_ret;exact ⟨ret_bool HF.out.symm, HB.out⟩
set_option maxRecDepth 100000 in
set_option maxHeartbeats 1600000 in
theorem sFulfillsAll_any (A : Option Addr) (n c : Nat) (rs : List Int) (H V M D : Int) (w : World) (h : RecsAt w w.heap.size 4 A n rs) (hn : n ≤ 1048576) :
  Calls Tryzx.prog 106 #[.agg #[.int .i64 H, .int .i64 V, .int .i64 M, .int .i64 D], .slice A n c] w fun e w' => e = .returned (.bool (fulAll rs n H V M D)) ∧ Below w.heap.size w w' := by
 have HL := Lib.hid h;have BX := Lib.hid (Box4.new w H V M D 40);have B0 := Lib.hid ((Below.refl w.heap.size w).alloc (Nat.le_refl _) (.cells #[.int .i64 H, .int .i64 V, .int .i64 M, .int .i64 D] 40));clear h;go_enter Tryzx.func106, Tryz.ntmps106;go_wp2;go_loopw [5] (fun i wr => ∃ k : Nat, k ≤ n ∧ i = .int .i64 k ∧ Hid (allTo (fulAt rs H V M D) k) ∧ Hid (Box4 wr w.heap.size H V M D) ∧ Hid (Below w.heap.size w wr)) (fun i _ => n - (intOf i).toNat)
 case atStart => exact ⟨0, Nat.zero_le _, rfl, Lib.hid (allTo_0 _), BX, B0⟩
 case round =>
  clear BX B0;obtain ⟨k, hk, rfl, HP, HX, HB⟩ := hrel;by_cases hlt : k < n
  ·obtain ⟨b, off, rfl, hbB, hc⟩ := HL.out.2 (by omega)
   obtain ⟨x0, x1, x2, x3⟩ := rwCells (fun i hi => (HB.out.cell (by exact hbB)).trans (hc i hi)) hlt
   have hz := HB.out.size;have HS := Lib.hid (fun e => allTo_step HP.out (k := k) e)
   have HF0 := Lib.hid (fun e => fulAll_2 (rs := rs) (H := H) (V := V) (M := M) (D := D) hlt e)
   have eR : fulAt rs H V M D k = fulB (nth rs (k * 4)) (nth rs (k * 4 + 1)) (nth rs (k * 4 + 2)) (nth rs (k * 4 + 3)) H V M D := rfl;have ER := Lib.hid eR;clear hc eR;generalize nth rs (k * 4) = y0 at *
   generalize nth rs (k * 4 + 1) = y1 at *
   generalize nth rs (k * 4 + 2) = y2 at *
   generalize nth rs (k * 4 + 3) = y3 at *
   have HBA := HB;have HXA := HX;obtain ⟨c0, c1, c2, c3⟩ := HXA.out.1;have ki : (k : Int) < (n : Int) := by omega
   have k0 : (0 : Int) ≤ (k : Int) := by omega
   have hwl : w.heap.size < wr.heap.size := HX.out.2;have hbl : b < wr.heap.size := by omega
   go_wp2;go_region_held3 (fun w' => (w'.cell? ⟨w.heap.size, 0, none⟩ = some (.int .i64 H) ∧ w'.cell? ⟨w.heap.size, 1, none⟩ = some (.int .i64 V) ∧ w'.cell? ⟨w.heap.size, 2, none⟩ = some (.int .i64 M) ∧ w'.cell? ⟨w.heap.size, 3, none⟩ = some (.int .i64 D)) ∧ (w'.cell? ⟨b, off + k * 4, none⟩ = some (.int .i64 y0) ∧ w'.cell? ⟨b, off + k * 4 + 1, none⟩ = some (.int .i64 y1) ∧ w'.cell? ⟨b, off + k * 4 + 2, none⟩ = some (.int .i64 y2) ∧ w'.cell? ⟨b, off + k * 4 + 3, none⟩ = some (.int .i64 y3))) (first | exact ⟨⟨c0, c1, c2, c3⟩, ⟨x0, x1, x2, x3⟩⟩ | (refine ⟨⟨?_, ?_, ?_, ?_⟩, ⟨?_, ?_, ?_, ?_⟩⟩ <;> (rw [hcc _ _ (by first | omega | (simp <;> omega))]; assumption)))
    ((go_at_call 130; refine (sFulfills_any _ _ _ _ _ _ _ _ _).mono ?_; rintro e w1 ⟨rfl, hb1⟩; obtain ⟨hcc, hff⟩ := bcell hb1))
   have HB1 := Lib.hid (HBA.out.drew.trans (hb1.mono (by first | (simp; omega) | omega)))
   have HX1 : Hid (Box4 w1 w.heap.size H V M D) := (show Box4 wr.drew _ _ _ _ _ from HXA.out).after hb1
   clear hb1 c0 c1 c2 c3 hcc hff;cases g : fulB y0 y1 y2 y3 H V M D
   ·have HF := Lib.hid (HF0.out (ER.out.trans g))
    go_wp2;go_ret;exact ⟨ret_bool HF.out.symm, HB1.out⟩
   ·have HS1 := Lib.hid (HS.out (ER.out.trans g))
    go_wp2;go_roundw
    case rel => exact ⟨k + 1, by omega, by go_num, HS1, HX1, HB1⟩
    case measure => simp [intOf]; omega
  ·obtain rfl : k = n := by omega
   have HF := Lib.hid (fulAll_s HP.out);go_wp2_with (go_at_call 79; refine (l01In_any _ _ _ _).mono ?_; rintro e w' ⟨rfl, rfl⟩);go_ret;exact ⟨ret_bool HF.out.symm, HB.out⟩
end X
namespace Rn
open Go.Conc Go.WideShapes
section
variable {P : Program} {w : World} {r : Reach} {base : Nat} {t e u : TypeId} {fs : Array Field} {A : Option Addr} {n c : Nat}
end
section
variable {noT : TypeId} {ws : List Win} {v : World} {B K n i : Nat} {A : Option Addr} {zs : List Int}
theorem ints_recs (h : IntsAt v B A n zs) : RecsAt v B 1 A n zs := ⟨by rw [h.1, Nat.mul_one], by rw [Nat.mul_one]; exact h.2⟩
theorem recs_ints (h : RecsAt v B 1 A n zs) : IntsAt v B A n zs := ⟨by rw [h.1, Nat.mul_one], by have := h.2; rwa [Nat.mul_one] at this⟩
theorem lone_ints (h : IntsAt v B A n zs) (hi : ws[i]? = some (winOf .i64 A (n * 1) zs)) (t : Tp) (d : Nat) : IntsAt ((lworld noT ws v).tp t d) ((lworld noT ws v).tp t d).heap.size (lA A i) n zs := recs_ints (lone_recs (ints_recs h) hi t d)
end
end Rn
end Go.Proofs.YtodneggnnipcnaaGreat
section
namespace Go.Proofs.Tryzx
theorem ntmps5 : Tryz.f5.ntmps = 61 := Tryz.ntmps5
end Go.Proofs.Tryzx
end
namespace Go.Proofs.YtodneggnnipcnaaGreat
namespace X
open Go.RowKit
def LeftPost (w : World) (zs ls : List Int) (q n : Nat) (e : Ending) (w' : World) : Prop :=
 ∃ A c A' c', e = .returned (.tuple #[.slice A n c, .slice A' n c']) ∧ IntsAt w' w'.heap.size A n (lwL zs ls q n) ∧ IntsAt w' w'.heap.size A' n (lmL zs ls q n) ∧ Below w.heap.size w w'
theorem sLeft_any (A : Option Addr) (n c : Nat) (zs : List Int) (B : Option Addr) (q d : Nat) (ls : List Int) (w : World) (h : RecsAt w w.heap.size 4 A n zs) (hl : RecsAt w w.heap.size 3 B q ls) (hL : loadsB zs n ls q = true) :
  Calls Tryzx.prog 108 #[.agg #[.slice A n c], .slice B q d] w (LeftPost w zs ls q n) :=
 (sLeftO_any A n c zs B q d ls w h hl hL).mono fun _ _ ⟨A6, c6, A7, c7, e, h6, h7, hb⟩ => ⟨A6, c6, A7, c7, e, h6.ints, h7.ints, hb⟩
end X
namespace X
open Go.RowKit
theorem iRowsOf_any (A : Option Addr) (n c : Nat) (zs : List Int) (B : Option Addr) (q d : Nat) (ls : List Int) (w : World) (h : RecsAt w w.heap.size 4 A n zs) (hn : n ≤ 1048576) (hl : RecsAt w w.heap.size 3 B q ls) (hq : q ≤ 1048576) :
  Calls Tryzx.prog 93 #[.agg #[.slice A n c], .slice B q d] w (RowsPost w (rowsN zs n ls q) (rowsZ zs n ls q)) :=
 (iRowsOfN_any A n c zs B q d ls w h hn hl hq).mono fun _ _ h => h.1
end X
namespace X
open Go.RowKit
def stB (zs : List Int) (n : Nat) (ls : List Int) (q : Nat) (H V M D : Int) : Bool := fulAll (rowsZ zs n ls q) (rowsN zs n ls q) H V M D
theorem rowsN_le (zs : List Int) (n : Nat) (ls : List Int) (q : Nat) : rowsN zs n ls q ≤ 17 := by
 unfold rowsN;split
 ·rename_i h
  have := (archB_out (loadsB_out h).1).1;omega
 ·omega
set_option maxRecDepth 100000 in
set_option maxHeartbeats 1600000 in
theorem iStandsWith_any (A : Option Addr) (n c : Nat) (zs : List Int) (B : Option Addr) (q d : Nat) (ls : List Int) (H V M D : Int) (w : World) (h : RecsAt w w.heap.size 4 A n zs) (hn : n ≤ 1048576) (hl : RecsAt w w.heap.size 3 B q ls) (hq : q ≤ 1048576) :
    Calls Tryzx.prog 86 #[.agg #[.slice A n c], .slice B q d, .agg #[.int .i64 H, .int .i64 V, .int .i64 M, .int .i64 D]] w fun e w' => e = .returned (.bool (stB zs n ls q H V M D)) ∧ Below w.heap.size w w' := by
  have at0 := AT.start w (.slice A n c) H V M D 32 40;have b0 := at_below w (.slice A n c) H V M D 32 40;have h1 := h.after b0;have l1 := hl.after b0;have a0 := at0.arch.1;obtain ⟨t0, t1, t2, t3⟩ := at0.thr.1;have hr17 := rowsN_le zs n ls q;have HST : Hid (stB zs n ls q H V M D = fulAll (rowsZ zs n ls q) (rowsN zs n ls q) H V M D) := rfl;generalize stB zs n ls q H V M D = sb at *
  clear b0 h hl;go_enter Tryzx.func86, Tryz.ntmps86;go_wp2;go_region_held3 (fun w' => w'.cell? ⟨w.heap.size, 0, none⟩ = some (.slice A n c) ∧ (w'.cell? ⟨w.heap.size + 1, 0, none⟩ = some (.int .i64 H) ∧ w'.cell? ⟨w.heap.size + 1, 1, none⟩ = some (.int .i64 V) ∧ w'.cell? ⟨w.heap.size + 1, 2, none⟩ = some (.int .i64 M) ∧ w'.cell? ⟨w.heap.size + 1, 3, none⟩ = some (.int .i64 D))) (first | exact ⟨a0, t0, t1, t2, t3⟩ | exact ⟨at2.arch.1, at2.thr.1⟩ | exact ⟨at3.arch.1, at3.thr.1⟩)
    ((first
      | (go_at_call 93; refine (iRowsOf_any _ _ _ zs _ _ _ ls _ (by exact h1) hn (by exact l1) hq).mono ?_; rintro e w2 ⟨v2, rfl, ho2, hbx2⟩; have hb2 := below_undrew hbx2; have at2 := at0.after hb2; obtain ⟨A2, c2, rfl, _⟩ := ho2.slice; have r2 := ho2.recs)
      | (go_at_call 110; refine (iFulfillsAll_any _ _ _ _ _ _ _ _ _ (by exact r2) (by omega)).mono ?_; rintro e w3 ⟨rfl, hb3⟩; have at3 := at2.after hb3)))
  have HB3 := Lib.hid at3.below;clear at0 at2 at3 hb2 hb3 hbx2 ho2 r2 a0 t0 t1 t2 t3 h1 l1;go_wp2;go_ret;exact ⟨ret_bool (by rw [HST.out]), HB3.out⟩
set_option maxRecDepth 100000 in
set_option maxHeartbeats 1600000 in
theorem sStandsWith_any (A : Option Addr) (n c : Nat) (zs : List Int) (B : Option Addr) (q d : Nat) (ls : List Int) (H V M D : Int) (w : World) (h : RecsAt w w.heap.size 4 A n zs) (hn : n ≤ 1048576) (hl : RecsAt w w.heap.size 3 B q ls) (hq : q ≤ 1048576) :
    Calls Tryzx.prog 84 #[.agg #[.slice A n c], .slice B q d, .agg #[.int .i64 H, .int .i64 V, .int .i64 M, .int .i64 D]] w fun e w' => e = .returned (.bool (stB zs n ls q H V M D)) ∧ Below w.heap.size w w' := by
  have at0 := AT.start w (.slice A n c) H V M D 32 40;have b0 := at_below w (.slice A n c) H V M D 32 40;have h1 := h.after b0;have l1 := hl.after b0;have a0 := at0.arch.1;obtain ⟨t0, t1, t2, t3⟩ := at0.thr.1;have hr17 := rowsN_le zs n ls q;have HST : Hid (stB zs n ls q H V M D = fulAll (rowsZ zs n ls q) (rowsN zs n ls q) H V M D) := rfl;generalize stB zs n ls q H V M D = sb at *
  clear b0 h hl;go_enter Tryzx.func84, Tryz.ntmps84;go_wp2;go_region_held3 (fun w' => w'.cell? ⟨w.heap.size, 0, none⟩ = some (.slice A n c) ∧ (w'.cell? ⟨w.heap.size + 1, 0, none⟩ = some (.int .i64 H) ∧ w'.cell? ⟨w.heap.size + 1, 1, none⟩ = some (.int .i64 V) ∧ w'.cell? ⟨w.heap.size + 1, 2, none⟩ = some (.int .i64 M) ∧ w'.cell? ⟨w.heap.size + 1, 3, none⟩ = some (.int .i64 D))) (first | exact ⟨a0, t0, t1, t2, t3⟩ | exact ⟨at2.arch.1, at2.thr.1⟩ | exact ⟨at3.arch.1, at3.thr.1⟩)
    ((first
      | (go_at_call 102; refine (sRowsOf_any _ _ _ zs _ _ _ ls _ (by exact h1) hn (by exact l1) hq).mono ?_; rintro e w2 ⟨v2, rfl, ho2, hbx2⟩; have hb2 := below_undrew hbx2; have at2 := at0.after hb2; obtain ⟨A2, c2, rfl, _⟩ := ho2.slice; have r2 := ho2.recs)
      | (go_at_call 106; refine (sFulfillsAll_any _ _ _ _ _ _ _ _ _ (by exact r2) (by omega)).mono ?_; rintro e w3 ⟨rfl, hb3⟩; have at3 := at2.after hb3)))
  have HB3 := Lib.hid at3.below;clear at0 at2 at3 hb2 hb3 hbx2 ho2 r2 a0 t0 t1 t2 t3 h1 l1;go_wp2;go_ret;exact ⟨ret_bool (by rw [HST.out]), HB3.out⟩
end X
namespace X
open Go.RowKit
def momI (H V M D W Mo px py : Int) : Int := M - D * Mo - px * (V - D * W) + py * H
structure MomBd (H V M D W Mo px py : Int) : Prop where
 m : -10000000000000 ≤ M ∧ M ≤ 10000000000000
 v : -10000000000000 ≤ V ∧ V ≤ 10000000000000
 dm : -80000000000000 ≤ D * Mo ∧ D * Mo ≤ 80000000000000
 dw : -2000000000000 ≤ D * W ∧ D * W ≤ 2000000000000
 px : -720000000000000 ≤ px * (V - D * W) ∧ px * (V - D * W) ≤ 720000000000000
 py : -60000000000000 ≤ py * H ∧ py * H ≤ 60000000000000
theorem momBd {H V M D W Mo px py : Int} (ht : thrB H V M D = true) (hW : -2000000 ≤ W ∧ W ≤ 2000000) (hM : -80000000 ≤ Mo ∧ Mo ≤ 80000000) (hp : ptB px py = true) : MomBd H V M D W Mo px py := by
 obtain ⟨h1, h2, h3, h4, _⟩ := thrB_out ht;rw [ptB_iff] at hp;have e1 := mul_bd (a := D) (b := Mo) (m := 1000000) (n := 80000000) (by omega) hM
 have e2 := mul_bd (a := D) (b := W) (m := 1000000) (n := 2000000) (by omega) hW
 have e3 := mul_bd (a := px) (b := V - D * W) (m := 60) (n := 12000000000000) (by omega) (by omega)
 have e4 := mul_bd (a := py) (b := H) (m := 60) (n := 1000000000000) (by omega) (by omega)
 exact ⟨h4, h3, by omega, by omega, by omega, by omega⟩
def pushB (zs : List Int) (n : Nat) (ls : List Int) (q : Nat) (H V M D k : Int) : Bool := loadsB zs n ls q && (thrB H V M D && inB k 0 ((n : Int) - 1))
section
variable {zs : List Int} {n : Nat} {ls : List Int} {q : Nat} {H V M D k : Int}
theorem pushB_1 (H V M D k : Int) (h : loadsB zs n ls q = false) : pushB zs n ls q H V M D k = false := by simp [pushB, h]
theorem pushB_2 (zs : List Int) (n : Nat) (ls : List Int) (q : Nat) (k : Int) (h : thrB H V M D = false) : pushB zs n ls q H V M D k = false := by simp [pushB, h]
theorem pushB_out (h : pushB zs n ls q H V M D k = true) : loadsB zs n ls q = true ∧ thrB H V M D = true ∧ 0 ≤ k ∧ k ≤ (n : Int) - 1 := by
 simp only [pushB, Bool.and_eq_true, inB_iff] at h;exact ⟨h.1, h.2.1, h.2.2.1, h.2.2.2⟩
end
def mIn (zs : List Int) (n : Nat) (ls : List Int) (q : Nat) (H V M D k : Int) : Int :=
 if pushB zs n ls q H V M D k = true then momI H V M D (leftW zs ls q k.toNat) (leftM zs ls q k.toNat) (nth zs (k.toNat * 4)) (nth zs (k.toNat * 4 + 1)) else 0
def mOut (zs : List Int) (n : Nat) (ls : List Int) (q : Nat) (H V M D k : Int) : Int :=
 if pushB zs n ls q H V M D k = true then momI H V M D (leftW zs ls q k.toNat) (leftM zs ls q k.toNat) (nth zs (k.toNat * 4 + 2)) (nth zs (k.toNat * 4 + 3)) else 0
section
variable {zs : List Int} {n : Nat} {ls : List Int} {q : Nat} {H V M D k : Int}
theorem m_f (h : pushB zs n ls q H V M D k = false) : mIn zs n ls q H V M D k = 0 ∧ mOut zs n ls q H V M D k = 0 := by simp [mIn, mOut, h]
theorem m_t {K : Nat} (h : pushB zs n ls q H V M D (K : Int) = true) : mIn zs n ls q H V M D (K : Int) = momI H V M D (leftW zs ls q K) (leftM zs ls q K) (nth zs (K * 4)) (nth zs (K * 4 + 1)) ∧
  mOut zs n ls q H V M D (K : Int) = momI H V M D (leftW zs ls q K) (leftM zs ls q K) (nth zs (K * 4 + 2)) (nth zs (K * 4 + 3)) := by simp [mIn, mOut, h]
end
theorem archB_ptsP {zs : List Int} {n : Nat} (h : archB zs n = true) : ∀ m, m < n → ptB (nth zs (m * 4)) (nth zs (m * 4 + 1)) = true ∧ ptB (nth zs (m * 4 + 2)) (nth zs (m * 4 + 3)) = true := by
 obtain ⟨hn, hp⟩ := archB_out h;intro m hm;by_cases e : m + 1 < n
 ·have h1 := hp m (by omega)
  simp only [pairB, Bool.and_eq_true] at h1;have h2 := (stoneB_out h1.1).2.1;exact ⟨h2 0 (by omega), h2 3 (by omega)⟩
 ·obtain ⟨k, rfl⟩ : ∃ k, m = k + 1 := ⟨m - 1, by omega⟩
  have h1 := hp k (by omega)
  simp only [pairB, Bool.and_eq_true] at h1;have h2 := (stoneB_out h1.1).2.1;exact ⟨h2 1 (by omega), h2 2 (by omega)⟩
theorem left_bds {zs : List Int} {n : Nat} {ls : List Int} {q K : Nat} (h : loadsB zs n ls q = true) (hK : K < n) : (-2000000 ≤ leftW zs ls q K ∧ leftW zs ls q K ≤ 2000000) ∧ (-80000000 ≤ leftM zs ls q K ∧ leftM zs ls q K ≤ 80000000) := by
 obtain ⟨hA, hq, hl⟩ := loadsB_out h;have hn := (archB_out hA).1;have h1 := leftW_bd zs hl hq K;have h2 := leftM_bd zs hl hq K;omega
theorem m_bds {zs : List Int} {n : Nat} {ls : List Int} {q K : Nat} {H V M D : Int} (h : pushB zs n ls q H V M D (K : Int) = true) :
  MomBd H V M D (leftW zs ls q K) (leftM zs ls q K) (nth zs (K * 4)) (nth zs (K * 4 + 1)) ∧ MomBd H V M D (leftW zs ls q K) (leftM zs ls q K) (nth zs (K * 4 + 2)) (nth zs (K * 4 + 3)) := by
 obtain ⟨h1, h2, h3, h4⟩ := pushB_out h;have hb := left_bds h1 (K := K) (by omega)
 have hp := archB_ptsP (loadsB_out h1).1 K (by omega)
 exact ⟨momBd h2 hb.1 hb.2 hp.1, momBd h2 hb.1 hb.2 hp.2⟩
end X
end Go.Proofs.YtodneggnnipcnaaGreat
