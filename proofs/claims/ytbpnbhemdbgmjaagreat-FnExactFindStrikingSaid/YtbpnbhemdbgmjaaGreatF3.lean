/-
  Texts that the law stands on, part 3.
-/
import Derived.Test.YtbpnbhemdbgmjaaGreatF1
import Derived.Test.YtbpnbhemdbgmjaaGreatF2
import Derived.Test.YtbpnbhemdbgmjaaGreatC1
import Derived.Test.YtbpnbhemdbgmjaaGreatC17
import Derived.Test.YtbpnbhemdbgmjaaGreatC19
import Derived.Test.YtbpnbhemdbgmjaaGreatC22
import Derived.Test.YtbpnbhemdbgmjaaGreatC24
import Derived.Deep.RegionLaw
import Derived.Lib.SliceRun
set_option linter.unusedVariables false
set_option linter.unusedSimpArgs false
namespace Go.Proofs.YtbpnbhemdbgmjaaGreat
section
open Go.RowKit
def woL (cs : List Int) (z : Int) : Nat → List Int
 | 0 => []
 | k + 1 => if nth cs k = z then woL cs z k else woL cs z k ++ [nth cs k]
theorem woL_yes {cs : List Int} {z : Int} {k : Nat} (h : nth cs k = z) : woL cs z (k + 1) = woL cs z k := by simp [woL, h]
theorem woL_no {cs : List Int} {z : Int} {k : Nat} (h : ¬ nth cs k = z) : woL cs z (k + 1) = woL cs z k ++ [nth cs k] := by simp [woL, h]
theorem woL_len (cs : List Int) (z : Int) : ∀ k, (woL cs z k).length ≤ k
 | 0 => Nat.le_refl _
 | k + 1 => by
  have ih := woL_len cs z k
  by_cases h : nth cs k = z
  ·rw [woL_yes h]; omega
  ·rw [woL_no h, List.length_append]; simp; omega
theorem take_snoc {cs : List Int} {k : Nat} (h : k < cs.length) : cs.take (k + 1) = cs.take k ++ [nth cs k] := by
 rw [List.take_add_one, List.getElem?_eq_getElem h, nth_get _ _ h]; rfl
end
namespace X
open Go.RowKit
structure Kept (w : World) (v : Value) (wr : World) : Prop where
 below : Below w.heap.size w wr
 box : Box wr w.heap.size v
 lt : w.heap.size + 1 ≤ wr.heap.size
theorem Kept.new (w : World) (v : Value) (t : TypeId) : Kept w v (w.alloc (.cells #[v] t)) := ⟨(Below.refl _ _).alloc (Nat.le_refl _) _, Box.new _ _ _, by simp⟩
theorem Kept.after {w wr w1 : World} {v : Value} (h : Kept w v wr) (hb : Below wr.heap.size wr w1) : Kept w v w1 := ⟨below_then h.below hb, h.box.after hb, Nat.le_trans h.lt hb.size⟩
theorem Kept.step {w wr w1 : World} {v : Value} (h : Kept w v wr) (hb : Below (w.heap.size + 1) wr w1) : Kept w v w1 :=
 ⟨h.below.trans (hb.mono (Nat.le_succ _)), ⟨(hb.cell (p := ⟨w.heap.size, 0, none⟩) (Nat.lt_succ_self _)).trans h.box.1, Nat.lt_of_lt_of_le h.box.2 hb.size⟩, Nat.le_trans h.lt hb.size⟩
theorem Kept.own {w wr w1 : World} {v u : Value} {E : TypeId} {xs : List Int} {o : Obj} (h : Kept w v wr) (hown : OwnV wr (w.heap.size + 1) E u xs) (hg : (wr.alloc o).grownBy w1 u.ownBlock) : Kept w v w1 :=
 h.step (ownB_below (Below.refl _ _) h.lt hown (Nat.le_refl _) hg)
def NumsPost (w : World) (L : List Int) (e : Ending) (w' : World) : Prop :=
 ∃ v, e = .returned v ∧ OwnV w' w.heap.size 3 v L ∧ Below w.heap.size w w'
set_option maxRecDepth 100000 in
set_option maxHeartbeats 1600000 in
theorem without_any (B : Option Addr) (q d : Nat) (cs : List Int) (z : Int) (w : World) (hi : IntsAt w w.heap.size B q cs) (hq : q ≤ 1048576) : Calls Tryzx.prog 100 #[.slice B q d, .int .i64 z] w (NumsPost w (woL cs z q)) := by
 have HI := Lib.hid hi
 clear hi
 go_enter Tryzx.func100, Tryz.ntmps100
 go_wp2
 go_loopw [5, 6] (fun v i wr => ∃ k : Nat, k ≤ q ∧ i = .int .i64 k ∧ OwnV wr w.heap.size 3 v (woL cs z k) ∧ Below w.heap.size w wr) (fun _ i _ => q - (intOf i).toNat)
 case atStart => exact ⟨0, Nat.zero_le _, rfl, OwnI.new _ _, (Below.refl _ _).alloc (Nat.le_refl _) _⟩
 case round =>
  obtain ⟨k, hk, rfl, hown, hb⟩ := hrel
  have HB := Lib.hid hb
  have HO := Lib.hid hown
  have hlen := woL_len cs z k
  by_cases hlt : k < q
  ·have i1 : IntKind.i64.wrap ((k : Int) + 1) = (k : Int) + 1 := IntWalk.i64_in _ (by omega)
   obtain ⟨b, off, rfl, hbB, hc⟩ := HI.out.2 (by omega)
   have hck : wr.cell? ⟨b, off + k, none⟩ = some (.int .i64 (nth cs k)) := (hb.cell (by exact hbB)).trans (hc k hlt)
   clear hb hown hc
   by_cases he : nth cs k = z
   ·have hne : (nth cs k != z) = false := by simp [he]
    have HU := Lib.hid (woL_yes he)
    clear he
    go_wp2
    go_roundw
    case rel => exact ⟨k + 1, by omega, by go_num, by rw [HU.out]; exact HO.out, HB.out⟩
    case measure => simp [intOf]; omega
   ·have hne : (nth cs k != z) = true := by simp [he]
    have HU := Lib.hid (woL_no he)
    clear he
    go_wp2_with (at_builtin; refine wpList_append_int _ rfl (.tmp 20) (.tmp 25) 54 rfl w.heap.size 3 Tryzx.underlying54 infoInt _ (woL cs z k) rfl (HO.out.alloc _) _ _ (nth cs k) rfl (cell_new1 _ _ _) (by omega) (by have := HB.out.size; simp; omega) ?_; intro g' cap' w1 hown1 hgr1)
    have hb1 := ownB_below HB.out HB.out.size HO.out (Nat.le_refl _) hgr1
    have hv1 := hown1.toV
    rw [List.length_append, ← HU.out] at hv1
    go_wp2
    go_roundw
    case rel => exact ⟨k + 1, by omega, by go_num, hv1, hb1⟩
    case measure => simp [intOf]; omega
  ·obtain rfl : k = q := by omega
   clear hb hown
   go_wp2
   go_ret
   exact ⟨_, rfl, HO.out, HB.out⟩
section
variable (A : Option Addr) (n c : Nat) (zs : List Int) (B : Option Addr) (d : Nat) (cs : List Int) (w : World) (h : RecsAt w w.heap.size 4 A n zs) (hn : n ≤ 1048576) (hi : IntsAt w w.heap.size B cs.length cs) (hq : cs.length ≤ 1048576)
include h hn hi hq
end
section
variable (A : Option Addr) (n c : Nat) (zs : List Int) (B : Option Addr) (q d : Nat) (cs : List Int) (w : World) (h : RecsAt w w.heap.size 4 A n zs) (hn : n ≤ 1048576) (hi : IntsAt w w.heap.size B q cs) (hq : q ≤ 1048576)
include h hn hi hq
end
end X
section
open Go.RowKit
def bitS (s b : Nat) : Bool := decide (s / p2 b % 2 = 1)
def delB (s z : Nat) : Nat := if bitS s z = true then s - p2 z else s
theorem delB_le (s z : Nat) : delB s z ≤ s := by unfold delB; split <;> omega
theorem delB_fin : ∀ s : Fin 128, ∀ z : Fin 7, bits .andNot .u64 (s.val : Int) ((p2 z.val : Nat) : Int) = ((delB s.val z.val : Nat) : Int) ∧ (∀ b : Fin 7, bitS (delB s.val z.val) b.val = (bitS s.val b.val && decide (b.val ≠ z.val))) := by decide +kernel
theorem delB_uint {s z : Nat} (hs : s < 128) (hz : z < 7) : bits .andNot .u64 (s : Int) ((p2 z : Nat) : Int) = ((delB s z : Nat) : Int) := (delB_fin ⟨s, hs⟩ ⟨z, hz⟩).1
theorem bit_del {s z b : Nat} (hs : s < 128) (hz : z < 7) (hb : b < 7) : bitS (delB s z) b = (bitS s b && decide (b ≠ z)) := (delB_fin ⟨s, hs⟩ ⟨z, hz⟩).2 ⟨b, hb⟩
theorem bit_full_fin : ∀ m : Fin 8, ∀ b : Fin 7, bitS (p2 m.val - 1) b.val = decide (b.val < m.val) := by decide +kernel
theorem bit_full {m b : Nat} (hm : m ≤ 7) (hb : b < 7) : bitS (p2 m - 1) b = decide (b < m) := bit_full_fin ⟨m, by omega⟩ ⟨b, hb⟩
theorem del_set_fin : ∀ s : Fin 128, ∀ m : Fin 8, ∀ z : Fin 7, z.val < m.val → bitS s.val z.val = true → (setL s.val m.val).filter (fun x => decide (x ≠ (z.val : Int))) = setL (delB s.val z.val) m.val ∧ (setL (delB s.val z.val) m.val).length + 1 = (setL s.val m.val).length := by decide +kernel
theorem setL_mem {s : Nat} {x : Int} : ∀ {m : Nat}, x ∈ setL s m → ∃ b : Nat, x = (b : Int) ∧ b < m ∧ bitS s b = true
 | 0, h => by simp [setL] at h
 | m + 1, h => by
  by_cases hb : s / p2 m % 2 = 1
  ·rw [setL_yes hb] at h
   rcases List.mem_append.1 h with e | e
   ·obtain ⟨b, h1, h2, h3⟩ := setL_mem e
    exact ⟨b, h1, by omega, h3⟩
   ·simp at e
    exact ⟨m, e, by omega, by simp [bitS, hb]⟩
  ·rw [setL_no hb] at h
   obtain ⟨b, h1, h2, h3⟩ := setL_mem h
   exact ⟨b, h1, by omega, h3⟩
theorem woL_filter (cs : List Int) (z : Int) : ∀ k, k ≤ cs.length → woL cs z k = (cs.take k).filter (fun x => decide (x ≠ z))
 | 0, _ => by simp [woL]
 | k + 1, h => by
  rw [take_snoc (by omega), List.filter_append]
  by_cases e : nth cs k = z
  ·rw [woL_yes e, woL_filter cs z k (by omega)]; simp [e]
  ·rw [woL_no e, woL_filter cs z k (by omega)]; simp [e]
theorem woL_all (cs : List Int) (z : Int) : woL cs z cs.length = cs.filter (fun x => decide (x ≠ z)) := by
 rw [woL_filter cs z _ (Nat.le_refl _), List.take_length]
theorem wo_set {s m z : Nat} (hs : s < 128) (hm : m ≤ 7) (hz : z < m) (hb : bitS s z = true) : woL (setL s m) (z : Int) (setL s m).length = setL (delB s z) m ∧ (setL (delB s z) m).length + 1 = (setL s m).length := by
 rw [woL_all]
 exact del_set_fin ⟨s, hs⟩ ⟨m, by omega⟩ ⟨z, by omega⟩ hz hb
theorem wo_none {s m : Nat} {x : Int} (h : ∀ z : Nat, x = (z : Int) → z < m → bitS s z = false) : woL (setL s m) x (setL s m).length = setL s m := by
 rw [woL_all, List.filter_eq_self]
 intro y hy
 obtain ⟨b, e1, e2, e3⟩ := setL_mem hy
 refine decide_eq_true fun e => ?_
 rw [h b (by rw [← e, e1]) e2] at e3
 cases e3
def seqS (os : List Int) (m : Nat) : Nat → Nat
 | 0 => p2 m - 1
 | k + 1 => delB (seqS os m k) (nth os k).toNat
theorem seqS_lt (os : List Int) (m : Nat) : ∀ k, seqS os m k < p2 m
 | 0 => by have := p2_pos m; unfold seqS; omega
 | k + 1 => Nat.lt_of_le_of_lt (delB_le _ _) (seqS_lt os m k)
def inS (os : List Int) (m k : Nat) : Bool := inB (nth os k) 0 ((m : Int) - 1) && bitS (seqS os m k) (nth os k).toNat
def okS (f : Nat → Bool) (os : List Int) (m : Nat) : Nat → Bool
 | 0 => true
 | k + 1 => okS f os m k && (inS os m k && f (seqS os m (k + 1)))
def okI (f : Nat → Bool) (os : List Int) (m : Nat) : Nat → Bool
 | 0 => true
 | k + 1 => okI f os m k && f (seqS os m (k + 1))
def seenB (os : List Int) (j : Nat) : Nat → Bool
 | 0 => false
 | k + 1 => seenB os j k || decide (nth os k = (j : Int))
def permK (os : List Int) (m : Nat) : Nat → Bool
 | 0 => true
 | k + 1 => permK os m k && (inB (nth os k) 0 ((m : Int) - 1) && !seenB os (nth os k).toNat k)
theorem permK_f {os : List Int} {m k : Nat} (h : permK os m k = false) : ∀ d, permK os m (k + d) = false
 | 0 => h
 | d + 1 => by rw [← Nat.add_assoc, permK, permK_f h d]; rfl
theorem permK_le {os : List Int} {m k n : Nat} (hk : k ≤ n) (h : permK os m n = true) : permK os m k = true := by
 cases e : permK os m k
 ·obtain ⟨d, rfl⟩ := Nat.exists_eq_add_of_le hk
  rw [permK_f e d] at h; cases h
 ·rfl
theorem permK_in {os : List Int} {m k : Nat} (h : permK os m (k + 1) = true) : inB (nth os k) 0 ((m : Int) - 1) = true := by
 simp only [permK, Bool.and_eq_true] at h
 exact h.2.1
theorem okS_f {f : Nat → Bool} {os : List Int} {m k : Nat} (h : okS f os m k = false) : ∀ d, okS f os m (k + d) = false
 | 0 => h
 | d + 1 => by rw [← Nat.add_assoc, okS, okS_f h d]; rfl
theorem okI_f {f : Nat → Bool} {os : List Int} {m k : Nat} (h : okI f os m k = false) : ∀ d, okI f os m (k + d) = false
 | 0 => h
 | d + 1 => by rw [← Nat.add_assoc, okI, okI_f h d]; rfl
theorem seq_bit {os : List Int} {m : Nat} (hm : m ≤ 7) : ∀ k, (∀ i, i < k → inB (nth os i) 0 ((m : Int) - 1) = true) → ∀ b, b < 7 → bitS (seqS os m k) b = (decide (b < m) && !seenB os b k)
 | 0, _, b, hb => by rw [seqS, bit_full hm hb]; simp [seenB]
 | k + 1, h, b, hb => by
  have ih := seq_bit hm k (fun i hi => h i (by omega)) b hb
  have h1 := inB_iff.1 (h k (by omega))
  have hs := seqS_lt os m k
  have hp := p2_7 hm
  rw [seqS, bit_del (by omega) (by omega) hb, ih, seenB]
  by_cases e : nth os k = (b : Int)
  ·have e2 : ¬ b ≠ (nth os k).toNat := by omega
   simp [e]
  ·have e2 : b ≠ (nth os k).toNat := by omega
   simp [e, e2]
theorem okS_perm {f : Nat → Bool} {os : List Int} {m : Nat} (hm : m ≤ 7) : ∀ k, okS f os m k = (permK os m k && okI f os m k)
 | 0 => rfl
 | k + 1 => by
  rw [okS, okS_perm hm k, permK, okI, inS]
  cases hp : permK os m k
  ·rfl
  ·cases hi : inB (nth os k) 0 ((m : Int) - 1)
   ·simp
   ·have hr : ∀ i, i < k → inB (nth os i) 0 ((m : Int) - 1) = true := fun i hik => permK_in (permK_le (show i + 1 ≤ k by omega) hp)
    have h1 := inB_iff.1 hi
    have hlt : (nth os k).toNat < m := by omega
    rw [seq_bit hm k hr _ (by omega), decide_eq_true hlt]
    cases okI f os m k <;> cases seenB os (nth os k).toNat k <;> simp
def strikeB (f : Nat → Bool) (os : List Int) (m : Nat) : Bool := decide (0 < m) && decide (os.length = m) && f (p2 m - 1) && okS f os m m
theorem strike_0 {f : Nat → Bool} {os : List Int} {m : Nat} (h : ¬ 0 < m) : strikeB f os m = false := by simp [strikeB, show ¬ 0 < m from h]
theorem strike_1 {f : Nat → Bool} {os : List Int} {m : Nat} (h : ¬ os.length = m) : strikeB f os m = false := by simp [strikeB, h]
theorem strike_2 {f : Nat → Bool} {os : List Int} {m : Nat} (h : f (p2 m - 1) = false) : strikeB f os m = false := by simp [strikeB, h]
theorem strike_3 {f : Nat → Bool} {os : List Int} {m : Nat} (h : okS f os m m = false) : strikeB f os m = false := by simp [strikeB, h]
theorem strike_t {f : Nat → Bool} {os : List Int} {m : Nat} (h0 : 0 < m) (h1 : os.length = m) (h2 : f (p2 m - 1) = true) (h3 : okS f os m m = true) : strikeB f os m = true := by simp [strikeB, h0, h1, h2, h3]
theorem okS_bad {f : Nat → Bool} {os : List Int} {m k : Nat} (hk : k < m) (h : okS f os m (k + 1) = false) : okS f os m m = false := by
 have := okS_f h (m - (k + 1))
 rwa [show k + 1 + (m - (k + 1)) = m by omega] at this
theorem okS_out {f : Nat → Bool} {os : List Int} {m k : Nat} (hk : k < m) (h : inS os m k = false) : okS f os m m = false := okS_bad hk (by simp [okS, h])
theorem okS_falls {f : Nat → Bool} {os : List Int} {m k : Nat} (hk : k < m) (h : f (seqS os m (k + 1)) = false) : okS f os m m = false := okS_bad hk (by simp [okS, h])
theorem okS_on {f : Nat → Bool} {os : List Int} {m k : Nat} (h : okS f os m k = true) (h1 : inS os m k = true) (h2 : f (seqS os m (k + 1)) = true) : okS f os m (k + 1) = true := by simp [okS, h, h1, h2]
theorem strike_perm {f : Nat → Bool} {os : List Int} {m : Nat} (hm : m ≤ 7) (h : permK os m m = false) : strikeB f os m = false := strike_3 (by rw [okS_perm hm, h]; rfl)
theorem okS_I {f : Nat → Bool} {os : List Int} {m : Nat} (hm : m ≤ 7) (h : permK os m m = true) : okS f os m m = okI f os m m := by rw [okS_perm hm, h]; rfl
theorem okI_bad {f : Nat → Bool} {os : List Int} {m k : Nat} (hk : k < m) (h : f (seqS os m (k + 1)) = false) : okI f os m m = false := by
 have := okI_f (k := k + 1) (show okI f os m (k + 1) = false by simp [okI, h]) (m - (k + 1))
 rwa [show k + 1 + (m - (k + 1)) = m by omega] at this
theorem okI_on {f : Nat → Bool} {os : List Int} {m k : Nat} (h : okI f os m k = true) (h2 : f (seqS os m (k + 1)) = true) : okI f os m (k + 1) = true := by simp [okI, h, h2]
end
namespace X
open Go.RowKit
theorem infoBool : (Tryzx.prog.info? 4).map (fun i => (i.zero, i.size, i.bytes)) = some (some (.bool false), 1, 1) := by kernel_rfl
theorem run_make_bool (n : Nat) (hn : n ≤ 1048576) (w : World) : (Instr.makeSlice 164 (.int .i64 (n : Int)) (.int .i64 (n : Int))).run Tryzx.prog w = .ok (.slice (some ⟨w.heap.size, 0, none⟩) n n) (w.alloc (.cells (madeCells #[.bool false] n) 4)) := by
 obtain ⟨i0, hi0, hz0, hz1, hz2⟩ := info_parts infoBool
 have h := run_make (P := Tryzx.prog) w 164 4 i0 (.bool false) Tryzx.underlying164 hi0 hz0 .i64 .i64 (n : Int) (n : Int) (by omega) (by omega) (by rw [hz2]; omega) (by omega)
 simpa [hz1, Value.cells] using h
def seenF (os : List Int) (k j : Nat) : Value := .bool (seenB os j k)
theorem seenF_step {os : List Int} {k j : Nat} (h : nth os k = (j : Int)) (i : Nat) : (if i = j then Value.bool true else seenF os k i) = seenF os (k + 1) i := by
 unfold seenF
 by_cases e : i = j
 ·subst e; simp [seenB, h]
 ·have : ¬ nth os k = (i : Int) := by omega
  simp [seenB, e, this]
set_option maxRecDepth 100000 in
set_option maxHeartbeats 1600000 in
theorem perm_any (m : Nat) (hm : m ≤ 7) (B : Option Addr) (d : Nat) (os : List Int) (w : World) (hi : IntsAt w w.heap.size B os.length os) (hq : os.length ≤ 1048576) :
  Calls Tryzx.prog 101 #[.int .i64 m, .slice B os.length d] w fun e w' => e = .returned (.bool (decide (os.length = m) && permK os m m)) ∧ Below w.heap.size w w' := by
 have HI := Lib.hid hi
 clear hi
 by_cases hl : os.length = m
 ·have hne : ((os.length : Int) != (m : Int)) = false := by simp; omega
  have HR : Hid (∀ b, permK os m m = b → (decide (os.length = m) && permK os m m) = b) := Lib.hid (fun b h => by rw [decide_eq_true hl, h]; rfl)
  have hmk := run_make_bool m (by omega)
  have HN : Hid (os.length = m) := hl
  clear hl
  go_enter Tryzx.func101, Tryz.ntmps101
  go_wp2
  clear hmk
  go_loopw [16] (fun i wr => ∃ k : Nat, k ≤ m ∧ i = .int .i64 k ∧ permK os m k = true ∧ wr.rowIs w.heap.size 4 m (seenF os k) ∧ Below w.heap.size w wr) (fun i _ => m - (intOf i).toNat)
  case atStart =>
   refine ⟨0, Nat.zero_le _, rfl, rfl, ?_, (Below.refl _ _).alloc (Nat.le_refl _) _⟩
   have hr := World.rowIs_alloc w (madeCells #[.bool false] m) 4 (seenF os 0) (fun j hj => by
    have hj' : j < m := by simpa [size_madeCells] using hj
    unfold seenF
    simp [madeCells, hj', seenB, Nat.mod_one])
   simpa [size_madeCells] using hr
  case round =>
   obtain ⟨k, hk, rfl, hp, hr, hb⟩ := hrel
   have HB := Lib.hid hb
   have HW := Lib.hid hr
   by_cases hlt : k < m
   ·obtain ⟨b, off, rfl, hbB, hc⟩ := HI.out.2 (by have := HN.out; omega)
    have hck : wr.cell? ⟨b, off + k, none⟩ = some (.int .i64 (nth os k)) := (hb.cell (by exact hbB)).trans (hc k (by have := HN.out; omega))
    have i1 : IntKind.i64.wrap ((k : Int) + 1) = (k : Int) + 1 := IntWalk.i64_in _ (by omega)
    have i2 : IntKind.i64.wrap ((m : Int) - 1) = (m : Int) - 1 := IntWalk.i64_in _ (by omega)
    have i3 : (k : Int) < (os.length : Int) := by have := HN.out; omega
    have i0 : k < os.length := by have := HN.out; omega
    clear hb hc
    cases hin : inB (nth os k) 0 ((m : Int) - 1)
    ·have HF := Lib.hid (permK_f (show permK os m (k + 1) = false by simp [permK, hin]) (m - (k + 1)))
     clear hr hp
     go_wp2_with (go_at_call 112; refine (within_any _ _ _ _).mono ?_; rintro e w' ⟨rfl, rfl⟩)
     go_ret
     exact ⟨ret_bool (HR.out _ (by have := HF.out; rwa [show k + 1 + (m - (k + 1)) = m by omega] at this)).symm, HB.out⟩
    ·have h1 := inB_iff.1 hin
     obtain ⟨j, hj⟩ := Int.eq_ofNat_of_zero_le h1.1
     have hjm : j < m := by omega
     have hcj := hr.cell (i := j) hjm
     have hfj := hr.frozen j
     have HJ : Hid (nth os k = (j : Int)) := hj
     have HI2 : Hid (inB (nth os k) 0 ((m : Int) - 1) = true) := hin
     rw [hj] at hck hin
     have j1 : (j : Int) < (m : Int) := by omega
     cases hs : seenB os j k
     ·have HP : Hid (permK os m (k + 1) = true) := Lib.hid (by rw [permK, hp, HI2.out, HJ.out]; simp [hs])
      have hcj2 : wr.cell? ⟨w.heap.size, j, none⟩ = some (.bool false) := by rw [hcj]; unfold seenF; rw [hs]
      clear hr hp h1 hj hcj hs
      go_wp2_with (go_at_call 112; refine (within_any _ _ _ _).mono ?_; rintro e w' ⟨rfl, rfl⟩)
      go_roundw
      case rel => exact ⟨k + 1, by omega, by go_num, HP.out, (HW.out.set j _).congr (fun i _ => seenF_step HJ.out i), HB.out.setCell (Nat.le_refl _) _⟩
      case measure => simp [intOf]; omega
     ·have HF := Lib.hid (permK_f (show permK os m (k + 1) = false by simp [permK, HJ.out, hs]) (m - (k + 1)))
      have hcj2 : wr.cell? ⟨w.heap.size, j, none⟩ = some (.bool true) := by rw [hcj]; unfold seenF; rw [hs]
      clear hr hp h1 hj hcj hs
      go_wp2_with (go_at_call 112; refine (within_any _ _ _ _).mono ?_; rintro e w' ⟨rfl, rfl⟩)
      go_ret
      exact ⟨ret_bool (HR.out _ (by have := HF.out; rwa [show k + 1 + (m - (k + 1)) = m by omega] at this)).symm, HB.out⟩
   ·obtain rfl : k = m := by omega
    have i3 : ¬ (k : Int) < (os.length : Int) := by have := HN.out; omega
    have HP := Lib.hid hp
    clear hb hr hp
    go_wp2
    go_ret
    exact ⟨ret_bool (HR.out _ HP.out).symm, HB.out⟩
 ·have hne : ((os.length : Int) != (m : Int)) = true := by simp; omega
  have HR : Hid ((decide (os.length = m) && permK os m m) = false) := Lib.hid (by rw [decide_eq_false hl]; rfl)
  clear hl
  go_enter Tryzx.func101, Tryz.ntmps101
  go_wp2
  go_ret
  exact ⟨ret_bool HR.out.symm, Below.refl _ _⟩
end X
namespace X
open Go.RowKit
def strkB (zs : List Int) (n : Nat) (os : List Int) : Bool := strikeB (setB zs n) os (cstN zs n)
section
variable (A : Option Addr) (n c : Nat) (zs : List Int) (B : Option Addr) (d : Nat) (os : List Int) (w : World) (h : RecsAt w w.heap.size 4 A n zs) (hn : n ≤ 1048576) (hi : IntsAt w w.heap.size B os.length os) (hq : os.length ≤ 1048576)
include h hn hi hq
set_option maxRecDepth 100000 in
set_option maxHeartbeats 3200000 in
theorem iStrk_any : Calls Tryzx.prog 49 #[.agg #[.slice A n c], .slice B os.length d] w fun e w' => e = .returned (.bool (strkB zs n os)) ∧ Below w.heap.size w w' := by
 have HK0 : Hid (Kept w (.slice A n c) (w.alloc (.cells #[.slice A n c] 26))) := Lib.hid (Kept.new w (.slice A n c) 26)
 have HH := Lib.hid h
 have HI := Lib.hid hi
 have cx0 := HK0.out.box.1
 clear h hi
 have hm7 := cstN_le zs n
 have HS : Hid (∀ s, setB zs n s = stgB zs n (setL s (cstN zs n)) (setL s (cstN zs n)).length) := Lib.hid (fun s => rfl)
 have HF : Hid (strkB zs n os = strikeB (setB zs n) os (cstN zs n)) := rfl
 obtain ⟨m, hm⟩ : ∃ m, cstN zs n = m := ⟨_, rfl⟩
 rw [hm] at HS HF hm7
 by_cases h0 : 0 < m
 ·have z0 : ((m : Int) == 0) = false := by simp; omega
  go_enter Tryzx.func49, Tryz.ntmps49
  go_wp2_with fail
  refine (iCst_any _ _ _ zs _ (by exact HH.out.after HK0.out.below) hn).mono ?_
  rw [hm]
  rintro e w1 ⟨rfl, hb1⟩
  have HK1 := Lib.hid (HK0.out.after hb1)
  clear hb1 cx0 HK0
  go_wp2_with fail
  refine (perm_any m hm7 _ _ os _ (by exact HI.out.after HK1.out.below) hq).mono ?_
  cases hp : decide (os.length = m) && permK os m m
  ·have HN : Hid (strkB zs n os = false) := Lib.hid (by
    rw [HF.out]
    by_cases hl : os.length = m
    ·rw [decide_eq_true hl] at hp
     exact strike_perm hm7 (by simpa using hp)
    ·exact strike_1 hl)
   rintro e w2 ⟨rfl, hb2⟩
   have HK2 := Lib.hid (HK1.out.after hb2)
   clear hb2 hp
   go_wp2
   go_ret
   exact ⟨ret_bool HN.out.symm, HK2.out.below⟩
  ·rw [Bool.and_eq_true, decide_eq_true_eq] at hp
   obtain ⟨hl, hpk⟩ := hp
   have HP := Lib.hid hpk
   have HL : Hid (os.length = m) := hl
   rintro e w2 ⟨rfl, hb2⟩
   have HK2 := Lib.hid (HK1.out.after hb2)
   have hsh := uwrap_p2 m hm7
   have hp7 := p2_7 hm7
   have hp1 := p2_pos m
   have hsub : IntKind.u64.wrap (((p2 m : Nat) : Int) - 1) = ((p2 m - 1 : Nat) : Int) := by rw [u64_in _ (by omega)]; omega
   have cx2 := HK2.out.box.1
   clear hb2 hpk hl HK1
   have hfull : p2 m - 1 < p2 m := by omega
   obtain ⟨S0, hS0⟩ : ∃ S0, p2 m - 1 = S0 := ⟨_, rfl⟩
   rw [hS0] at hsub hfull
   have HS0 : Hid (seqS os m 0 = S0) := Lib.hid (by rw [seqS]; exact hS0)
   go_wp2_with fail
   go_region_held3 (fun w' => w'.cell? ⟨w.heap.size, 0, none⟩ = some (.slice A n c)) (first | exact cx2 | exact HK3.out.box.1 | exact HK4.out.box.1) ((first | (go_at_call 86; refine (iSet_any S0 m hfull hm7 _).mono ?_; rintro e w3 ⟨v3, rfl, ho3, hbx⟩; have hb3 := below_undrew hbx; obtain ⟨A3, q3, d3, rfl⟩ := ho3.sliceN; have HK3 := Lib.hid (HK2.out.after hb3); obtain rfl := ho3.len; have l3 := ho3.intsAt; have hq3 := setL_len S0 m) | (go_at_call 33; refine (iStageStands_any _ _ _ zs _ _ _ (setL S0 m) _ (by exact HH.out.after HK3.out.below) hn (by exact l3) (by omega)).mono ?_; rintro e w4 ⟨rfl, hb4⟩; have HK4 := Lib.hid (HK3.out.after hb4))))
   have hs := HS.out S0
   rw [← hs]
   clear hs hb3 hbx hb4 ho3 cx2 l3 HK2 HK3 hsub hsh
   cases hb : setB zs n S0
   ·have HN : Hid (strkB zs n os = false) := Lib.hid (by rw [HF.out]; exact strike_2 (by rw [hS0]; exact hb))
    go_wp2
    go_ret
    exact ⟨ret_bool HN.out.symm, HK4.out.below⟩
   ·have HFU : Hid (setB zs n (p2 m - 1) = true) := Lib.hid (by rw [hS0]; exact hb)
    clear hb
    simp only [Bool.not_true]
    go_wp2
    go_loopw [6, 29] (fun v6 v29 wr => ∃ k S : Nat, v29 = .int .i64 k ∧ v6 = .int .u64 S ∧ k ≤ m ∧ S < p2 m ∧ Hid (seqS os m k = S) ∧ Hid (okI (setB zs n) os m k = true) ∧ Hid (Kept w (.slice A n c) wr)) (fun _ v29 _ => m - (intOf v29).toNat)
    case atStart => exact ⟨0, S0, rfl, rfl, Nat.zero_le _, hfull, HS0, Lib.hid rfl, HK4⟩
    case round =>
     clear HK4 HS0 hfull
     obtain ⟨k, S, rfl, rfl, hk, hSm, HQ, HOK, HK⟩ := hrel
     by_cases hlt : k < m
     ·have i1 : IntKind.i64.wrap ((k : Int) + 1) = (k : Int) + 1 := IntWalk.i64_in _ (by omega)
      have i3 : (k : Int) < (os.length : Int) := by have := HL.out; omega
      have i0 : k < os.length := by have := HL.out; omega
      have hin := inB_iff.1 (permK_in (permK_le (show k + 1 ≤ m by omega) HP.out))
      obtain ⟨j, hj⟩ := Int.eq_ofNat_of_zero_le hin.1
      have hjm : j < m := by omega
      obtain ⟨b, off, rfl, hbB, hc⟩ := HI.out.2 (by omega)
      have hck : wr.cell? ⟨b, off + k, none⟩ = some (.int .i64 (j : Int)) := by rw [← hj]; exact (HK.out.below.cell (by exact hbB)).trans (hc k i0)
      have HQ1 : Hid (seqS os m (k + 1) = delB S j) := Lib.hid (by rw [seqS, HQ.out, hj]; rfl)
      have hdl := delB_le S j
      have hshj := uwrap_p2 j (by omega)
      have handn := delB_uint (s := S) (z := j) (by omega) (by omega)
      have j0 : (0 : Int) ≤ (j : Int) := by omega
      have cx1 := HK.out.box.1
      obtain ⟨T, hT⟩ : ∃ T, delB S j = T := ⟨_, rfl⟩
      rw [hT] at HQ1 hdl handn
      have hTm : T < p2 m := by omega
      clear hc hin hj hT
      go_wp2_with fail
      go_region_held3 (fun w' => w'.cell? ⟨w.heap.size, 0, none⟩ = some (.slice A n c)) (first | exact cx1 | exact HK3.out.box.1 | exact HK4.out.box.1) ((first | (go_at_call 86; refine (iSet_any T m hTm hm7 _).mono ?_; rintro e w3 ⟨v3, rfl, ho3, hbx⟩; have hb3 := below_undrew hbx; obtain ⟨A3, q3, d3, rfl⟩ := ho3.sliceN; have HK3 := Lib.hid (HK.out.after hb3); obtain rfl := ho3.len; have l3 := ho3.intsAt; have hq3 := setL_len T m) | (go_at_call 33; refine (iStageStands_any _ _ _ zs _ _ _ (setL T m) _ (by exact HH.out.after HK3.out.below) hn (by exact l3) (by omega)).mono ?_; rintro e w4 ⟨rfl, hb4⟩; have HK4 := Lib.hid (HK3.out.after hb4))))
      have hs := HS.out T
      rw [← hs]
      clear hs hb3 hbx hb4 ho3 cx1 l3 HK3 hck hshj handn
      cases hb : setB zs n T
      ·have HN : Hid (strkB zs n os = false) := Lib.hid (by rw [HF.out]; exact strike_3 (by rw [okS_I hm7 HP.out]; exact okI_bad hlt (by rw [HQ1.out]; exact hb)))
       go_wp2
       go_ret
       exact ⟨ret_bool HN.out.symm, HK4.out.below⟩
      ·have HOK1 : Hid (okI (setB zs n) os m (k + 1) = true) := Lib.hid (okI_on HOK.out (by rw [HQ1.out]; exact hb))
       go_wp2
       go_roundw
       case rel => exact ⟨k + 1, T, by go_num, rfl, by omega, hTm, HQ1, HOK1, HK4⟩
       case measure => simp [intOf]; omega
     ·obtain rfl : k = m := by omega
      have i3 : ¬ (k : Int) < (os.length : Int) := by have := HL.out; omega
      have HN : Hid (strkB zs n os = true) := Lib.hid (by rw [HF.out]; exact strike_t h0 HL.out HFU.out (by rw [okS_I hm7 HP.out]; exact HOK.out))
      go_wp2
      go_ret
      exact ⟨ret_bool HN.out.symm, HK.out.below⟩
 ·obtain rfl : m = 0 := by omega
  have HN : Hid (strkB zs n os = false) := Lib.hid (by rw [HF.out]; exact strike_0 h0)
  go_enter Tryzx.func49, Tryz.ntmps49
  go_wp2_with fail
  refine (iCst_any _ _ _ zs _ (by exact HH.out.after HK0.out.below) hn).mono ?_
  rw [hm]
  rintro e w1 ⟨rfl, hb1⟩
  have HK1 := Lib.hid (HK0.out.after hb1)
  clear hb1 cx0 HK0
  go_wp2
  go_ret
  exact ⟨ret_bool HN.out.symm, HK1.out.below⟩
set_option maxRecDepth 100000 in
set_option maxHeartbeats 3200000 in
theorem sStrk_any : Calls Tryzx.prog 48 #[.agg #[.slice A n c], .slice B os.length d] w fun e w' => e = .returned (.bool (strkB zs n os)) ∧ Below w.heap.size w w' := by
 have HK0 : Hid (Kept w (.slice A n c) (w.alloc (.cells #[.slice A n c] 26))) := Lib.hid (Kept.new w (.slice A n c) 26)
 have HH := Lib.hid h
 have HI := Lib.hid hi
 have cx0 := HK0.out.box.1
 clear h hi
 have hm7 := cstN_le zs n
 have HS : Hid (∀ s, setB zs n s = stgB zs n (setL s (cstN zs n)) (setL s (cstN zs n)).length) := Lib.hid (fun s => rfl)
 have HF : Hid (strkB zs n os = strikeB (setB zs n) os (cstN zs n)) := rfl
 obtain ⟨m, hm⟩ : ∃ m, cstN zs n = m := ⟨_, rfl⟩
 rw [hm] at HS HF hm7
 have hsh := wrap_p2 m (by omega)
 have hp7 := p2_7 hm7
 have hp1 := p2_pos m
 have hsub : IntKind.i64.wrap (((p2 m : Nat) : Int) - 1) = ((p2 m - 1 : Nat) : Int) := by rw [IntWalk.i64_in _ (by omega)]; omega
 have hfull : p2 m - 1 < p2 m := by omega
 obtain ⟨S0, hS0⟩ : ∃ S0, p2 m - 1 = S0 := ⟨_, rfl⟩
 rw [hS0] at hsub hfull
 have HS0 : Hid (seqS os m 0 = S0) := Lib.hid (by rw [seqS]; exact hS0)
 go_enter Tryzx.func48, Tryz.ntmps48
 go_wp2_with fail
 refine (sCst_any _ _ _ zs _ (by exact HH.out.after HK0.out.below) hn).mono ?_
 rw [hm]
 rintro e w1 ⟨rfl, hb1⟩
 have HK1 := Lib.hid (HK0.out.after hb1)
 clear hb1 cx0 HK0
 go_wp2_with fail
 refine (sSet_any S0 m (by omega) hm7 _).mono ?_
 rintro e w2 ⟨v2, rfl, ho2, hb2⟩
 have HK2 := Lib.hid (HK1.out.after hb2)
 have HO2 := Lib.hid (ho2.weakenN (base' := w.heap.size) HK1.out.below.size)
 obtain ⟨A2, q2, d2, rfl⟩ := ho2.sliceN
 obtain rfl := ho2.len
 have l2 := Lib.hid ho2.intsAt
 have hq2 := setL_len S0 m
 have cx2 := HK2.out.box.1
 clear hb2 ho2 HK1 hsh hsub
 by_cases h0 : 0 < m
 ·have z0 : ((m : Int) == 0) = false := by simp; omega
  by_cases hl : os.length = m
  ·have hne : ((os.length : Int) != (m : Int)) = false := by simp; omega
   have HL : Hid (os.length = m) := hl
   clear hl
   go_wp2_with fail
   refine (sStageStands_any _ _ _ zs _ _ _ (setL S0 m) _ (by exact HH.out.after HK2.out.below) hn (by exact l2.out) (by omega)).mono ?_
   have hs := HS.out S0
   rw [← hs]
   clear hs
   cases hb : setB zs n S0
   ·have HN : Hid (strkB zs n os = false) := Lib.hid (by rw [HF.out]; exact strike_2 (by rw [hS0]; exact hb))
    rintro e w4 ⟨rfl, hb4⟩
    have HK4 := Lib.hid (HK2.out.after hb4)
    clear hb4
    go_wp2
    go_ret
    exact ⟨ret_bool HN.out.symm, HK4.out.below⟩
   ·have HFU : Hid (setB zs n (p2 m - 1) = true) := Lib.hid (by rw [hS0]; exact hb)
    rintro e w4 ⟨rfl, hb4⟩
    have HK4 := Lib.hid (HK2.out.after hb4)
    have HO4 := Lib.hid (HO2.out.afterN hb4)
    clear hb4 hb HK2 HO2 cx2 l2
    go_wp2
    go_loopw [6, 7] (fun v6 v7 wr => ∃ k S : Nat, v7 = .int .i64 k ∧ k ≤ m ∧ S < p2 m ∧ Hid (OwnV wr w.heap.size 3 v6 (setL S m)) ∧ Hid (seqS os m k = S) ∧ Hid (okS (setB zs n) os m k = true) ∧ Hid (Kept w (.slice A n c) wr)) (fun _ v7 _ => m - (intOf v7).toNat)
    case atStart => exact ⟨0, S0, rfl, Nat.zero_le _, hfull, HO4, HS0, Lib.hid rfl, HK4⟩
    case round =>
     clear HK4 HS0 HO4
     obtain ⟨k, S, rfl, hk, hSm, HO, HQ, HOK, HK⟩ := hrel
     by_cases hlt : k < m
     ·have i1 : IntKind.i64.wrap ((k : Int) + 1) = (k : Int) + 1 := IntWalk.i64_in _ (by omega)
      have ik : (k : Int) < (m : Int) := by omega
      have i3 : (k : Int) < (os.length : Int) := by have := HL.out; omega
      have i0 : k < os.length := by have := HL.out; omega
      obtain ⟨b, off, rfl, hbB, hc⟩ := HI.out.2 (by omega)
      have hck : wr.cell? ⟨b, off + k, none⟩ = some (.int .i64 (nth os k)) := (HK.out.below.cell (by exact hbB)).trans (hc k i0)
      obtain ⟨A5, q5, d5, rfl⟩ := HO.out.sliceN
      obtain rfl := HO.out.len
      have l5 := Lib.hid HO.out.intsAt
      have hq5 := setL_len S m
      clear hc
      go_wp2_with fail
      refine (without_any _ _ _ (setL S m) (nth os k) _ (by exact l5.out) (by omega)).mono ?_
      rintro e w6 ⟨v6, rfl, ho6, hb6⟩
      have HK6 := Lib.hid (HK.out.after hb6)
      obtain ⟨A6, q6, d6, rfl⟩ := ho6.sliceN
      have hq6 := ho6.len
      have hl6 := ho6.intsAt
      have HO6 := Lib.hid (ho6.weakenN (base' := w.heap.size) HK.out.below.size)
      have cx6 := HK6.out.box.1
      clear hb6 ho6 hck l5
      cases hin : inS os m k
      ·have HN : Hid (strkB zs n os = false) := Lib.hid (by rw [HF.out]; exact strike_3 (okS_out hlt hin))
       have hw := wo_none (s := S) (m := m) (x := nth os k) (fun z hz hzm => by
        simp only [inS, HQ.out, hz] at hin
        rw [inB_t (by omega)] at hin
        simpa using hin)
       rw [hw] at hq6
       subst hq6
       clear hl6 cx6 hin hw
       go_wp2
       go_ret
       exact ⟨ret_bool HN.out.symm, HK6.out.below⟩
      ·have hin' := hin
       simp only [inS, Bool.and_eq_true, HQ.out] at hin'
       have h1 := inB_iff.1 hin'.1
       obtain ⟨j, hj⟩ := Int.eq_ofNat_of_zero_le h1.1
       have hbj : bitS S j = true := by have := hin'.2; rwa [hj] at this
       have hw := wo_set (s := S) (m := m) (z := j) (by omega) hm7 (by omega) hbj
       rw [hj] at hq6 hl6 HO6
       have HQ1 : Hid (seqS os m (k + 1) = delB S j) := Lib.hid (by rw [seqS, HQ.out, hj]; rfl)
       have hdl := delB_le S j
       have HO7 : Hid (OwnV w6 w.heap.size 3 (.slice A6 q6 d6) (setL (delB S j) m)) := Lib.hid (by rw [← hw.1]; exact HO6.out)
       rw [hw.1] at hq6 hl6
       have HIN := Lib.hid hin
       obtain ⟨T, hT⟩ : ∃ T, delB S j = T := ⟨_, rfl⟩
       rw [hT] at HQ1 hdl hq6 hl6 HO7 hw
       have hTm : T < p2 m := by omega
       subst hq6
       have hlen2 := hw.2
       have hlne : (((setL T m).length : Int) == ((setL S m).length : Int)) = false := by simp; omega
       clear hw hin hin' h1 hj hbj hT HO6
       go_wp2_with fail
       refine (sStageStands_any _ _ _ zs _ _ _ (setL T m) _ (by exact HH.out.after HK6.out.below) hn (by exact hl6) (by omega)).mono ?_
       have hs := HS.out T
       rw [← hs]
       clear hs
       cases hb : setB zs n T
       ·have HN : Hid (strkB zs n os = false) := Lib.hid (by rw [HF.out]; exact strike_3 (okS_falls hlt (by rw [HQ1.out]; exact hb)))
        rintro e w8 ⟨rfl, hb8⟩
        have HK8 := Lib.hid (HK6.out.after hb8)
        clear hb8 cx6 hl6
        go_wp2
        go_ret
        exact ⟨ret_bool HN.out.symm, HK8.out.below⟩
       ·have HOK1 : Hid (okS (setB zs n) os m (k + 1) = true) := Lib.hid (okS_on HOK.out HIN.out (by rw [HQ1.out]; exact hb))
        rintro e w8 ⟨rfl, hb8⟩
        have HK8 := Lib.hid (HK6.out.after hb8)
        have HO8 := Lib.hid (HO7.out.afterN hb8)
        clear hb8 cx6 hl6 HO7
        go_wp2
        go_roundw
        case rel => exact ⟨k + 1, T, by go_num, by omega, hTm, HO8, HQ1, HOK1, HK8⟩
        case measure => simp [intOf]; omega
     ·obtain rfl : k = m := by omega
      have HN : Hid (strkB zs n os = true) := Lib.hid (by rw [HF.out]; exact strike_t h0 HL.out HFU.out HOK.out)
      go_wp2
      go_ret
      exact ⟨ret_bool HN.out.symm, HK.out.below⟩
  ·have hne : ((os.length : Int) != (m : Int)) = true := by simp; omega
   have HN : Hid (strkB zs n os = false) := Lib.hid (by rw [HF.out]; exact strike_1 hl)
   clear hl l2 cx2
   go_wp2
   go_ret
   exact ⟨ret_bool HN.out.symm, HK2.out.below⟩
 ·obtain rfl : m = 0 := by omega
  have HN : Hid (strkB zs n os = false) := Lib.hid (by rw [HF.out]; exact strike_0 h0)
  clear l2 cx2
  go_wp2
  go_ret
  exact ⟨ret_bool HN.out.symm, HK2.out.below⟩
end
section
variable (A : Option Addr) (n c : Nat) (zs : List Int) (B : Option Addr) (q d : Nat) (cs : List Int) (w : World) (h : RecsAt w w.heap.size 4 A n zs) (hn : n ≤ 1048576) (hi : IntsAt w w.heap.size B q cs) (hq : q ≤ 1048576)
include h hn hi hq
theorem sStrk_at : Calls Tryzx.prog 48 #[.agg #[.slice A n c], .slice B q d] w fun e w' => e = .returned (.bool (strkB zs n cs)) ∧ Below w.heap.size w w' := by
 obtain rfl := hi.1
 exact sStrk_any A n c zs B d cs w h hn hi hq
theorem iStrk_at : Calls Tryzx.prog 49 #[.agg #[.slice A n c], .slice B q d] w fun e w' => e = .returned (.bool (strkB zs n cs)) ∧ Below w.heap.size w w' := by
 obtain rfl := hi.1
 exact iStrk_any A n c zs B d cs w h hn hi hq
end
end X
namespace X
open Go.RowKit
set_option maxRecDepth 100000 in
set_option maxHeartbeats 1600000 in
theorem fnExactIsStriking.walk (A0 : Option Addr) (n0 c0 : Nat) (z0 : List Int) (hm0 : n0 ≤ maxLen) (A1 : Option Addr) (n1 c1 : Nat) (z1 : List Int) (w : World) (a0_ : RecsAt w w.heap.size 4 A0 n0 z0) (a1_ : IntsAt w w.heap.size A1 n1 z1) :
  Calls Tryzx.prog 10 #[.agg #[.slice A0 n0 c0], .slice A1 n1 c1] w fun e w' => e = .returned (.bool true) ∧ Below w.heap.size w w' := by
 have hm0' : n0 ≤ 9223372036854775807 := by unfold maxLen at hm0; omega
 have b_0 : Below w.heap.size w w := Below.refl _ _
 have a0_0 := a0_
 have a1_0 := a1_
 by_cases hn1 : n1 ≤ 1048576
 ·have ht1 : ¬ (1048576 : Int) < (n1 : Int) := by omega
  have hb_1 : Below w.heap.size w (w.alloc (.cells #[.slice A0 n0 c0] 49)) := (Below.refl _ _).alloc (Nat.le_refl _) _
  have b_1 := below_then b_0 hb_1
  clear b_0
  have a0_1 := a0_0.after hb_1
  clear a0_0
  have a1_1 := a1_0.after hb_1
  clear a1_0
  clear hb_1
  have bx0_1 : Box (w.alloc (.cells #[.slice A0 n0 c0] 49)) w.heap.size (.slice A0 n0 c0) := Box.new _ _ _
  go_enter Tryzx.func10, Tryz.ntmps10
  go_wp2_with fail
  refine (sz1_any (n := n0) (by omega) (fun h => szArch_ok A0 n0 c0 _ _ (by omega) (by omega) hm0' h) (fun h => szArch_no A0 n0 c0 _ _ (by omega) (by omega) hm0' h)).mono ?_
  rintro e w2 ⟨r2, rfl, hb_2, hr2⟩
  have b_2 := below_then b_1 hb_2
  clear b_1
  have a0_2 := a0_1.after hb_2
  clear a0_1
  have a1_2 := a1_1.after hb_2
  clear a1_1
  have bx0_2 := bx0_1.after hb_2
  clear bx0_1
  have cbx0_2 := bx0_2.1
  clear hb_2
  rcases hr2 with rfl | hr2
  ·go_wp2
   go_ret
   exact ⟨rfl, b_2⟩
  obtain ⟨hr2a, hr2b, hr2c⟩ := hr2
  have hn0 : n0 ≤ 1048576 := by omega
  have ht0 : ¬ r2 < 0 := by omega
  go_wp2_with fail
  refine (toArch_any A0 n0 c0 z0 _ a0_2 hn0).mono ?_
  rintro e w3 ⟨g3, rfl, _, r_3, hb_3⟩
  have b_3 := below_then b_2 hb_3
  clear b_2
  have a0_3 := a0_2.after hb_3
  clear a0_2
  have a1_3 := a1_2.after hb_3
  clear a1_2
  have bx0_3 := bx0_2.after hb_3
  clear bx0_2
  have cbx0_3 := bx0_3.1
  clear cbx0_2
  have s0_3 := recsAt_row r_3 a0_.1 (fun k _ => rfl)
  clear r_3 hb_3
  go_wp2_with fail
  refine (toIntS_ex A1 n1 c1 z1 _ a1_3 hn1).mono ?_
  rintro e w4 ⟨g4, rfl, _, s1_4, hb_4⟩
  have b_4 := below_then b_3 hb_4
  clear b_3
  have a0_4 := a0_3.after hb_4
  clear a0_3
  have a1_4 := a1_3.after hb_4
  clear a1_3
  have bx0_4 := bx0_3.after hb_4
  clear bx0_3
  have s0_4 := s0_3.after hb_4
  clear s0_3
  have cbx0_4 := bx0_4.1
  clear cbx0_3
  clear hb_4
  go_wp2_with fail
  refine (sStrk_at _ _ _ z0 _ _ _ z1 _ (by exact s0_4) hn0 (by exact s1_4) hn1).mono ?_
  rintro e w5 ⟨rfl, hb_5⟩
  have b_5 := below_then b_4 hb_5
  clear b_4
  have a0_5 := a0_4.after hb_5
  clear a0_4
  have a1_5 := a1_4.after hb_5
  clear a1_4
  have bx0_5 := bx0_4.after hb_5
  clear bx0_4
  have s0_5 := s0_4.after hb_5
  clear s0_4
  have s1_5 := s1_4.after hb_5
  clear s1_4
  have cbx0_5 := bx0_5.1
  clear cbx0_4
  clear hb_5
  clear s0_5
  clear s1_5
  go_wp2_with fail
  refine (toArch_any A0 n0 c0 z0 _ a0_5 hn0).mono ?_
  rintro e w6 ⟨g6, rfl, _, r_6, hb_6⟩
  have b_6 := below_then b_5 hb_6
  clear b_5
  have a0_6 := a0_5.after hb_6
  clear a0_5
  have a1_6 := a1_5.after hb_6
  clear a1_5
  have bx0_6 := bx0_5.after hb_6
  clear bx0_5
  have cbx0_6 := bx0_6.1
  clear cbx0_5
  have s0_6 := recsAt_row r_6 a0_.1 (fun k _ => rfl)
  clear r_6 hb_6
  have hb_7 : Below w6.heap.size w6 (w6.alloc (.cells #[.slice (some ⟨g6, 0, none⟩) n0 n0] 26)) := (Below.refl _ _).alloc (Nat.le_refl _) _
  have b_7 := below_then b_6 hb_7
  clear b_6
  have a0_7 := a0_6.after hb_7
  clear a0_6
  have a1_7 := a1_6.after hb_7
  clear a1_6
  have bx0_7 := bx0_6.after hb_7
  clear bx0_6
  have s0_7 := s0_6.after hb_7
  clear s0_6
  have cbx0_7 := bx0_7.1
  clear cbx0_6
  clear hb_7
  have by0_7 : Box (w6.alloc (.cells #[.slice (some ⟨g6, 0, none⟩) n0 n0] 26)) w6.heap.size (.slice (some ⟨g6, 0, none⟩) n0 n0) := Box.new _ _ _
  have cby0_7 := by0_7.1
  go_wp2_with fail
  refine (toIntS_ex A1 n1 c1 z1 _ a1_7 hn1).mono ?_
  rintro e w8 ⟨g8, rfl, _, s1_8, hb_8⟩
  have b_8 := below_then b_7 hb_8
  clear b_7
  have a0_8 := a0_7.after hb_8
  clear a0_7
  have a1_8 := a1_7.after hb_8
  clear a1_7
  have bx0_8 := bx0_7.after hb_8
  clear bx0_7
  have s0_8 := s0_7.after hb_8
  clear s0_7
  have by0_8 := by0_7.after hb_8
  clear by0_7
  have cbx0_8 := bx0_8.1
  clear cbx0_7
  have cby0_8 := by0_8.1
  clear cby0_7
  clear hb_8
  go_wp2_with fail
  refine (iStrk_at _ _ _ z0 _ _ _ z1 _ (by exact s0_8) hn0 (by exact s1_8) hn1).mono ?_
  rintro e w9 ⟨rfl, hb_9⟩
  have b_9 := below_then b_8 hb_9
  clear b_8
  have a0_9 := a0_8.after hb_9
  clear a0_8
  have a1_9 := a1_8.after hb_9
  clear a1_8
  have bx0_9 := bx0_8.after hb_9
  clear bx0_8
  have s0_9 := s0_8.after hb_9
  clear s0_8
  have by0_9 := by0_8.after hb_9
  clear by0_8
  have s1_9 := s1_8.after hb_9
  clear s1_8
  have cbx0_9 := bx0_9.1
  clear cbx0_8
  have cby0_9 := by0_9.1
  clear cby0_8
  clear hb_9
  go_wp2_with fail
  go_region_held3 (fun w' => w'.cell? ⟨w6.heap.size, 0, none⟩ = some (.slice (some ⟨g6, 0, none⟩) n0 n0) ∧ w'.cell? ⟨w.heap.size, 0, none⟩ = some (.slice A0 n0 c0)) (first | exact ⟨cby0_9, cbx0_9⟩ | exact ⟨dy0_1, dx0_1⟩ | exact ⟨dy0_2, dx0_2⟩) ((first | (go_at_call 28; refine (toArch_any A0 n0 c0 z0 _ (by exact a0_9) hn0).mono ?_; rintro e w10 ⟨g10, rfl, _, r_10, hbx10⟩; have hb_10 := below_undrew hbx10; have e0_1 := s0_9.after hb_10; have v0_1 := recsAt_row r_10 a0_.1 (fun k _ => rfl); have dy0_1 := (by0_9.after hb_10).1; have dx0_1 := (bx0_9.after hb_10).1) | (go_at_call 30; refine (eqArch_same _ _ _ _ _ z0 _ (by exact e0_1) (by exact v0_1) hn0).mono ?_; rintro e w11 ⟨rfl, hb_11⟩; have dy0_2 := ((by0_9.after hb_10).after hb_11).1; have dx0_2 := ((bx0_9.after hb_10).after hb_11).1)))
  have b_10 := below_then b_9 hb_10
  clear b_9
  have a0_10 := a0_9.after hb_10
  clear a0_9
  have a1_10 := a1_9.after hb_10
  clear a1_9
  have bx0_10 := bx0_9.after hb_10
  clear bx0_9
  have s0_10 := s0_9.after hb_10
  clear s0_9
  have by0_10 := by0_9.after hb_10
  clear by0_9
  have s1_10 := s1_9.after hb_10
  clear s1_9
  have cbx0_10 := bx0_10.1
  clear cbx0_9
  have cby0_10 := by0_10.1
  clear cby0_9
  have b_11 := below_then b_10 hb_11
  clear b_10
  have a0_11 := a0_10.after hb_11
  clear a0_10
  have a1_11 := a1_10.after hb_11
  clear a1_10
  have bx0_11 := bx0_10.after hb_11
  clear bx0_10
  have s0_11 := s0_10.after hb_11
  clear s0_10
  have by0_11 := by0_10.after hb_11
  clear by0_10
  have s1_11 := s1_10.after hb_11
  clear s1_10
  have cbx0_11 := bx0_11.1
  clear cbx0_10
  have cby0_11 := by0_11.1
  clear cby0_10
  clear hb_10 hb_11
  go_wp2_with fail
  refine (toIntS_ex A1 n1 c1 z1 _ a1_11 hn1).mono ?_
  rintro e w12 ⟨g12, rfl, _, t1_12, hb_12⟩
  have b_12 := below_then b_11 hb_12
  clear b_11
  have a0_12 := a0_11.after hb_12
  clear a0_11
  have a1_12 := a1_11.after hb_12
  clear a1_11
  have bx0_12 := bx0_11.after hb_12
  clear bx0_11
  have s0_12 := s0_11.after hb_12
  clear s0_11
  have by0_12 := by0_11.after hb_12
  clear by0_11
  have s1_12 := s1_11.after hb_12
  clear s1_11
  have cbx0_12 := bx0_12.1
  clear cbx0_11
  have cby0_12 := by0_12.1
  clear cby0_11
  clear hb_12
  go_wp2_with fail
  refine (eqIntS_any _ _ _ _ _ _ z1 z1 _ s1_12 t1_12 hn1 hn1).mono ?_
  rintro e w13 ⟨e13, hb_13⟩
  rw [eqL_refl] at e13
  subst e13
  have b_13 := below_then b_12 hb_13
  clear b_12
  have a0_13 := a0_12.after hb_13
  clear a0_12
  have a1_13 := a1_12.after hb_13
  clear a1_12
  have bx0_13 := bx0_12.after hb_13
  clear bx0_12
  have s0_13 := s0_12.after hb_13
  clear s0_12
  have by0_13 := by0_12.after hb_13
  clear by0_12
  have s1_13 := s1_12.after hb_13
  clear s1_12
  have t1_13 := t1_12.after hb_13
  clear t1_12
  have cbx0_13 := bx0_13.1
  clear cbx0_12
  have cby0_13 := by0_13.1
  clear cby0_12
  clear hb_13
  go_wp2
  go_ret
  exact ⟨rfl, b_13⟩
 ·have ht1 : (1048576 : Int) < (n1 : Int) := by omega
  go_enter Tryzx.func10, Tryz.ntmps10
  go_wp2
  go_ret
  exact ⟨rfl, (below_box b_0)⟩
end X
end Go.Proofs.YtbpnbhemdbgmjaaGreat
