/-
  Texts that the law stands on, part 3.
-/
import Derived.Test.YtodneggnnipcnaaGreatX1
import Derived.Test.YtodneggnnipcnaaGreatX2
import Derived.Test.YtodneggnnipcnaaGreatC10
import Derived.Test.YtodneggnnipcnaaGreatC19
import Derived.Test.YtodneggnnipcnaaGreatC20
import Derived.Test.YtodneggnnipcnaaGreatC24
set_option maxRecDepth 100000
set_option linter.unusedVariables false
set_option linter.unusedSimpArgs false
namespace Go.Proofs.YtodneggnnipcnaaGreat
namespace X
open Go.RowKit
def MetAll (rs : List Int) (n : Nat) (acc : List Int) : Prop := ∃ q, acc.length = q * 4 ∧ ∀ j, j < q → (thrB (nth acc (j * 4)) (nth acc (j * 4 + 1)) (nth acc (j * 4 + 2)) (nth acc (j * 4 + 3)) = true ∧ allB (metAt rs (nth acc (j * 4)) (nth acc (j * 4 + 1)) (nth acc (j * 4 + 2)) (nth acc (j * 4 + 3))) n = true)
theorem nthL {xs ys : List Int} {j : Nat} (h : j < xs.length) : nth (xs ++ ys) j = nth xs j := by
 rw [nth_get _ _ (by rw [List.length_append]; omega), nth_get _ _ h, List.getElem_append_left h]
theorem nthR {xs ys : List Int} {j : Nat} (h : j < ys.length) : nth (xs ++ ys) (xs.length + j) = nth ys j := by
 rw [nth_get _ _ (by rw [List.length_append]; omega), nth_get _ _ h, List.getElem_append_right (by omega)]
 congr 1
 omega
theorem crStep_met {rs : List Int} {n i k m : Nat} {acc : List Int} (h : MetAll rs n acc) : MetAll rs n (crStep rs n i k m acc) := by
 unfold crStep;split
 ·rename_i hc
  simp only [Bool.and_eq_true] at hc;have ht := cr_thr rs hc.1;have hm := hc.2.2;unfold crAll at hm;obtain ⟨q, hl, ha⟩ := h;refine ⟨q + 1, by rw [List.length_append, hl]; simp; omega, fun j hj => ?_⟩
  by_cases e : j < q
  ·rw [nthL (by omega), nthL (by omega), nthL (by omega), nthL (by omega)]
   exact ha j e
  ·obtain rfl : j = q := by omega
   have e0 : j * 4 = acc.length + 0 := by omega
   rw [e0, Nat.add_assoc, Nat.add_assoc, Nat.add_assoc, nthR (by simp), nthR (by simp), nthR (by simp), nthR (by simp)]
   exact ⟨ht, hm⟩
 ·exact h
theorem foldN_met {rs : List Int} {n : Nat} {f : Nat → List Int → List Int} (hf : ∀ j a, MetAll rs n a → MetAll rs n (f j a)) {a : List Int} (h : MetAll rs n a) : ∀ t, MetAll rs n (foldN f t a)
 | 0 => h
 | t + 1 => hf t _ (foldN_met hf h t)
theorem cornL_met (rs : List Int) (n : Nat) : MetAll rs n (cornL rs n) := by
 have h0 : MetAll rs n [] := ⟨0, rfl, fun j hj => absurd hj (by omega)⟩
 cases e : cornB rs n
 ·rw [cornL_f e]; exact h0
 ·rw [cornL_t e]
  exact foldN_met (fun i a ha => foldN_met (fun j a ha => foldN_met (fun j a ha => crStep_met ha) ha _) ha _) h0 _
theorem thr_stands {zs : List Int} {n : Nat} {ls : List Int} {q j : Nat} (h : j < thrN zs n ls q) : stB zs n ls q (nth (thrL zs n ls q) (j * 4)) (nth (thrL zs n ls q) (j * 4 + 1)) (nth (thrL zs n ls q) (j * 4 + 2)) (nth (thrL zs n ls q) (j * 4 + 3)) = true := by
 obtain ⟨m, hl, ha⟩ := cornL_met (rowsZ zs n ls q) (rowsN zs n ls q);have hm : thrN zs n ls q = m := by unfold thrN cornN; omega
 have hj := ha j (by omega)
 have hB : cornB (rowsZ zs n ls q) (rowsN zs n ls q) = true := by
  cases e : cornB (rowsZ zs n ls q) (rowsN zs n ls q)
  ·exfalso
   unfold thrN cornN at h;rw [cornL_f e] at h;simp at h
  ·rfl
 unfold cornB at hB;rw [Bool.and_eq_true] at hB;have hr := allB_out hB.1;have hi := inB_iff.1 hB.2;have ht := allB_out hj.2;unfold stB thrL;refine fulAll_t (inB_iff.2 (by omega)) (fun i hi => ?_)
 have h1 := hr i hi;have h2 := ht i hi;unfold fulAt;rw [fulB_t hj.1 h1];exact h2
def exB (sn cs : List Int) : Nat → Bool
 | 0 => true
 | k + 1 => exB sn cs k && (decide (nth cs k = 0) || decide (nth sn k = nth cs k))
theorem exB_f {sn cs : List Int} {k : Nat} (h : exB sn cs k = false) : ∀ d, exB sn cs (k + d) = false
 | 0 => h
 | d + 1 => by rw [← Nat.add_assoc, exB, exB_f h d]; rfl
theorem exB_bad {sn cs : List Int} {k n : Nat} (hk : k < n) (h1 : ¬ nth cs k = 0) (h2 : ¬ nth sn k = nth cs k) : exB sn cs n = false := by
 have := exB_f (sn := sn) (cs := cs) (k := k + 1) (by simp [exB, h1, h2]) (n - (k + 1))
 rwa [show k + 1 + (n - (k + 1)) = n by omega] at this
theorem exB_0 {sn cs : List Int} {k : Nat} (h : exB sn cs k = true) (h1 : nth cs k = 0) : exB sn cs (k + 1) = true := by simp [exB, h, h1]
theorem exB_1 {sn cs : List Int} {k : Nat} (h : exB sn cs k = true) (h1 : nth sn k = nth cs k) : exB sn cs (k + 1) = true := by simp [exB, h, h1]
def exN (f : Nat → Bool) : Nat → Nat
 | 0 => 0
 | k + 1 => if f k = true then exN f k + 1 else exN f k
def exL (f : Nat → Bool) (L : List Int) : Nat → List Int
 | 0 => []
 | k + 1 => if f k = true then exL f L k ++ [nth L (k * 4), nth L (k * 4 + 1), nth L (k * 4 + 2), nth L (k * 4 + 3)] else exL f L k
theorem exN_le (f : Nat → Bool) : ∀ k, exN f k ≤ k
 | 0 => Nat.le_refl _
 | k + 1 => by have := exN_le f k; unfold exN; split <;> omega
theorem exN_t {f : Nat → Bool} {k : Nat} (h : f k = true) : exN f (k + 1) = exN f k + 1 := by simp [exN, h]
theorem exN_f {f : Nat → Bool} {k : Nat} (h : f k = false) : exN f (k + 1) = exN f k := by simp [exN, h]
theorem exL_t {f : Nat → Bool} {L : List Int} {k : Nat} (h : f k = true) : exL f L (k + 1) = exL f L k ++ [nth L (k * 4), nth L (k * 4 + 1), nth L (k * 4 + 2), nth L (k * 4 + 3)] := by simp [exL, h]
theorem exL_f {f : Nat → Bool} {L : List Int} {k : Nat} (h : f k = false) : exL f L (k + 1) = exL f L k := by simp [exL, h]
def exAt (zs : List Int) (n : Nat) (ls : List Int) (q : Nat) (cs : List Int) (j : Nat) : Bool := exB (crRes zs n ls q (nth (thrL zs n ls q) (j * 4)) (nth (thrL zs n ls q) (j * 4 + 1)) (nth (thrL zs n ls q) (j * 4 + 2)) (nth (thrL zs n ls q) (j * 4 + 3))) cs n
def expN (zs : List Int) (n : Nat) (ls : List Int) (q : Nat) (cs : List Int) (p : Nat) : Nat := if cracksB zs n cs p = true then exN (exAt zs n ls q cs) (thrN zs n ls q) else 0
theorem expN_t {zs : List Int} {n : Nat} {ls : List Int} {q : Nat} {cs : List Int} {p : Nat} (h : cracksB zs n cs p = true) : expN zs n ls q cs p = exN (exAt zs n ls q cs) (thrN zs n ls q) := by simp [expN, h]
theorem expN_f {zs : List Int} {n : Nat} {ls : List Int} {q : Nat} {cs : List Int} {p : Nat} (h : cracksB zs n cs p = false) : expN zs n ls q cs p = 0 := by simp [expN, h]
theorem cracks_out {zs : List Int} {n : Nat} {cs : List Int} {p : Nat} (h : cracksB zs n cs p = true) : p = n ∧ ∀ k, k < n → 0 ≤ nth cs k ∧ nth cs k ≤ 2 := by
 unfold cracksB at h;rw [Bool.and_eq_true, Bool.and_eq_true, decide_eq_true_eq] at h;refine ⟨h.2.1, fun k hk => ?_⟩
 have := List.all_eq_true.1 h.2.2 k (by rw [h.2.1]; simpa using hk)
 exact inB_iff.1 this
end X
section
open Go.RowKit
theorem ownB_below {B base : Nat} {E : TypeId} {a w w' : World} {v : Value} {xs : List Int} {o : Obj} (hb : Below B a w) (hB : B ≤ w.heap.size) (hown : OwnV w base E v xs) (h : B ≤ base) (hg : (w.alloc o).grownBy w' v.ownBlock) : Below B a w' :=
 (hb.alloc hB o).grown hg (by simp; omega) (fun k hk => Nat.le_trans h (hown.ownLt k hk))
end
namespace X
open Go.RowKit
structure Kept (w : World) (v : Value) (wr : World) : Prop where
 below : Below w.heap.size w wr
 box : Box wr w.heap.size v
 lt : w.heap.size + 1 ≤ wr.heap.size
theorem Kept.new (w : World) (v : Value) (t : TypeId) : Kept w v (w.alloc (.cells #[v] t)) := ⟨(Below.refl _ _).alloc (Nat.le_refl _) _, Box.new _ _ _, by simp⟩
theorem Kept.after {w wr w1 : World} {v : Value} (h : Kept w v wr) (hb : Below wr.heap.size wr w1) : Kept w v w1 := ⟨below_then h.below hb, h.box.after hb, Nat.le_trans h.lt hb.size⟩
theorem Kept.step {w wr w1 : World} {v : Value} (h : Kept w v wr) (hb : Below (w.heap.size + 1) wr w1) : Kept w v w1 :=
 ⟨h.below.trans (hb.mono (Nat.le_succ _)), ⟨(hb.cell (p := ⟨w.heap.size, 0, none⟩) (Nat.lt_succ_self _)).trans h.box.1, Nat.lt_of_lt_of_le h.box.2 hb.size⟩, Nat.le_trans h.lt hb.size⟩
theorem Kept.own {w wr w1 : World} {v u : Value} {E : TypeId} {xs : List Int} {o : Obj} (h : Kept w v wr) (hown : OwnV wr (w.heap.size + 1) E u xs) (hg : (wr.alloc o).grownBy w1 u.ownBlock) : Kept w v w1 :=
 h.step (ownB_below (Below.refl _ _) h.lt hown (Nat.le_refl _) hg)
end X
end Go.Proofs.YtodneggnnipcnaaGreat
