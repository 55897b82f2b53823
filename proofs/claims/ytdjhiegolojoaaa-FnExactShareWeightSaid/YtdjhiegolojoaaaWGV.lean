/-
  Contracts: marks of a vault and whether they hold; what the law ShareWeight carries.
-/
import Derived.Test.YtdjhiegolojoaaaWGM
import Derived.Test.YtdjhiegolojoaaaWVault
namespace Go.Proofs.Ytdjhiegolojoaaa
open Go.RowKit
set_option linter.unusedSimpArgs false
set_option linter.unusedVariables false

/-- Of the old blocks only those of a range may have turned. -/
structure Mid (lo hi : Nat) (w w' : World) : Prop where
  os : w'.os = w.os
  tape : w'.tape = w.tape
  output : w'.output = w.output
  size : w.heap.size ≤ w'.heap.size
  block : ∀ k, k < w.heap.size → (k < lo ∨ hi ≤ k) → w'.heap[k]? = w.heap[k]?
theorem Mid.of_within {lo hi : Nat} {w w' : World} (h : Within lo hi w w') : Mid lo hi w w' := ⟨h.os, h.tape, h.output, Nat.le_of_eq h.size.symm, fun k _ hk => h.block k hk⟩
theorem Mid.of_below {lo hi : Nat} {w w' : World} (h : Below w.heap.size w w') : Mid lo hi w w' := ⟨h.os, h.tape, h.output, h.size, fun k h1 _ => h.block k h1⟩
theorem Mid.trans {lo hi : Nat} {a b c : World} (h : Mid lo hi a b) (h' : Mid lo hi b c) : Mid lo hi a c :=
  ⟨h'.os.trans h.os, h'.tape.trans h.tape, h'.output.trans h.output, Nat.le_trans h.size h'.size, fun k h1 hk => (h'.block k (by have := h.size; omega) hk).trans (h.block k h1 hk)⟩
/-- Of the old blocks only those of two types from base on may have turned. -/
structure Turn2 (base : Nat) (E F : TypeId) (w w' : World) : Prop where
  os : w'.os = w.os
  tape : w'.tape = w.tape
  output : w'.output = w.output
  size : w.heap.size ≤ w'.heap.size
  block : ∀ b, b < w.heap.size → (b < base ∨ ((∀ c, w.heap[b]? ≠ some (.cells c E)) ∧ ∀ c, w.heap[b]? ≠ some (.cells c F))) → w'.heap[b]? = w.heap[b]?
theorem Turn2.of_below {base : Nat} {E F : TypeId} {w w' : World} (h : Below w.heap.size w w') : Turn2 base E F w w' := ⟨h.os, h.tape, h.output, h.size, fun k h1 _ => h.block k h1⟩
theorem Turn2.of_left {base : Nat} {E F : TypeId} {w w' : World} (h : Turn base E w w') : Turn2 base E F w w' := ⟨h.os, h.tape, h.output, Nat.le_of_eq h.size.symm, fun k _ hk => h.block k (hk.imp id fun x => x.1)⟩
theorem Turn2.of_right {base : Nat} {E F : TypeId} {w w' : World} (h : Turn base F w w') : Turn2 base E F w w' := ⟨h.os, h.tape, h.output, Nat.le_of_eq h.size.symm, fun k _ hk => h.block k (hk.imp id fun x => x.2)⟩
theorem Turn2.trans {base : Nat} {E F : TypeId} {a b c : World} (h : Turn2 base E F a b) (h' : Turn2 base E F b c) : Turn2 base E F a c :=
  ⟨h'.os.trans h.os, h'.tape.trans h.tape, h'.output.trans h.output, Nat.le_trans h.size h'.size, fun k h1 hk => by
    have e := h.block k h1 hk
    refine (h'.block k (by have := h.size; omega) ?_).trans e
    rw [e]; exact hk⟩
theorem Turn2.below {base : Nat} {E F : TypeId} {w w' : World} (h : Turn2 base E F w w') (hb : base ≤ w.heap.size) : Below base w w' := ⟨h.os, h.tape, h.output, h.size, fun k hk => h.block k (by omega) (.inl hk)⟩

set_option maxRecDepth 100000 in
set_option maxHeartbeats 800000 in
theorem markVault_mid (lo hi g n c : Nat) (L : List (Nat × List Int)) (j q d : Nat) (M : List (Nat × List Int)) (k0 : Int) (w : World) (h : NestInts w lo hi g 41 67 4 n L) (hl : NestInts w lo hi j 42 69 3 q M) (hi0 : hi ≤ w.heap.size)
    (hn : n ≤ 1048576) (hs : sumN L n ≤ 1048576) (hr : ∀ i, i < n → rowN L i ≤ 1048576) (hq : q ≤ 1048576) (ht : sumN M q ≤ 1048576) (hu : ∀ i, i < q → rowN M i ≤ 1048576) (h0 : 0 ≤ k0) (h1 : k0 ≤ 1000) :
    Calls Try.prog 10 #[.agg #[.slice (some ⟨g, 0, none⟩) n c, .slice (some ⟨j, 0, none⟩) q d], .int .i64 k0] w fun e w' => e = .returned (.int .i64 (k0 + (sumN L n * 4 : Nat) + (sumN M q * 3 : Nat))) ∧ Mid lo hi w w' := by
  have HR := Lib.hid hr
  have HU := Lib.hid hu
  obtain ⟨W1, hW⟩ : ∃ W1 : World, W1 = w.alloc (.cells #[.slice (some ⟨g, 0, none⟩) n c, .slice (some ⟨j, 0, none⟩) q d] 30) := ⟨_, rfl⟩
  have b0 : Below w.heap.size w W1 := by rw [hW]; exact (Below.refl _ _).alloc (Nat.le_refl _) _
  have ra : RowF W1 w.heap.size 30 2 (pairV (.slice (some ⟨g, 0, none⟩) n c) (.slice (some ⟨j, 0, none⟩) q d)) := by rw [hW]; exact RowF.of_row (row_pair w _ _ _)
  have hA := h.after b0
  have HJ := Lib.hid (hl.after b0)
  clear h hl hr hu
  go_enter Try.func10, Try.ntmps10
  go_wp2_with fail
  rw [← hW]
  clear hW
  refine (markArchS_ty lo hi g n c L k0 W1 hA hn hs HR.out h0 (by omega)).mono ?_
  rintro e w1 ⟨rfl, hw1, ht1⟩
  have hm1 := (Mid.of_below (lo := lo) (hi := hi) b0).trans (Mid.of_within hw1)
  have hj1 := HJ.out.turn ht1 (by decide) (by decide)
  have ra1 : RowF w1 w.heap.size 30 2 (pairV (.slice (some ⟨g, 0, none⟩) n c) (.slice (some ⟨j, 0, none⟩) q d)) := ra.of_block (hw1.block _ (.inr hi0))
  have a1 : w1.cell? ⟨w.heap.size, 1, none⟩ = some (.slice (some ⟨j, 0, none⟩) q d) := ra1.cell (by omega)
  clear ra ra1 hA
  go_wp2_with fail
  refine (markLoadSS_ty lo hi j q d M _ w1 hj1 hq ht HU.out (by omega) (by omega)).mono ?_
  rintro e w2 ⟨rfl, hw2, _⟩
  have hm2 := hm1.trans (Mid.of_within hw2)
  go_wp2
  go_ret
  exact ⟨rfl, hm2⟩

set_option maxRecDepth 100000 in
set_option maxHeartbeats 800000 in
theorem markVault_gm (base : Nat) (A : Option Addr) (n c : Nat) (cs : List Value) (L : List (Nat × List Int)) (B : Option Addr) (q d : Nat) (cl : List Value) (M : List (Nat × List Int)) (k0 : Int) (w : World) (h : GM w base 41 67 4 (.slice A n c) n cs L) (hl : GM w base 42 69 3 (.slice B q d) q cl M) (hb0 : base ≤ w.heap.size)
    (hn : n ≤ 1048576) (hs : sumN L n ≤ 4194304) (hr : ∀ i, i < n → rowN L i ≤ 1048576) (hq : q ≤ 1048576) (ht : sumN M q ≤ 4194304) (hu : ∀ i, i < q → rowN M i ≤ 1048576) (h0 : 0 ≤ k0) (h1 : k0 ≤ 1000) :
    Calls Try.prog 10 #[.agg #[.slice A n c, .slice B q d], .int .i64 k0] w fun e w' => e = .returned (.int .i64 (k0 + (sumN L n * 4 : Nat) + (sumN M q * 3 : Nat))) ∧ GM w' base 41 67 4 (.slice A n c) n cs (mkTo L n 4 k0 n) ∧ GM w' base 42 69 3 (.slice B q d) q cl (mkTo M q 3 (k0 + (sumN L n * 4 : Nat)) q) ∧ Turn2 base 67 69 w w' := by
  have HR := Lib.hid hr
  have HU := Lib.hid hu
  obtain ⟨W1, hW⟩ : ∃ W1 : World, W1 = w.alloc (.cells #[.slice A n c, .slice B q d] 30) := ⟨_, rfl⟩
  have b0 : Below w.heap.size w W1 := by rw [hW]; exact (Below.refl _ _).alloc (Nat.le_refl _) _
  have ra : RowF W1 w.heap.size 30 2 (pairV (.slice A n c) (.slice B q d)) := by rw [hW]; exact RowF.of_row (row_pair w _ _ _)
  have hA := h.after b0
  have hB := hl.after b0
  clear h hl hr hu
  go_enter Try.func10, Try.ntmps10
  go_wp2_with fail
  rw [← hW]
  clear hW
  refine (markArchS_gm base A n c cs L k0 W1 hA hn hs HR.out h0 (by omega)).mono ?_
  rintro e w1 ⟨rfl, hA1, ht1⟩
  have hm1 := (Turn2.of_below (base := base) (E := 67) (F := 69) b0).trans (Turn2.of_left ht1)
  have hB1 := hB.turn ht1 (by decide) (by decide)
  have ra1 : RowF w1 w.heap.size 30 2 (pairV (.slice A n c) (.slice B q d)) := ra.of_block (ht1.block _ (.inr fun x e => by
    obtain ⟨y, hy, _⟩ := ra
    rw [hy] at e
    simp at e))
  have a1 : w1.cell? ⟨w.heap.size, 1, none⟩ = some (.slice B q d) := ra1.cell (by omega)
  have HA1 := Lib.hid hA1
  clear ra ra1 hA hB hA1
  go_wp2_with fail
  refine (markLoadSS_gm base B q d cl M _ w1 hB1 hq ht HU.out (by omega) (by omega)).mono ?_
  rintro e w2 ⟨rfl, hB2, ht2⟩
  have hm2 := hm1.trans (Turn2.of_right ht2)
  have hA2 := HA1.out.turn ht2 (by decide) (by decide)
  go_wp2
  go_ret
  exact ⟨rfl, hA2, hB2, hm2⟩

set_option maxRecDepth 100000 in
set_option maxHeartbeats 800000 in
theorem heldVault_any (A : Option Addr) (n c : Nat) (L : List (Nat × List Int)) (B : Option Addr) (q d : Nat) (M : List (Nat × List Int)) (k0 : Int) (w : World) (h : NestAt w w.heap.size 4 A n L) (hl : NestAt w w.heap.size 3 B q M)
    (hn : n ≤ 1048576) (hs : sumN L n ≤ 4194304) (hr : ∀ i, i < n → rowN L i ≤ 1048576) (hq : q ≤ 1048576) (ht : sumN M q ≤ 4194304) (hu : ∀ i, i < q → rowN M i ≤ 1048576) (hz : ∀ i, i < n → rowZ L i = iota (k0 + (sumN L i * 4 : Nat)) (rowN L i * 4)) (hy : ∀ i, i < q → rowZ M i = iota (k0 + (sumN L n * 4 : Nat) + (sumN M i * 3 : Nat)) (rowN M i * 3)) (h0 : 0 ≤ k0) (h1 : k0 ≤ 1000) :
    Calls Try.prog 11 #[.agg #[.slice A n c, .slice B q d], .int .i64 k0] w fun e w' => e = .returned (.int .i64 (k0 + (sumN L n * 4 : Nat) + (sumN M q * 3 : Nat))) ∧ Below w.heap.size w w' := by
  have HR := Lib.hid hr
  have HU := Lib.hid hu
  have HZ := Lib.hid hz
  have HY := Lib.hid hy
  obtain ⟨W1, hW⟩ : ∃ W1 : World, W1 = w.alloc (.cells #[.slice A n c, .slice B q d] 30) := ⟨_, rfl⟩
  have b0 : Below w.heap.size w W1 := by rw [hW]; exact (Below.refl _ _).alloc (Nat.le_refl _) _
  have ra : RowF W1 w.heap.size 30 2 (pairV (.slice A n c) (.slice B q d)) := by rw [hW]; exact RowF.of_row (row_pair w _ _ _)
  have hA := h.after b0
  have hB := hl.after b0
  have p1 : ¬ k0 + ((sumN L n * 4 : Nat) : Int) < 0 := by omega
  have p2 : ¬ k0 + ((sumN L n * 4 : Nat) : Int) + ((sumN M q * 3 : Nat) : Int) < 0 := by omega
  clear h hl hr hu hz hy
  go_enter Try.func11, Try.ntmps11
  go_wp2_with fail
  rw [← hW]
  clear hW
  refine (heldArchS_any A n c L k0 W1 hA hn hs HR.out HZ.out h0 (by omega)).mono ?_
  rintro e w1 ⟨rfl, hb1⟩
  have hm1 := below_then b0 hb1
  have hB1 := hB.after hb1
  have ra1 := ra.after hb1
  have a1 : w1.cell? ⟨w.heap.size, 1, none⟩ = some (.slice B q d) := ra1.cell (by omega)
  clear ra ra1 hA hB
  go_wp2_with fail
  refine (heldLoadSS_any B q d M _ w1 hB1 hq ht HU.out HY.out (by omega) (by omega)).mono ?_
  rintro e w2 ⟨rfl, hb2⟩
  have hm2 := below_then hm1 hb2
  go_wp2
  go_ret
  exact ⟨rfl, hm2⟩
end Go.Proofs.Ytdjhiegolojoaaa
