/-
  The law ShareWeight: the call returns true.
-/
import Derived.Test.YtdjhiegolojoaaaWGV
import Derived.Test.YtdjhiegolojoaaaWShareS
import Derived.Deep.RegionHeld3
namespace Go.Proofs.Ytdjhiegolojoaaa
open Go.RowKit
set_option linter.unusedVariables false
set_option linter.unusedSimpArgs false

theorem sumN_leB {L : List (Nat × List Int)} {b : Nat} : ∀ k, (∀ i, i < k → rowN L i ≤ b) → sumN L k ≤ k * b
  | 0, _ => Nat.zero_le _
  | k + 1, h => by
    have h1 := sumN_leB k (fun i hi => h i (by omega))
    have h2 := h k (by omega)
    rw [sumN, Nat.add_mul]
    omega
theorem sh_sizes (L : List (Nat × List Int)) (n : Nat) (M : List (Nat × List Int)) (q : Nat) (wt x : Int) (hM : M.length = q) (hr : ∀ i, i < q → rowN M i ≤ 1048576) (hs : sumN M q ≤ 1048576) :
    (shM L n M q wt x).length = q ∧ (∀ i, i < q → rowN (shM L n M q wt x) i ≤ 1048576) ∧ sumN (shM L n M q wt x) q ≤ 4194304 := by
  unfold shM
  split
  · rename_i h
    simp only [shB, shOk, Bool.and_eq_true] at h
    obtain ⟨hn, rfl, hl⟩ := vaultB_out h.1.1
    have hr2 : ∀ i, i < q → rowN (shNew L M q wt x) i ≤ 7 := fun i hi => by
      have e := shTo_lt (L := L) (M := M) (wq := Int.tdiv wt q) (x := x) (k := q) hi hi
      obtain ⟨_, hq6, _⟩ := loadsB_out (hl i hi)
      rw [shNew, e.1]; omega
    refine ⟨by simp [shNew, shTo], fun i hi => by have := hr2 i hi; omega, ?_⟩
    have := sumN_leB q hr2
    omega
  · exact ⟨hM, hr, by omega⟩

/-- The argument and its box. -/
structure SwA (w wr : World) (A0 : Option Addr) (n0 c0 : Nat) (L0 : List (Nat × List Int)) (B0 : Option Addr) (p0 d0 : Nat) (M0 : List (Nat × List Int)) : Prop where
  below : Below w.heap.size w wr
  ribs : NestAt wr w.heap.size 4 A0 n0 L0
  loads : NestAt wr w.heap.size 3 B0 p0 M0
  box : RowF wr w.heap.size 25 2 (pairV (.slice A0 n0 c0) (.slice B0 p0 d0))
/-- A vault in a box of its own; all its blocks lie below lim. -/
structure VB (wr : World) (lim b : Nat) (A : Option Addr) (n c : Nat) (L : List (Nat × List Int)) (B : Option Addr) (q d : Nat) (M : List (Nat × List Int)) : Prop where
  ribs : NestAt wr lim 4 A n L
  loads : NestAt wr lim 3 B q M
  box : RowF wr b 30 2 (pairV (.slice A n c) (.slice B q d))
  lt : b < lim
  le : lim ≤ wr.heap.size
section
variable {w wr w' : World} {A0 B0 A B : Option Addr} {n0 c0 p0 d0 n c q d lim b : Nat} {L0 M0 L M : List (Nat × List Int)}
theorem SwA.start (h : NestAt w w.heap.size 4 A0 n0 L0) (hl : NestAt w w.heap.size 3 B0 p0 M0) : SwA w (w.alloc (.cells #[.slice A0 n0 c0, .slice B0 p0 d0] 25)) A0 n0 c0 L0 B0 p0 d0 M0 := by
  have hb : Below w.heap.size w (w.alloc (.cells #[.slice A0 n0 c0, .slice B0 p0 d0] 25)) := (Below.refl _ _).alloc (Nat.le_refl _) _
  exact ⟨hb, h.below hb, hl.below hb, RowF.of_row (row_pair w _ _ _)⟩
theorem SwA.keep (h : SwA w wr A0 n0 c0 L0 B0 p0 d0 M0) (hb : Below lim wr w') (hl : w.heap.size < lim) : SwA w w' A0 n0 c0 L0 B0 p0 d0 M0 :=
  ⟨h.below.trans (hb.mono (by omega)), h.ribs.below (hb.mono (by omega)), h.loads.below (hb.mono (by omega)), h.box.of_block (hb.block _ hl)⟩
theorem SwA.after (h : SwA w wr A0 n0 c0 L0 B0 p0 d0 M0) (hb : Below wr.heap.size wr w') : SwA w w' A0 n0 c0 L0 B0 p0 d0 M0 := h.keep hb h.box.lt
theorem SwA.nR (h : SwA w wr A0 n0 c0 L0 B0 p0 d0 M0) : NestAt wr wr.heap.size 4 A0 n0 L0 := h.ribs.mono h.below.size
theorem SwA.nL (h : SwA w wr A0 n0 c0 L0 B0 p0 d0 M0) : NestAt wr wr.heap.size 3 B0 p0 M0 := h.loads.mono h.below.size
theorem SwA.cells (h : SwA w wr A0 n0 c0 L0 B0 p0 d0 M0) : wr.cell? ⟨w.heap.size, 0, none⟩ = some (.slice A0 n0 c0) ∧ wr.cell? ⟨w.heap.size, 1, none⟩ = some (.slice B0 p0 d0) := ⟨h.box.cell (i := 0) (by omega), h.box.cell (i := 1) (by omega)⟩
theorem VB.keep (h : VB wr lim b A n c L B q d M) {lim' : Nat} (hb : Below lim' wr w') (hl : lim ≤ lim') : VB w' lim b A n c L B q d M :=
  ⟨h.ribs.below (hb.mono hl), h.loads.below (hb.mono hl), h.box.of_block (hb.block _ (by have := h.lt; omega)), h.lt, Nat.le_trans h.le hb.size⟩
theorem VB.after (h : VB wr lim b A n c L B q d M) (hb : Below wr.heap.size wr w') : VB w' lim b A n c L B q d M := h.keep hb h.le
theorem VB.nR (h : VB wr lim b A n c L B q d M) : NestAt wr wr.heap.size 4 A n L := h.ribs.mono h.le
theorem VB.nL (h : VB wr lim b A n c L B q d M) : NestAt wr wr.heap.size 3 B q M := h.loads.mono h.le
theorem VB.cells (h : VB wr lim b A n c L B q d M) : wr.cell? ⟨b, 0, none⟩ = some (.slice A n c) ∧ wr.cell? ⟨b, 1, none⟩ = some (.slice B q d) := ⟨h.box.cell (i := 0) (by omega), h.box.cell (i := 1) (by omega)⟩
theorem VB.new (h : NestAt wr wr.heap.size 4 A n L) (hl : NestAt wr wr.heap.size 3 B q M) : VB (wr.alloc (.cells #[.slice A n c, .slice B q d] 30)) (wr.heap.size + 1) wr.heap.size A n c L B q d M := by
  have hb : Below wr.heap.size wr (wr.alloc (.cells #[.slice A n c, .slice B q d] 30)) := (Below.refl _ _).alloc (Nat.le_refl _) _
  exact ⟨(h.below hb).mono (by omega), (hl.below hb).mono (by omega), RowF.of_row (row_pair wr _ _ _), by omega, by simp⟩
theorem Mid.below {lo hi : Nat} (h : Mid lo hi wr w') (hl : lo ≤ wr.heap.size) : Below lo wr w' := ⟨h.os, h.tape, h.output, h.size, fun k hk => h.block k (by omega) (.inl hk)⟩
/-- Grown nests of the program's: the ribs and the loads. -/
structure G2 (w : World) (base : Nat) (A : Option Addr) (n c : Nat) (csR : List Value) (L : List (Nat × List Int)) (B : Option Addr) (q d : Nat) (csL : List Value) (M : List (Nat × List Int)) (b : Nat) : Prop where
  ribs : GN w base 41 67 4 (.slice A n c) n csR L
  loads : GN w base 42 69 3 (.slice B q d) q csL M
  box : RowF w b 30 2 (pairV (.slice A n c) (.slice B q d))
  ge : base ≤ b
variable {csR csL : List Value} {base : Nat}
theorem G2.new (h : GN wr base 41 67 4 (.slice A n c) n csR L) (hl : GN wr base 42 69 3 (.slice B q d) q csL M) (hb : base ≤ wr.heap.size) : G2 (wr.alloc (.cells #[.slice A n c, .slice B q d] 30)) base A n c csR L B q d csL M wr.heap.size := by
  have hbb : Below wr.heap.size wr (wr.alloc (.cells #[.slice A n c, .slice B q d] 30)) := (Below.refl _ _).alloc (Nat.le_refl _) _
  exact ⟨h.after hbb, hl.after hbb, RowF.of_row (row_pair wr _ _ _), hb⟩
theorem G2.after (h : G2 wr base A n c csR L B q d csL M b) (hb : Below wr.heap.size wr w') : G2 w' base A n c csR L B q d csL M b := ⟨h.ribs.after hb, h.loads.after hb, h.box.after hb, h.ge⟩
theorem G2.mid (h : G2 wr base A n c csR L B q d csL M b) {lo hi : Nat} (hm : Mid lo hi wr w') (hh : hi ≤ base) : G2 w' base A n c csR L B q d csL M b :=
  ⟨h.ribs.keep fun g _ _ hg hb _ => hm.block g (Array.getElem?_eq_some_iff.1 hg).1 (.inr (by omega)), h.loads.keep fun g _ _ hg hb _ => hm.block g (Array.getElem?_eq_some_iff.1 hg).1 (.inr (by omega)), h.box.of_block (hm.block b h.box.lt (.inr (by have := h.ge; omega))), h.ge⟩
theorem G2.cells (h : G2 wr base A n c csR L B q d csL M b) : wr.cell? ⟨b, 0, none⟩ = some (.slice A n c) ∧ wr.cell? ⟨b, 1, none⟩ = some (.slice B q d) := ⟨h.box.cell (i := 0) (by omega), h.box.cell (i := 1) (by omega)⟩
end
theorem heldVault_mk {A : Option Addr} {n c : Nat} {L : List (Nat × List Int)} {B : Option Addr} {q d : Nat} {M : List (Nat × List Int)} {k0 Z : Int} {w : World} (hZ : k0 + (sumN L n * 4 : Nat) + (sumN M q * 3 : Nat) = Z) (h : NestAt w w.heap.size 4 A n (mkTo L n 4 k0 n)) (hl : NestAt w w.heap.size 3 B q (mkTo M q 3 (k0 + (sumN L n * 4 : Nat)) q))
    (hn : n ≤ 1048576) (hs : sumN L n ≤ 4194304) (hr : ∀ i, i < n → rowN L i ≤ 1048576) (hq : q ≤ 1048576) (ht : sumN M q ≤ 4194304) (hu : ∀ i, i < q → rowN M i ≤ 1048576) (h0 : 0 ≤ k0) (h1 : k0 ≤ 1000) :
    Calls Try.prog 11 #[.agg #[.slice A n c, .slice B q d], .int .i64 k0] w fun e w' => e = .returned (.int .i64 Z) ∧ Below w.heap.size w w' := by
  have e1 : ∀ k, k ≤ n → sumN (mkTo L n 4 k0 n) k = sumN L k := fun k hk => sumN_congr k fun i hi => mkTo_n (by omega)
  have e2 : ∀ k, k ≤ q → sumN (mkTo M q 3 (k0 + (sumN L n * 4 : Nat)) q) k = sumN M k := fun k hk => sumN_congr k fun i hi => mkTo_n (by omega)
  subst hZ
  have H := heldVault_any A n c _ B q d _ k0 w h hl hn (by rw [e1 n (Nat.le_refl _)]; exact hs) (fun i hi => by rw [mkTo_n hi]; exact hr i hi) hq (by rw [e2 q (Nat.le_refl _)]; exact ht) (fun i hi => by rw [mkTo_n hi]; exact hu i hi)
    (fun i hi => by rw [mkTo_lt hi hi, mkTo_n hi, e1 i (by omega)]) (fun i hi => by rw [mkTo_lt hi hi, mkTo_n hi, e1 n (Nat.le_refl _), e2 i (by omega)]) h0 h1
  rw [e1 n (Nat.le_refl _), e2 q (Nat.le_refl _)] at H
  exact H
set_option maxRecDepth 100000 in
set_option maxHeartbeats 3200000 in
theorem fnExactShareWeight.walk (A0 : Option Addr) (n0 c0 : Nat) (L0 : List (Nat × List Int)) (hm0 : n0 ≤ maxLen) (B0 : Option Addr) (p0 d0 : Nat) (M0 : List (Nat × List Int)) (hk0 : p0 ≤ maxLen) (wt x : Int) (w : World) (a0_ : NestAt w w.heap.size 4 A0 n0 L0) (f0_ : NestAt w w.heap.size 3 B0 p0 M0) :
    Calls Try.prog 3 #[.agg #[.slice A0 n0 c0, .slice B0 p0 d0], .int .i64 wt, .int .i64 x] w fun e w' => e = .returned (.bool true) ∧ Below w.heap.size w w' := by
  have hm0' : n0 ≤ 9223372036854775807 := by unfold maxLen at hm0; omega
  have hk0' : p0 ≤ 9223372036854775807 := by unfold maxLen at hk0; omega
  have S1 := Lib.hid (SwA.start (c0 := c0) (d0 := d0) a0_ f0_)
  have HL := Lib.hid (And.intro a0_.1 f0_.1)
  have HLL := Lib.hid (And.intro a0_.lens f0_.lens)
  clear a0_ f0_
  go_enter Try.func3, Try.ntmps3
  go_wp2_with fail
  refine (szVault_any A0 n0 c0 L0 B0 p0 d0 M0 _ _ S1.out.nR S1.out.nL (by omega) (by omega) hm0' hk0').mono ?_
  rintro e w2 ⟨r2, rfl, hb_2, hr2⟩
  have S2 := Lib.hid (S1.out.after hb_2)
  clear S1 hb_2
  rcases hr2 with rfl | hr2
  · go_wp2
    go_ret
    exact ⟨rfl, S2.out.below⟩
  obtain ⟨hr2a, hr2b, ⟨hr2c, hr2d, hr2e⟩, hr2f, hr2g, hr2h⟩ := hr2
  have HN0 := Lib.hid (show ∀ i, i < n0 → rowN L0 i ≤ 1048576 from fun i hi => by have := hr2d i hi; omega)
  have HM0 := Lib.hid (show ∀ i, i < p0 → rowN M0 i ≤ 1048576 from fun i hi => by have := hr2g i hi; omega)
  have hS0 : sumN L0 n0 ≤ 1048576 := by omega
  have hT0 : sumN M0 p0 ≤ 1048576 := by omega
  have hp0 : p0 ≤ 1048576 := by omega
  have hn0 : n0 ≤ 1048576 := by omega
  have ht0 : ¬ r2 < 0 := by omega
  clear hr2d hr2g
  have HM9 := Lib.hid (sh_sizes L0 n0 M0 p0 wt x HL.out.2 HM0.out hT0)
  obtain ⟨M9, hM9⟩ : ∃ M9, shM L0 n0 M0 p0 wt x = M9 := ⟨_, rfl⟩
  obtain ⟨sb, hsb⟩ : ∃ sb, shB L0 n0 M0 p0 wt x = sb := ⟨_, rfl⟩
  rw [hM9] at HM9
  have HMM := Lib.hid hM9
  have HSB := Lib.hid hsb
  clear hM9 hsb
  obtain ⟨x0, y0⟩ := S2.out.cells
  go_wp2_with fail
  clear x0 y0
  refine (toVault_any A0 n0 c0 L0 B0 p0 d0 M0 _ S2.out.nR hn0 HN0.out S2.out.nL hp0 HM0.out).mono ?_
  rintro e w3 ⟨g3, j3, rfl, _, _, r_3, q_3, hb_3⟩
  have S3 := Lib.hid (S2.out.after hb_3)
  clear S2 hb_3
  go_wp2_with fail
  refine (sShare_any g3 _ _ j3 _ _ L0 M0 wt x _ r_3 hn0 HN0.out HLL.out.1 HL.out.1 q_3 hp0 HM0.out HLL.out.2 HL.out.2).mono ?_
  rintro e w4 ⟨vR4, vL4, csR4, csL4, rfl, hgr4, hgl4, hb_4⟩
  rw [HMM.out] at hgl4
  rw [HSB.out]
  clear r_3 q_3
  obtain ⟨A4, e4, rfl, _⟩ := hgr4.cells.slice
  obtain ⟨B4, f4, rfl, _⟩ := hgl4.cells.slice
  have V5 := Lib.hid (VB.new (c := e4) (d := f4) (hgr4.nestAt HL.out.1) (hgl4.nestAt HM9.out.1))
  have S5 := Lib.hid ((S3.out.after hb_4).after (w' := w4.alloc (.cells #[.slice A4 n0 e4, .slice B4 p0 f4] 30)) ((Below.refl _ _).alloc (Nat.le_refl _) _))
  have Z5 := Lib.hid (show (w4.alloc (.cells #[.slice A4 n0 e4, .slice B4 p0 f4] 30)).heap.size = w4.heap.size + 1 from by simp)
  clear hgr4 hgl4 hb_4 S3
  obtain ⟨x0, y0⟩ := S5.out.cells
  go_wp2_with fail
  clear x0 y0
  refine (toVault_any A0 n0 c0 L0 B0 p0 d0 M0 _ S5.out.nR hn0 HN0.out S5.out.nL hp0 HM0.out).mono ?_
  rintro e w6 ⟨g6, j6, rfl, hg6, hj6, r_6, q_6, hb_6⟩
  have S6 := Lib.hid (S5.out.after hb_6)
  have V6 := Lib.hid (V5.out.after hb_6)
  have hlo := S5.out.box.lt
  have z6 := hb_6.size
  rw [Z5.out] at hg6 hj6 hlo z6
  have X6 := Lib.hid (And.intro (NestInts.of_row (lo := w4.heap.size + 1) (hi := w6.heap.size) r_6 hg6 (Nat.le_refl _)) (NestInts.of_row (lo := w4.heap.size + 1) (hi := w6.heap.size) q_6 hj6 (Nat.le_refl _)))
  have b7 : Below w6.heap.size w6 (w6.alloc (.cells #[.slice (some ⟨g6, 0, none⟩) n0 n0, .slice (some ⟨j6, 0, none⟩) p0 p0] 30)) := (Below.refl _ _).alloc (Nat.le_refl _) _
  have Y7 := Lib.hid (VB.new (c := n0) (d := p0) (r_6.nestAt HL.out.1 HLL.out.1 HN0.out) (q_6.nestAt HL.out.2 HLL.out.2 HM0.out))
  have X7 := Lib.hid (And.intro (X6.out.1.after b7) (X6.out.2.after b7))
  have S7 := Lib.hid (S6.out.after b7)
  have V7 := Lib.hid (V6.out.after b7)
  have R7 := Lib.hid (And.intro (r_6.after b7) (q_6.after b7))
  have Z7 := Lib.hid (show (w6.alloc (.cells #[.slice (some ⟨g6, 0, none⟩) n0 n0, .slice (some ⟨j6, 0, none⟩) p0 p0] 30)).heap.size = w6.heap.size + 1 from by simp)
  clear r_6 q_6 hb_6 b7 S5 V5 S6 V6 X6 hg6 hj6
  obtain ⟨x1, y1⟩ := Y7.out.cells
  go_wp2_with fail
  clear x1 y1
  refine (iShare_any g6 _ _ j6 _ _ L0 M0 wt x _ R7.out.1 hn0 HN0.out HLL.out.1 HL.out.1 R7.out.2 hp0 HM0.out HLL.out.2 HL.out.2).mono ?_
  rintro e w8 ⟨vR8, vL8, csR8, csL8, rfl, hgr8, hgl8, hb_8⟩
  rw [HMM.out] at hgl8
  rw [HSB.out]
  have z8 := hb_8.size
  rw [Z7.out] at hgr8 hgl8 z8
  obtain ⟨A8, e8, rfl, _⟩ := hgr8.cells.slice
  obtain ⟨B8, f8, rfl, _⟩ := hgl8.cells.slice
  have b9 : Below w8.heap.size w8 (w8.alloc (.cells #[.slice A8 n0 e8, .slice B8 p0 f8] 30)) := (Below.refl _ _).alloc (Nat.le_refl _) _
  have G9 := Lib.hid (G2.new (c := e8) (d := f8) hgr8 hgl8 z8)
  have S9 := Lib.hid ((S7.out.after hb_8).after b9)
  have V9 := Lib.hid ((V7.out.after hb_8).after b9)
  have Y9 := Lib.hid ((Y7.out.after hb_8).after b9)
  have X9 := Lib.hid (And.intro ((X7.out.1.after hb_8).after b9) ((X7.out.2.after hb_8).after b9))
  clear hgr8 hgl8 hb_8 b9 S7 V7 Y7 X7 R7
  have tb : (sb != sb) = false := by simp
  obtain ⟨x1, y1⟩ := G9.out.cells
  obtain ⟨x2, y2⟩ := V9.out.cells
  go_wp2_with fail
  clear x1 y1 x2 y2
  refine (eqVault_same _ _ _ _ _ L0 _ _ _ _ _ M9 _ (G9.out.ribs.nestAt HL.out.1) V9.out.nR hn0 HN0.out (G9.out.loads.nestAt HM9.out.1) V9.out.nL hp0 HM9.out.2.1).mono ?_
  rintro e w10 ⟨rfl, hb⟩
  have G10 := Lib.hid (G9.out.after hb)
  have S10 := Lib.hid (S9.out.after hb)
  have V10 := Lib.hid (V9.out.after hb)
  have Y10 := Lib.hid (Y9.out.after hb)
  have X10 := Lib.hid (And.intro (X9.out.1.after hb) (X9.out.2.after hb))
  clear hb G9 S9 V9 Y9 X9
  obtain ⟨x1, y1⟩ := S10.out.cells
  obtain ⟨x2, y2⟩ := Y10.out.cells
  go_wp2_with fail
  go_region_held3 (fun w' => (w'.cell? ⟨w6.heap.size, 0, none⟩ = some (.slice (some ⟨g6, 0, none⟩) n0 n0) ∧ w'.cell? ⟨w6.heap.size, 1, none⟩ = some (.slice (some ⟨j6, 0, none⟩) p0 p0)) ∧ w'.cell? ⟨w.heap.size, 0, none⟩ = some (.slice A0 n0 c0) ∧ w'.cell? ⟨w.heap.size, 1, none⟩ = some (.slice B0 p0 d0)) (first | exact ⟨⟨x2, y2⟩, x1, y1⟩ | exact ⟨Y11.out.cells, S11.out.cells⟩ | exact ⟨Y12.out.cells, S12.out.cells⟩) ((first | (go_at_call 7; refine (toVault_any A0 n0 c0 L0 B0 p0 d0 M0 _ (by exact S10.out.nR) hn0 HN0.out (by exact S10.out.nL) hp0 HM0.out).mono ?_; rintro e w11 ⟨g11, j11, rfl, _, _, r_11, q_11, hbx⟩; have hb := below_undrew hbx; have E1 := Lib.hid (And.intro (r_11.nestAt HL.out.1 HLL.out.1 HN0.out) (q_11.nestAt HL.out.2 HLL.out.2 HM0.out)); have Y11 := Lib.hid (Y10.out.after hb); have S11 := Lib.hid (S10.out.after hb); have G11 := Lib.hid (G10.out.after hb); have V11 := Lib.hid (V10.out.after hb); have X11 := Lib.hid (And.intro (X10.out.1.after hb) (X10.out.2.after hb)); clear hb hbx r_11 q_11) | (go_at_call 9; refine (eqVault_same _ _ _ _ _ L0 _ _ _ _ _ M0 _ (by exact Y11.out.nR) (by exact E1.out.1) hn0 HN0.out (by exact Y11.out.nL) (by exact E1.out.2) hp0 HM0.out).mono ?_; rintro e w12 ⟨rfl, hb⟩; have Y12 := Lib.hid (Y11.out.after hb); have S12 := Lib.hid (S11.out.after hb); have G12 := Lib.hid (G11.out.after hb); have V12 := Lib.hid (V11.out.after hb); have X12 := Lib.hid (And.intro (X11.out.1.after hb) (X11.out.2.after hb)); clear hb)))
  clear x1 y1 x2 y2 S10 V10 Y10 G10 X10 S11 V11 Y11 G11 X11 E1
  obtain ⟨x2, y2⟩ := Y12.out.cells
  go_wp2_with fail
  clear x2 y2
  have z12 : w6.heap.size ≤ w12.heap.size := by have := Y12.out.le; omega
  refine (markVault_mid (w4.heap.size + 1) w6.heap.size g6 _ _ L0 j6 _ _ M0 _ _ X12.out.1 X12.out.2 z12 hn0 hS0 HN0.out hp0 hT0 HM0.out (by omega) (by omega)).mono ?_
  rintro e w13 ⟨rfl, hm⟩
  have S13 := Lib.hid (S12.out.keep (hm.below (by omega)) hlo)
  have V13 := Lib.hid (V12.out.keep (hm.below (by omega)) (Nat.le_refl _))
  have G13 := Lib.hid (G12.out.mid hm (by omega))
  clear hm S12 V12 G12 Y12 X12
  have pk : ¬ (1 : Int) + ((sumN L0 n0 * 4 : Nat) : Int) + ((sumN M0 p0 * 3 : Nat) : Int) < 0 := by omega
  obtain ⟨x1, y1⟩ := G13.out.cells
  obtain ⟨x2, y2⟩ := V13.out.cells
  go_wp2_with fail
  clear x1 y1 x2 y2
  refine (eqVault_same _ _ _ _ _ L0 _ _ _ _ _ M9 _ (G13.out.ribs.nestAt HL.out.1) V13.out.nR hn0 HN0.out (G13.out.loads.nestAt HM9.out.1) V13.out.nL hp0 HM9.out.2.1).mono ?_
  rintro e w14 ⟨rfl, hb⟩
  have G14 := Lib.hid (G13.out.after hb)
  have S14 := Lib.hid (S13.out.after hb)
  have V14 := Lib.hid (V13.out.after hb)
  clear hb G13 S13 V13 pk
  obtain ⟨x1, y1⟩ := G14.out.cells
  go_wp2_with fail
  clear x1 y1
  have z14 : w6.heap.size + 1 ≤ w14.heap.size := by have := G14.out.box.lt; have := G14.out.ge; omega
  have hT9 := HM9.out.2.2
  refine (markVault_gm (w6.heap.size + 1) A8 n0 e8 csR8 L0 B8 p0 f8 csL8 M9 _ _ G14.out.ribs.gm G14.out.loads.gm z14 hn0 (by omega) HN0.out hp0 hT9 HM9.out.2.1 (by omega) (by omega)).mono ?_
  rintro e w15 ⟨rfl, hg1, hg2, ht⟩
  obtain ⟨Z, hZ⟩ : ∃ Z : Int, (1 : Int) + ((sumN L0 n0 * 4 : Nat) : Int) + ((sumN M9 p0 * 3 : Nat) : Int) = Z := ⟨_, rfl⟩
  have pZ : ¬ Z < 0 := by omega
  have tZ : (Z != Z) = false := by simp
  rw [hZ]
  have HZ := Lib.hid hZ
  have S15 := Lib.hid (S14.out.keep (ht.below z14) (by omega))
  have V15 := Lib.hid (V14.out.keep (ht.below z14) (by omega))
  have bx : RowF w15 w8.heap.size 30 2 (pairV (.slice A8 n0 e8) (.slice B8 p0 f8)) := G14.out.box.of_block (ht.block _ G14.out.box.lt (.inr (by
    obtain ⟨y, hy, _⟩ := G14.out.box
    exact ⟨fun c e => by rw [hy] at e; simp at e, fun c e => by rw [hy] at e; simp at e⟩)))
  have K15 : Hid (VB w15 w15.heap.size w8.heap.size A8 n0 e8 (mkTo L0 n0 4 1 n0) B8 p0 f8 (mkTo M9 p0 3 (1 + ((sumN L0 n0 * 4 : Nat) : Int)) p0)) := Lib.hid ⟨hg1.nestAt (mkTo_len _ _ _ _ _), hg2.nestAt (mkTo_len _ _ _ _ _), bx, bx.lt, Nat.le_refl _⟩
  clear hg1 hg2 ht bx hZ G14 S14 V14
  obtain ⟨x1, y1⟩ := K15.out.cells
  go_wp2_with fail
  clear x1 y1
  refine (heldVault_mk HZ.out K15.out.nR K15.out.nL hn0 (by omega) HN0.out hp0 hT9 HM9.out.2.1 (by omega) (by omega)).mono ?_
  rintro e w16 ⟨rfl, hb⟩
  have K16 := Lib.hid (K15.out.after hb)
  have S16 := Lib.hid (S15.out.after hb)
  have V16 := Lib.hid (V15.out.after hb)
  clear hb K15 S15 V15
  obtain ⟨x1, y1⟩ := S16.out.cells
  go_wp2_with fail
  clear x1 y1
  refine (toVault_any A0 n0 c0 L0 B0 p0 d0 M0 _ S16.out.nR hn0 HN0.out S16.out.nL hp0 HM0.out).mono ?_
  rintro e w17 ⟨g17, j17, rfl, _, _, r_17, q_17, hb⟩
  have K17 := Lib.hid (K16.out.after hb)
  have S17 := Lib.hid (S16.out.after hb)
  have V17 := Lib.hid (V16.out.after hb)
  clear hb K16 S16 V16
  go_wp2_with fail
  refine (iShare_any g17 _ _ j17 _ _ L0 M0 wt x _ r_17 hn0 HN0.out HLL.out.1 HL.out.1 q_17 hp0 HM0.out HLL.out.2 HL.out.2).mono ?_
  rintro e w18 ⟨vR18, vL18, csR18, csL18, rfl, hgr, hgl, hb⟩
  rw [HMM.out] at hgl
  rw [HSB.out]
  clear r_17 q_17
  obtain ⟨A18, e18, rfl, _⟩ := hgr.cells.slice
  obtain ⟨B18, f18, rfl, _⟩ := hgl.cells.slice
  have b19 : Below w18.heap.size w18 (w18.alloc (.cells #[.slice A18 n0 e18, .slice B18 p0 f18] 30)) := (Below.refl _ _).alloc (Nat.le_refl _) _
  have H19 := Lib.hid (VB.new (c := e18) (d := f18) (hgr.nestAt HL.out.1) (hgl.nestAt HM9.out.1))
  have K19 := Lib.hid ((K17.out.after hb).after b19)
  have S19 := Lib.hid ((S17.out.after hb).after b19)
  have V19 := Lib.hid ((V17.out.after hb).after b19)
  clear hgr hgl hb b19 K17 S17 V17
  obtain ⟨x1, y1⟩ := H19.out.cells
  obtain ⟨x2, y2⟩ := V19.out.cells
  go_wp2_with fail
  clear x1 y1 x2 y2
  refine (eqVault_same _ _ _ _ _ L0 _ _ _ _ _ M9 _ H19.out.nR V19.out.nR hn0 HN0.out H19.out.nL V19.out.nL hp0 HM9.out.2.1).mono ?_
  rintro e w20 ⟨rfl, hb⟩
  have K20 := Lib.hid (K19.out.after hb)
  have S20 := Lib.hid (S19.out.after hb)
  clear hb K19 S19 V19 H19
  obtain ⟨x1, y1⟩ := K20.out.cells
  go_wp2_with fail
  clear x1 y1
  refine (heldVault_mk HZ.out K20.out.nR K20.out.nL hn0 (by omega) HN0.out hp0 hT9 HM9.out.2.1 (by omega) (by omega)).mono ?_
  rintro e w21 ⟨rfl, hb⟩
  have S21 := Lib.hid (S20.out.after hb)
  clear hb K20 S20
  go_wp2
  go_ret
  exact ⟨rfl, S21.out.below⟩

end Go.Proofs.Ytdjhiegolojoaaa
