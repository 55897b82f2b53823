/-
  Contracts: the weight and the moment left of a joint, in the program.
-/
import Derived.Test.YtdjhiegolojoaaaWWts
namespace Go.Proofs.Ytdjhiegolojoaaa
open Go.RowKit
set_option linter.unusedSimpArgs false

/-- Everything is valid, and there is a joint. -/
def lfB (zs : List Int) (n : Nat) (ls : List Int) (q : Nat) (k : Int) : Bool := loadsB zs n ls q && inB k 0 ((n : Int) - 1)
def lfW (zs : List Int) (n : Nat) (ls : List Int) (q : Nat) (k : Int) : Int := if lfB zs n ls q k = true then leftW zs ls q k.toNat else 0
def lfM (zs : List Int) (n : Nat) (ls : List Int) (q : Nat) (k : Int) : Int := if lfB zs n ls q k = true then leftM zs ls q k.toNat else 0
theorem lf_f {zs : List Int} {n : Nat} {ls : List Int} {q : Nat} {k : Int} (h : lfB zs n ls q k = false) : lfW zs n ls q k = 0 ∧ lfM zs n ls q k = 0 := by simp [lfW, lfM, h]
theorem lf_t {zs : List Int} {n : Nat} {ls : List Int} {q k : Nat} (h : lfB zs n ls q (k : Int) = true) : lfW zs n ls q (k : Int) = leftW zs ls q k ∧ lfM zs n ls q (k : Int) = leftM zs ls q k := by simp [lfW, lfM, h]
theorem lfB_1 {zs : List Int} {n : Nat} {ls : List Int} {q : Nat} (k : Int) (h : loadsB zs n ls q = false) : lfB zs n ls q k = false := by simp [lfB, h]
theorem lfB_2 (zs : List Int) {n : Nat} (ls : List Int) (q : Nat) {k : Int} (h : inB k 0 ((n : Int) - 1) = false) : lfB zs n ls q k = false := by simp [lfB, h]
theorem lfB_t {zs : List Int} {n : Nat} {ls : List Int} {q : Nat} {k : Int} (h : loadsB zs n ls q = true) (h2 : inB k 0 ((n : Int) - 1) = true) : lfB zs n ls q k = true := by simp [lfB, h, h2]
theorem lfB_out {zs : List Int} {n : Nat} {ls : List Int} {q : Nat} {k : Int} (h : lfB zs n ls q k = true) : loadsB zs n ls q = true ∧ 0 ≤ k ∧ k ≤ (n : Int) - 1 := by
  simp only [lfB, Bool.and_eq_true, inB_iff] at h
  exact ⟨h.1, h.2.1, h.2.2⟩
theorem rowF_new2 (w : World) (a b : Int) (T : TypeId) : RowF (w.alloc (.cells #[.int .i64 a, .int .i64 b] T)) w.heap.size T 2 (ints [a, b]) :=
  RowF.of_row (World.rowIs_alloc w #[.int .i64 a, .int .i64 b] T _ (fun j hj => by simp at hj; match j, hj with | 0, _ => rfl | 1, _ => rfl))
theorem rowF_set2 {w : World} {g : Nat} {T : TypeId} {a b : Int} (h : RowF w g T 2 (ints [a, b])) (a' b' : Int) : RowF ((w.setCell ⟨g, 0, none⟩ (.int .i64 a')).setCell ⟨g, 1, none⟩ (.int .i64 b')) g T 2 (ints [a', b']) :=
  ((h.set 0 (.int .i64 a')).set 1 (.int .i64 b')).congr (fun i hi => by match i, hi with | 0, _ => rfl | 1, _ => rfl)

/-- What stands at the start: the boxes of the arch, of the result and of the sum. -/
structure LeftStart (w wr : World) (v : Value) (a b : Int) : Prop where
  box : Box wr w.heap.size v
  res : RowF wr (w.heap.size + 1) 163 2 (ints [0, 0])
  sum : RowF wr (w.heap.size + 2) 163 2 (ints [a, b])
  below : Below w.heap.size w wr
theorem LeftStart.after {w wr w2 : World} {v : Value} {a b : Int} (h : LeftStart w wr v a b) (hb : Below wr.heap.size wr w2) : LeftStart w w2 v a b := ⟨h.box.after hb, h.res.after hb, h.sum.after hb, h.below.trans (hb.mono h.below.size)⟩
theorem LeftStart.set {w wr : World} {v : Value} {a b : Int} (h : LeftStart w wr v a b) (a' b' : Int) : LeftStart w ((wr.setCell ⟨w.heap.size + 2, 0, none⟩ (.int .i64 a')).setCell ⟨w.heap.size + 2, 1, none⟩ (.int .i64 b')) v a' b' :=
  ⟨⟨(World.cell?_setCell_far _ _ _ _ (by simp)).trans ((World.cell?_setCell_far _ _ _ _ (by simp)).trans h.box.1), by have := h.box.2; simpa using this⟩, (h.res.set_other (by simp) _).set_other (by simp) _, rowF_set2 h.sum a' b', (h.below.setCell (by simp) _).setCell (by simp) _⟩
theorem leftStart (w : World) (v : Value) (T : TypeId) : LeftStart w (((w.alloc (.cells #[v] T)).alloc (.cells #[.int .i64 0, .int .i64 0] 163)).alloc (.cells #[.int .i64 0, .int .i64 0] 163)) v 0 0 := by
  refine ⟨((Box.new w v T).alloc _).alloc _, ?_, ?_, (((Below.refl _ _).alloc (Nat.le_refl _) _).alloc (by simp) _).alloc (by simp; omega) _⟩
  · have h := (rowF_new2 (w.alloc (.cells #[v] T)) 0 0 163).alloc (.cells #[.int .i64 0, .int .i64 0] 163)
    rw [World.size_alloc] at h
    exact h
  · have h := rowF_new2 ((w.alloc (.cells #[v] T)).alloc (.cells #[.int .i64 0, .int .i64 0] 163)) 0 0 163
    rw [World.size_alloc, World.size_alloc] at h
    exact h

set_option maxRecDepth 100000 in
set_option maxHeartbeats 1600000 in
theorem leftOf_any (A : Option Addr) (n c : Nat) (zs : List Int) (B : Option Addr) (q d : Nat) (ls : List Int) (k : Int) (w : World) (h : RecsAt w w.heap.size 4 A n zs) (hn : n ≤ 1048576) (hl : RecsAt w w.heap.size 3 B q ls) (hq : q ≤ 1048576) :
    Calls Try.prog 107 #[.agg #[.slice A n c], .slice B q d, .int .i64 k] w fun e w' => e = .returned (.agg #[.int .i64 (lfW zs n ls q k), .int .i64 (lfM zs n ls q k)]) ∧ Below w.heap.size w w' := by
  have ST := leftStart w (.slice A n c) 41
  have h0 := ((h.alloc (Nat.le_refl _) (.cells #[.slice A n c] 41)).mono (B' := (w.alloc (.cells #[.slice A n c] 41)).heap.size) (by simp))
  have h1 := (h0.after ((Below.refl _ _).alloc (Nat.le_refl _) (.cells #[.int .i64 0, .int .i64 0] 163))).after ((Below.refl _ _).alloc (Nat.le_refl _) (.cells #[.int .i64 0, .int .i64 0] 163))
  have l0 := ((hl.alloc (Nat.le_refl _) (.cells #[.slice A n c] 41)).mono (B' := (w.alloc (.cells #[.slice A n c] 41)).heap.size) (by simp))
  have l1 := (l0.after ((Below.refl _ _).alloc (Nat.le_refl _) (.cells #[.int .i64 0, .int .i64 0] 163))).after ((Below.refl _ _).alloc (Nat.le_refl _) (.cells #[.int .i64 0, .int .i64 0] 163))
  have HST := Lib.hid ST
  clear h0 l0 h hl ST
  cases hL : loadsB zs n ls q
  · have HF := Lib.hid (lf_f (lfB_1 k hL))
    go_enter Try.func107, Try.ntmps107
    go_wp2_with fail
    refine (iLoadsOk_any _ _ _ zs _ _ _ ls _ h1 hn l1 hq).mono ?_
    rw [hL]
    rintro e w1 ⟨rfl, hb1⟩
    have HS1 := Lib.hid (HST.out.after hb1)
    have c0 := HS1.out.sum.cell (i := 0) (by omega)
    have c1 := HS1.out.sum.cell (i := 1) (by omega)
    have d0 := HS1.out.res.cell (i := 0) (by omega)
    have d1 := HS1.out.res.cell (i := 1) (by omega)
    have f0 := HS1.out.res.frozen 0
    have f1 := HS1.out.res.frozen 1
    have r0 : ints [0, 0] 0 = .int .i64 0 := rfl
    have r1 : ints [0, 0] 1 = .int .i64 0 := rfl
    rw [r0] at c0 d0
    rw [r1] at c1 d1
    clear hb1 r0 r1
    go_wp2
    refine bodyPost_ret (v := .agg #[.int .i64 0, .int .i64 0]) (by simp [results, Try.results107, go_sem, *]) rfl ⟨by rw [HF.out.1, HF.out.2], ?_⟩
    exact (HS1.out.below.setCell (p := ⟨w.heap.size + 1, 0, none⟩) (by simp) _).setCell (p := ⟨w.heap.size + 1, 1, none⟩) (by simp) _
  · obtain ⟨hA, hq6, hLA⟩ := loadsB_out hL
    have hn8 := (archB_out hA).1
    have e1 : IntKind.i64.wrap ((n : Int) - 1) = (n : Int) - 1 := IntWalk.i64_in _ (by omega)
    clear hA hLA
    cases hK : inB k 0 ((n : Int) - 1)
    · have HF := Lib.hid (lf_f (lfB_2 zs ls q hK))
      go_enter Try.func107, Try.ntmps107
      go_wp2_with fail
      refine (iLoadsOk_any _ _ _ zs _ _ _ ls _ h1 hn l1 hq).mono ?_
      rw [hL]
      rintro e w1 ⟨rfl, hb1⟩
      have HS1 := Lib.hid (HST.out.after hb1)
      have c0 := HS1.out.sum.cell (i := 0) (by omega)
      have c1 := HS1.out.sum.cell (i := 1) (by omega)
      have d0 := HS1.out.res.cell (i := 0) (by omega)
      have d1 := HS1.out.res.cell (i := 1) (by omega)
      have f0 := HS1.out.res.frozen 0
      have f1 := HS1.out.res.frozen 1
      have r0 : ints [0, 0] 0 = .int .i64 0 := rfl
      have r1 : ints [0, 0] 1 = .int .i64 0 := rfl
      have bx := HS1.out.box.1
      rw [r0] at c0 d0
      rw [r1] at c1 d1
      clear hb1 r0 r1
      go_wp2_with (go_at_call 31; refine (within_any _ _ _ _).mono ?_; rw [hK]; rintro e w' ⟨rfl, rfl⟩)
      refine bodyPost_ret (v := .agg #[.int .i64 0, .int .i64 0]) (by simp [results, Try.results107, go_sem, *]) rfl ⟨by rw [HF.out.1, HF.out.2], ?_⟩
      exact (HS1.out.below.setCell (p := ⟨w.heap.size + 1, 0, none⟩) (by simp) _).setCell (p := ⟨w.heap.size + 1, 1, none⟩) (by simp) _
    · have hk := inB_iff.1 hK
      obtain ⟨K, rfl⟩ : ∃ K : Nat, k = (K : Int) := ⟨k.toNat, by omega⟩
      have HT := Lib.hid (lf_t (lfB_t hL hK))
      obtain ⟨m, rfl⟩ : ∃ m, n = m + 1 := ⟨n - 1, by omega⟩
      have hKm : K ≤ m := by omega
      have HWB := Lib.hid (leftW_bd zs (loadsB_out hL).2.2 hq6)
      have HMB := Lib.hid (leftM_bd zs (loadsB_out hL).2.2 hq6)
      have HKB := Lib.hid (fun k => kwTo_bd zs (loadsB_out hL).2.2 hq6 k (Nat.le_refl q))
      have HNB := Lib.hid (fun k => kmTo_bd zs (loadsB_out hL).2.2 hq6 k (Nat.le_refl q))
      have hK' : inB (K : Int) 0 (m : Int) = true := inB_t (by omega)
      clear hk hK
      go_enter Try.func107, Try.ntmps107
      go_wp2_with fail
      refine (iLoadsOk_any _ _ _ zs _ _ _ ls _ h1 hn l1 hq).mono ?_
      rw [hL]
      rintro e w1 ⟨rfl, hb1⟩
      have HS1 := Lib.hid (HST.out.after hb1)
      have bx := HS1.out.box.1
      have h2 := h1.after hb1
      have l2 := l1.after hb1
      clear hb1
      go_wp2_with (go_at_call 31; refine (within_any _ _ _ _).mono ?_; rw [hK']; rintro e w' ⟨rfl, rfl⟩)
      refine (weightsOf_any _ _ _ zs _ _ _ ls _ h2 l2 hL).mono ?_
      rintro e w2 ⟨g, rfl, hg, hrw, hb2⟩
      have HS2 := Lib.hid (HS1.out.after hb2)
      have HRW := Lib.hid hrw
      have hrr := HS2.out.sum.lt
      have hgs : w.heap.size + 2 < g := by have := HS1.out.sum.lt; omega
      have s0 : (0 : Int) ≤ (K : Int) := by omega
      have s1 : (K : Int) ≤ ((m + 1 - 1 : Nat) : Int) := by omega
      have s2 : (K : Int) ≤ (m : Int) := by omega
      clear hb2 hrw h1 l1 h2 l2 HS1 HST bx hg
      rw [Nat.add_sub_cancel] at *
      go_wp2
      have HS0 : Hid (RowF w2 (w.heap.size + 2) 163 2 (ints [leftW zs ls q 0, leftM zs ls q 0])) := HS2.out.sum
      go_loopw [30] (fun i wr => ∃ j : Nat, j ≤ K ∧ i = .int .i64 j ∧ Hid (LeftStart w wr (.slice A (m + 1) c) (leftW zs ls q j) (leftM zs ls q j)) ∧ Hid (RowF wr g 163 (m * 2) (ints (wmL zs ls q m)))) (fun i _ => K - (intOf i).toNat)
      case atStart => exact ⟨0, Nat.zero_le _, rfl, HS2, HRW⟩
      case round =>
        clear HS2 HRW HS0
        obtain ⟨j, hj, rfl, HS, HR⟩ := hrel
        by_cases hlt : j < K
        · have hz := HS.out.sum.lt
          have hgl := HR.out.lt
          have x0 := HR.out.cell (i := j * 2) (by omega)
          have x1 := HR.out.cell (i := j * 2 + 1) (by omega)
          have hn := wmL_nth zs ls q (m := m) (k := j) (by omega)
          rw [ints_def, hn.1] at x0
          rw [ints_def, hn.2] at x1
          have c0 : wr.cell? ⟨w.heap.size + 2, 0, none⟩ = some (.int .i64 (leftW zs ls q j)) := HS.out.sum.cell (by omega)
          have c1 : wr.cell? ⟨w.heap.size + 2, 1, none⟩ = some (.int .i64 (leftM zs ls q j)) := HS.out.sum.cell (by omega)
          have f0 := HS.out.sum.frozen 0
          have f1 := HS.out.sum.frozen 1
          have HSA := Lib.hid (HS.out.after ((Below.refl _ _).alloc (Nat.le_refl _) (.cells #[.int .i64 (kwTo zs ls j q), .int .i64 (kmTo zs ls j q)] 163)))
          have HRA := Lib.hid (HR.out.alloc (.cells #[.int .i64 (kwTo zs ls j q), .int .i64 (kmTo zs ls j q)] 163))
          have hw1 := HWB.out j
          have hw2 := HMB.out j
          have hw3 := HKB.out j
          have hw4 := HNB.out j
          have HW1 : Hid (leftW zs ls q (j + 1) = leftW zs ls q j + kwTo zs ls j q) := rfl
          have HM1 : Hid (leftM zs ls q (j + 1) = leftM zs ls q j + kmTo zs ls j q) := rfl
          have js : (0 : Int) ≤ (j : Int) := by omega
          have js1 : (j : Int) < (K : Int) := by omega
          clear hn
          go_wp2
          go_roundw
          case rel => exact ⟨j + 1, by omega, by go_num, Lib.hid ((HS.out.set _ _).after ((Below.refl _ _).alloc (Nat.le_refl _) _)), Lib.hid (((HR.out.set_other (by simp; omega) _).set_other (by simp; omega) _).alloc _)⟩
          case measure => simp [intOf]; omega
        · obtain rfl : K = j := by omega
          have c0 : wr.cell? ⟨w.heap.size + 2, 0, none⟩ = some (.int .i64 (leftW zs ls q K)) := HS.out.sum.cell (by omega)
          have c1 : wr.cell? ⟨w.heap.size + 2, 1, none⟩ = some (.int .i64 (leftM zs ls q K)) := HS.out.sum.cell (by omega)
          have d0 : wr.cell? ⟨w.heap.size + 1, 0, none⟩ = some (.int .i64 0) := HS.out.res.cell (by omega)
          have d1 : wr.cell? ⟨w.heap.size + 1, 1, none⟩ = some (.int .i64 0) := HS.out.res.cell (by omega)
          have f0 := HS.out.res.frozen 0
          have f1 := HS.out.res.frozen 1
          go_wp2
          refine bodyPost_ret (v := .agg #[.int .i64 (leftW zs ls q K), .int .i64 (leftM zs ls q K)]) (by simp [results, Try.results107, go_sem, *]) rfl ⟨by rw [HT.out.1, HT.out.2], ?_⟩
          exact (HS.out.below.setCell (p := ⟨w.heap.size + 1, 0, none⟩) (by simp) _).setCell (p := ⟨w.heap.size + 1, 1, none⟩) (by simp) _
end Go.Proofs.Ytdjhiegolojoaaa
