/-
  Contract: the box of a stone, in the reference.
-/
import Derived.Test.YtplabaneihjcoaaWStone
import Derived.Test.YtplabaneihjcoaaBoxS
import Derived.Test.YtplabaneihjcoaaHeld
import Derived.IntWalk
import Derived.BigRegion
import Derived.Deep.DeepCutAuto
namespace Go.Proofs.Ytplabaneihjcoaa
open Go.RowKit
set_option linter.unusedSimpArgs false
set_option linter.unusedVariables false

/-- The least (greatest) of the first k corners' coordinates; of the first corner where k is 0. -/
def mnTo (zs : List Int) (o : Nat) : Nat → Int
  | 0 => nth zs o
  | k + 1 => min (mnTo zs o k) (nth zs (k * 2 + o))
def mxTo (zs : List Int) (o : Nat) : Nat → Int
  | 0 => nth zs o
  | k + 1 => max (mxTo zs o k) (nth zs (k * 2 + o))
/-- The box of a stone: its least and its greatest coordinates; 0 for none. -/
def bxL (zs : List Int) (n o : Nat) : Int := if stoneB zs n = true then mnTo zs o n else 0
def bxH (zs : List Int) (n o : Nat) : Int := if stoneB zs n = true then mxTo zs o n else 0
theorem mnTo_le (zs : List Int) (o : Nat) : ∀ k, mnTo zs o k ≤ nth zs o ∧ ∀ i, i < k → mnTo zs o k ≤ nth zs (i * 2 + o)
  | 0 => ⟨Int.le_refl _, fun i hi => absurd hi (by omega)⟩
  | k + 1 => by
    obtain ⟨h1, h2⟩ := mnTo_le zs o k
    refine ⟨by simp only [mnTo]; omega, fun i hi => ?_⟩
    by_cases e : i = k
    · subst e; simp only [mnTo]; omega
    · have := h2 i (by omega); simp only [mnTo]; omega
theorem mxTo_ge (zs : List Int) (o : Nat) : ∀ k, nth zs o ≤ mxTo zs o k ∧ ∀ i, i < k → nth zs (i * 2 + o) ≤ mxTo zs o k
  | 0 => ⟨Int.le_refl _, fun i hi => absurd hi (by omega)⟩
  | k + 1 => by
    obtain ⟨h1, h2⟩ := mxTo_ge zs o k
    refine ⟨by simp only [mxTo]; omega, fun i hi => ?_⟩
    by_cases e : i = k
    · subst e; simp only [mxTo]; omega
    · have := h2 i (by omega); simp only [mxTo]; omega
theorem mnTo_one (zs : List Int) (o : Nat) : ∀ k, ∃ i, (i < k ∨ i = 0) ∧ mnTo zs o k = nth zs (i * 2 + o)
  | 0 => ⟨0, .inr rfl, by simp [mnTo]⟩
  | k + 1 => by
    obtain ⟨i, hi, e⟩ := mnTo_one zs o k
    simp only [mnTo]
    rcases Int.min_def (mnTo zs o k) (nth zs (k * 2 + o)) ▸ (by by_cases h : mnTo zs o k ≤ nth zs (k * 2 + o) <;> simp [h] : (if mnTo zs o k ≤ nth zs (k * 2 + o) then mnTo zs o k else nth zs (k * 2 + o)) = mnTo zs o k ∨ (if mnTo zs o k ≤ nth zs (k * 2 + o) then mnTo zs o k else nth zs (k * 2 + o)) = nth zs (k * 2 + o)) with h | h
    · exact ⟨i, by omega, h.trans e⟩
    · exact ⟨k, .inl (by omega), h⟩
theorem mxTo_one (zs : List Int) (o : Nat) : ∀ k, ∃ i, (i < k ∨ i = 0) ∧ mxTo zs o k = nth zs (i * 2 + o)
  | 0 => ⟨0, .inr rfl, by simp [mxTo]⟩
  | k + 1 => by
    obtain ⟨i, hi, e⟩ := mxTo_one zs o k
    simp only [mxTo]
    by_cases h : mxTo zs o k ≤ nth zs (k * 2 + o)
    · exact ⟨k, .inl (by omega), by omega⟩
    · exact ⟨i, by omega, by omega⟩
/-- What the walk of the box knows at the loop's head. -/
structure BxSt (w wr : World) (b off n c : Nat) (zs : List Int) (L H : Nat) (k l : Nat) : Prop where
  bx : RowF wr w.heap.size 36 1 (fun _ => .slice (some ⟨b, off, none⟩) n c)
  r1 : RowF wr (w.heap.size + 1) 76 2 (fun _ => .int .i64 0)
  r2 : RowF wr (w.heap.size + 1 + 1) 76 2 (fun _ => .int .i64 0)
  lo : RowF wr L 76 2 (ints [mnTo zs 0 k, mnTo zs 1 k])
  hi : RowF wr H 76 2 (ints [mxTo zs 0 l, mxTo zs 1 l])
  big : w.heap.size + 3 ≤ L ∧ w.heap.size + 3 ≤ H ∧ ¬ L = H
  pts : b < w.heap.size ∧ ∀ i, i < n * 2 → wr.cell? ⟨b, off + i, none⟩ = some (.int .i64 (nth zs i))
  below : Below w.heap.size w wr
theorem mn_if0 (zs : List Int) (k : Nat) : (if nth zs (k * 2) < mnTo zs 0 k then nth zs (k * 2) else mnTo zs 0 k) = mnTo zs 0 (k + 1) := by simp only [mnTo, Nat.add_zero]; split <;> omega
theorem mn_if1 (zs : List Int) (k : Nat) : (if nth zs (k * 2 + 1) < mnTo zs 1 k then nth zs (k * 2 + 1) else mnTo zs 1 k) = mnTo zs 1 (k + 1) := by simp only [mnTo]; split <;> omega
theorem mx_if0 (zs : List Int) (k : Nat) : (if mxTo zs 0 k < nth zs (k * 2) then nth zs (k * 2) else mxTo zs 0 k) = mxTo zs 0 (k + 1) := by simp only [mxTo, Nat.add_zero]; split <;> omega
theorem mx_if1 (zs : List Int) (k : Nat) : (if mxTo zs 1 k < nth zs (k * 2 + 1) then nth zs (k * 2 + 1) else mxTo zs 1 k) = mxTo zs 1 (k + 1) := by simp only [mxTo]; split <;> omega
theorem BxSt.drew {w wr : World} {b off n c : Nat} {zs : List Int} {L H k l : Nat} (h : BxSt w wr b off n c zs L H k l) : BxSt w wr.drew b off n c zs L H k l :=
  ⟨h.bx.drewN 1, h.r1.drewN 1, h.r2.drewN 1, h.lo.drewN 1, h.hi.drewN 1, h.big, h.pts, below_drewN h.below 1⟩
theorem BxSt.setLo {w wr : World} {b off n c : Nat} {zs : List Int} {L H k l : Nat} (h : BxSt w wr b off n c zs L H k l) : BxSt w ((wr.setCell ⟨L, 0, none⟩ (.int .i64 (mnTo zs 0 (k + 1)))).setCell ⟨L, 1, none⟩ (.int .i64 (mnTo zs 1 (k + 1)))) b off n c zs L H (k + 1) l := by
  obtain ⟨hb, hb2, hb3⟩ := h.big
  have hp := h.pts.1
  refine ⟨(h.bx.set_other (by simp; omega) _).set_other (by simp; omega) _, (h.r1.set_other (by simp; omega) _).set_other (by simp; omega) _, (h.r2.set_other (by simp; omega) _).set_other (by simp; omega) _, ((h.lo.set 0 _).set 1 _).congr (fun j hj => by match j, hj with | 0, _ => rfl | 1, _ => rfl), (h.hi.set_other (by simp; omega) _).set_other (by simp; omega) _, ⟨hb, hb2, hb3⟩, ⟨hp, fun i hi => ?_⟩, (h.below.setCell (by simp; omega) _).setCell (by simp; omega) _⟩
  rw [World.cell?_setCell_far _ _ _ _ (by simp; omega), World.cell?_setCell_far _ _ _ _ (by simp; omega)]
  exact h.pts.2 i hi
theorem BxSt.setHi {w wr : World} {b off n c : Nat} {zs : List Int} {L H k l : Nat} (h : BxSt w wr b off n c zs L H k l) : BxSt w ((wr.setCell ⟨H, 0, none⟩ (.int .i64 (mxTo zs 0 (l + 1)))).setCell ⟨H, 1, none⟩ (.int .i64 (mxTo zs 1 (l + 1)))) b off n c zs L H k (l + 1) := by
  obtain ⟨hb, hb2, hb3⟩ := h.big
  have hp := h.pts.1
  refine ⟨(h.bx.set_other (by simp; omega) _).set_other (by simp; omega) _, (h.r1.set_other (by simp; omega) _).set_other (by simp; omega) _, (h.r2.set_other (by simp; omega) _).set_other (by simp; omega) _, (h.lo.set_other (by simp; omega) _).set_other (by simp; omega) _, ((h.hi.set 0 _).set 1 _).congr (fun j hj => by match j, hj with | 0, _ => rfl | 1, _ => rfl), ⟨hb, hb2, hb3⟩, ⟨hp, fun i hi => ?_⟩, (h.below.setCell (by simp; omega) _).setCell (by simp; omega) _⟩
  rw [World.cell?_setCell_far _ _ _ _ (by simp; omega), World.cell?_setCell_far _ _ _ _ (by simp; omega)]
  exact h.pts.2 i hi

set_option maxRecDepth 100000 in
set_option maxHeartbeats 6400000 in
theorem sBoxOf_any (A : Option Addr) (n c : Nat) (zs : List Int) (w : World) (h : RecsAt w w.heap.size 2 A n zs) :
    Calls Try.prog 46 #[.agg #[.slice A n c]] w fun e w' => e = .returned (.tuple #[.agg #[.int .i64 (bxL zs n 0), .int .i64 (bxL zs n 1)], .agg #[.int .i64 (bxH zs n 0), .int .i64 (bxH zs n 1)]]) ∧ Below w.heap.size w w' := by
  have hw3 : Below w.heap.size w (((w.alloc (.cells #[.slice A n c] 36)).alloc (.cells #[.int .i64 0, .int .i64 0] 76)).alloc (.cells #[.int .i64 0, .int .i64 0] 76)) := (((Below.refl _ _).alloc (Nat.le_refl _) _).alloc (by simp) _).alloc (by simp; omega) _
  have h1 := h.after hw3
  have r0 : RowF (((w.alloc (.cells #[.slice A n c] 36)).alloc (.cells #[.int .i64 0, .int .i64 0] 76)).alloc (.cells #[.int .i64 0, .int .i64 0] 76)) w.heap.size 36 1 (fun _ => .slice A n c) := ((rowF_new1S w (.slice A n c) 36).alloc _).alloc _
  have r1 : RowF (((w.alloc (.cells #[.slice A n c] 36)).alloc (.cells #[.int .i64 0, .int .i64 0] 76)).alloc (.cells #[.int .i64 0, .int .i64 0] 76)) (w.heap.size + 1) 76 2 (fun _ => .int .i64 0) := by
    have h := (RowF.of_row (World.rowIs_alloc (w.alloc (.cells #[.slice A n c] 36)) #[.int .i64 0, .int .i64 0] 76 (fun _ => .int .i64 0) (fun j hj => by simp at hj; match j, hj with | 0, _ => rfl | 1, _ => rfl))).alloc (.cells #[.int .i64 0, .int .i64 0] 76)
    simpa using h
  have r2 : RowF (((w.alloc (.cells #[.slice A n c] 36)).alloc (.cells #[.int .i64 0, .int .i64 0] 76)).alloc (.cells #[.int .i64 0, .int .i64 0] 76)) (w.heap.size + 1 + 1) 76 2 (fun _ => .int .i64 0) := by
    have h := RowF.of_row (World.rowIs_alloc ((w.alloc (.cells #[.slice A n c] 36)).alloc (.cells #[.int .i64 0, .int .i64 0] 76)) #[.int .i64 0, .int .i64 0] 76 (fun _ => .int .i64 0) (fun j hj => by simp at hj; match j, hj with | 0, _ => rfl | 1, _ => rfl))
    simpa using h
  have R0 := Lib.hid r0
  have R1 := Lib.hid r1
  have R2 := Lib.hid r2
  have HW3 := Lib.hid hw3
  clear hw3 r0 r1 r2
  cases hst : stoneB zs n
  · have HF := Lib.hid (show bxL zs n 0 = 0 ∧ bxL zs n 1 = 0 ∧ bxH zs n 0 = 0 ∧ bxH zs n 1 = 0 by simp [bxL, bxH, hst])
    go_enter Try.func46, Try.ntmps46
    go_wp2_with fail
    refine (sStoneOk_any _ _ _ zs _ h1).mono ?_
    rw [hst]
    rintro e w1 ⟨rfl, hb1⟩
    have R1 := Lib.hid (R1.out.after hb1)
    have R2 := Lib.hid (R2.out.after hb1)
    have HB := Lib.hid (HW3.out.trans (hb1.mono HW3.out.size))
    have c0 := R1.out.cell (i := 0) (by omega)
    have c1 := R1.out.cell (i := 1) (by omega)
    have d0 := R2.out.cell (i := 0) (by omega)
    have d1 := R2.out.cell (i := 1) (by omega)
    have f0 := R1.out.frozen 0
    have f1 := R1.out.frozen 1
    have g0 := R2.out.frozen 0
    have g1 := R2.out.frozen 1
    have z1 := R1.out.lt
    have z2 := R2.out.lt
    clear hb1 h1 h
    go_wp2
    refine bodyPost_ret (v := .tuple #[.agg #[.int .i64 0, .int .i64 0], .agg #[.int .i64 0, .int .i64 0]]) (by simp [results, Try.results46, go_sem, *]) rfl ⟨by rw [HF.out.1, HF.out.2.1, HF.out.2.2.1, HF.out.2.2.2], ?_⟩
    exact (((HB.out.setCell (by first | (simp; done) | (simp; omega)) _).setCell (by first | (simp; done) | (simp; omega)) _).setCell (by first | (simp; done) | (simp; omega)) _).setCell (by first | (simp; done) | (simp; omega)) _
  · have hm := (stoneB_out hst).1
    have HF := Lib.hid (show bxL zs n 0 = mnTo zs 0 n ∧ bxL zs n 1 = mnTo zs 1 n ∧ bxH zs n 0 = mxTo zs 0 n ∧ bxH zs n 1 = mxTo zs 1 n by simp [bxL, bxH, hst])
    obtain ⟨b, off, rfl, hbB, hc⟩ := h.2 (by omega)
    go_enter Try.func46, Try.ntmps46
    go_wp2_with fail
    refine (sStoneOk_any _ _ _ zs _ h1).mono ?_
    rw [hst]
    rintro e w1 ⟨rfl, hb1⟩
    have R0 := Lib.hid (R0.out.after hb1)
    have R1 := Lib.hid (R1.out.after hb1)
    have R2 := Lib.hid (R2.out.after hb1)
    have HB := Lib.hid (HW3.out.trans (hb1.mono HW3.out.size))
    have HP : Hid (∀ i, i < n * 2 → w1.cell? ⟨b, off + i, none⟩ = some (.int .i64 (nth zs i))) := Lib.hid fun i hi => (HB.out.cell (p := ⟨b, off + i, none⟩) hbB).trans (hc i hi)
    have z3 : w.heap.size + 3 ≤ w1.heap.size := by have := hb1.size; simp at this; omega
    have p0 : w1.cell? ⟨b, off, none⟩ = some (.int .i64 (nth zs 0)) := HP.out 0 (by omega)
    have p1 : w1.cell? ⟨b, off + 1, none⟩ = some (.int .i64 (nth zs 1)) := HP.out 1 (by omega)
    have q0 := R0.out.cell (i := 0) (by omega)
    have hn0 : 0 < n := by omega
    have hn1 : (0 : Int) < (n : Int) := by omega
    have zb : b < w1.heap.size := by omega
    have zw : w.heap.size < w1.heap.size := by omega
    have HS0 : Hid (BxSt w ((w1.alloc (.cells #[.int .i64 (nth zs 0), .int .i64 (nth zs 1)] 76)).alloc (.cells #[.int .i64 (nth zs 0), .int .i64 (nth zs 1)] 76)) b off n c zs w1.heap.size (w1.heap.size + 1) 0 0) := Lib.hid
      ⟨(R0.out.alloc _).alloc _, (R1.out.alloc _).alloc _, (R2.out.alloc _).alloc _,
       (RowF.of_row (World.rowIs_alloc w1 #[.int .i64 (nth zs 0), .int .i64 (nth zs 1)] 76 (ints [mnTo zs 0 0, mnTo zs 1 0]) (fun j hj => by simp at hj; match j, hj with | 0, _ => rfl | 1, _ => rfl))).alloc _,
       by
        have h := RowF.of_row (World.rowIs_alloc (w1.alloc (.cells #[.int .i64 (nth zs 0), .int .i64 (nth zs 1)] 76)) #[.int .i64 (nth zs 0), .int .i64 (nth zs 1)] 76 (ints [mxTo zs 0 0, mxTo zs 1 0]) (fun j hj => by simp at hj; match j, hj with | 0, _ => rfl | 1, _ => rfl))
        simpa using h,
       ⟨z3, by omega, by omega⟩, ⟨hbB, fun i hi => (World.cell?_alloc_lt _ _ ⟨b, off + i, none⟩ (by show b < (w1.alloc _).heap.size; simp; omega)).trans ((World.cell?_alloc_lt _ _ ⟨b, off + i, none⟩ zb).trans (HP.out i hi))⟩,
       (HB.out.alloc (by omega) _).alloc (by simp; omega) _⟩
    clear hb1 h1 h hc R0 R1 R2
    go_wp2
    go_loopw [6] (fun i wr => ∃ k : Nat, k ≤ n ∧ i = .int .i64 k ∧ Hid (BxSt w wr b off n c zs w1.heap.size (w1.heap.size + 1) k k)) (fun i _ => n - (intOf i).toNat)
    case atStart => exact ⟨0, Nat.zero_le _, rfl, HS0⟩
    case round =>
      clear HS0 p0 p1 q0
      obtain ⟨k, hk, rfl, HS⟩ := hrel
      have q0 := HS.out.bx.cell (i := 0) (by omega)
      have l0 : wr.cell? ⟨w1.heap.size, 0, none⟩ = some (.int .i64 (mnTo zs 0 k)) := HS.out.lo.cell (i := 0) (by omega)
      have l1 : wr.cell? ⟨w1.heap.size, 1, none⟩ = some (.int .i64 (mnTo zs 1 k)) := HS.out.lo.cell (i := 1) (by omega)
      have h0 : wr.cell? ⟨w1.heap.size + 1, 0, none⟩ = some (.int .i64 (mxTo zs 0 k)) := HS.out.hi.cell (i := 0) (by omega)
      have h1 : wr.cell? ⟨w1.heap.size + 1, 1, none⟩ = some (.int .i64 (mxTo zs 1 k)) := HS.out.hi.cell (i := 1) (by omega)
      have fl0 := HS.out.lo.frozen 0
      have fl1 := HS.out.lo.frozen 1
      have fh0 := HS.out.hi.frozen 0
      have fh1 := HS.out.hi.frozen 1
      by_cases hlt : k < n
      · have x0 : wr.cell? ⟨b, off + k * 2, none⟩ = some (.int .i64 (nth zs (k * 2))) := HS.out.pts.2 (k * 2) (by omega)
        have x1 : wr.cell? ⟨b, off + k * 2 + 1, none⟩ = some (.int .i64 (nth zs (k * 2 + 1))) := HS.out.pts.2 (k * 2 + 1) (by omega)
        have i1 : (k : Int) < (n : Int) := by omega
        have i0 : (0 : Int) ≤ (k : Int) := by omega
        go_wp2
        go_cut [] (fun wx => Hid (BxSt w wx b off n c zs w1.heap.size (w1.heap.size + 1) (k + 1) k))
        case first =>
          have HS1 := Lib.hid (HS.out.setLo.drew)
          go_region
          simp only [mn_if0, mn_if1]
          go_wp2_with fail
          go_meet
          exact HS1
        case rest =>
        have HS1 := hcut
        clear q0 l0 l1 h0 h1 fl0 fl1 fh0 fh1 x0 x1 HS
        have q0 := HS1.out.bx.cell (i := 0) (by omega)
        have h0 : wc.cell? ⟨w1.heap.size + 1, 0, none⟩ = some (.int .i64 (mxTo zs 0 k)) := HS1.out.hi.cell (i := 0) (by omega)
        have h1 : wc.cell? ⟨w1.heap.size + 1, 1, none⟩ = some (.int .i64 (mxTo zs 1 k)) := HS1.out.hi.cell (i := 1) (by omega)
        have fh0 := HS1.out.hi.frozen 0
        have fh1 := HS1.out.hi.frozen 1
        have x0 : wc.cell? ⟨b, off + k * 2, none⟩ = some (.int .i64 (nth zs (k * 2))) := HS1.out.pts.2 (k * 2) (by omega)
        have x1 : wc.cell? ⟨b, off + k * 2 + 1, none⟩ = some (.int .i64 (nth zs (k * 2 + 1))) := HS1.out.pts.2 (k * 2 + 1) (by omega)
        have HS2 := Lib.hid (HS1.out.setHi.drew)
        clear hcut HS1
        go_wp2
        go_region
        simp only [mx_if0, mx_if1]
        go_wp2
        go_roundw
        case rel => exact ⟨k + 1, by omega, by go_num, HS2⟩
        case measure => simp [intOf]; omega
      · obtain rfl : k = n := by omega
        have c0 : wr.cell? ⟨w.heap.size + 1, 0, none⟩ = some (.int .i64 0) := HS.out.r1.cell (i := 0) (by omega)
        have c1 : wr.cell? ⟨w.heap.size + 1, 1, none⟩ = some (.int .i64 0) := HS.out.r1.cell (i := 1) (by omega)
        have d0 : wr.cell? ⟨w.heap.size + 1 + 1, 0, none⟩ = some (.int .i64 0) := HS.out.r2.cell (i := 0) (by omega)
        have d1 : wr.cell? ⟨w.heap.size + 1 + 1, 1, none⟩ = some (.int .i64 0) := HS.out.r2.cell (i := 1) (by omega)
        have fc0 := HS.out.r1.frozen 0
        have fc1 := HS.out.r1.frozen 1
        have fd0 := HS.out.r2.frozen 0
        have fd1 := HS.out.r2.frozen 1
        have s1 := HS.out.r1.lt
        have s2 := HS.out.r2.lt
        have n1 : ¬ w1.heap.size = w.heap.size + 1 := by omega
        have n2 : ¬ w1.heap.size = w.heap.size + 1 + 1 := by omega
        have n3 : ¬ w1.heap.size + 1 = w.heap.size + 1 := by omega
        have n4 : ¬ w1.heap.size + 1 = w.heap.size + 1 + 1 := by omega
        go_wp2
        go_region
        all_goals
          go_wp2
          refine bodyPost_ret (v := .tuple #[.agg #[.int .i64 (mnTo zs 0 k), .int .i64 (mnTo zs 1 k)], .agg #[.int .i64 (mxTo zs 0 k), .int .i64 (mxTo zs 1 k)]]) (by simp [results, Try.results46, go_sem, *]) rfl ⟨by rw [HF.out.1, HF.out.2.1, HF.out.2.2.1, HF.out.2.2.2], ?_⟩
          exact below_drewN ((((HS.out.below.setCell (by first | (simp; done) | (simp; omega)) _).setCell (by first | (simp; done) | (simp; omega)) _).setCell (by first | (simp; done) | (simp; omega)) _).setCell (by first | (simp; done) | (simp; omega)) _) 1
end Go.Proofs.Ytplabaneihjcoaa
