/-
  Contract: the forces of all spans from behind, in the program.
-/
import Derived.Test.YtdphndjohhfgoaaWSpans
import Derived.Test.YtdphndjohhfgoaaWNarrow
import Derived.Deep.RegionHeld3
import Derived.Deep.QuietTactic
import Derived.BigQuiet
import Derived.Outline
import Derived.IntWalk
namespace Go.Proofs.Ytdphndjohhfgoaa
open Go.RowKit

theorem infoFR : (Try.prog.info? 90).map (fun i => (i.zero, i.size, i.bytes)) = some (some (.agg #[.int .i64 0, .int .i64 0]), 2, 16) := by kernel_rfl
theorem cell_set_off {w : World} {p : Addr} {u : Value} {g i : Nat} (h : ¬ (g = p.block ∧ i = p.off)) : (w.setCell p u).cell? ⟨g, i, none⟩ = w.cell? ⟨g, i, none⟩ :=
  World.cell?_setCell_other w p _ u (by intro e; subst e; exact h ⟨rfl, rfl⟩)
theorem cell_alloc_old {w : World} {o : Obj} {g i : Nat} (h : g < w.heap.size) : (w.alloc o).cell? ⟨g, i, none⟩ = w.cell? ⟨g, i, none⟩ := World.cell?_of_block (a := ⟨g, i, none⟩) (Below.heap_alloc w o g h)
/-- The ranges of the spans from r on; noughts before. -/
def frV (zs : List Int) (n r j : Nat) : Int := if r ≤ j / 2 then (if j % 2 = 0 then (rng zs n (n - 1 - j / 2)).1 else (rng zs n (n - 1 - j / 2)).2) else 0
def frF (zs : List Int) (n r j : Nat) : Value := .int .i64 (frV zs n r j)
theorem frF_def (zs : List Int) (n r j : Nat) : frF zs n r j = .int .i64 (frV zs n r j) := rfl
theorem frV_lo {zs : List Int} {n r i : Nat} (h : r ≤ i) : frV zs n r (i * 2) = (rng zs n (n - 1 - i)).1 := by
  have h1 : i * 2 / 2 = i := by omega
  have h2 : i * 2 % 2 = 0 := by omega
  simp [frV, h1, h2, h]
theorem frV_hi {zs : List Int} {n r i : Nat} (h : r ≤ i) : frV zs n r (i * 2 + 1) = (rng zs n (n - 1 - i)).2 := by
  have h1 : (i * 2 + 1) / 2 = i := by omega
  have h2 : (i * 2 + 1) % 2 = 1 := by omega
  simp [frV, h1, h2, h]
theorem frV_old {zs : List Int} {n r i k : Nat} (h : i < r) (hk : k < 2) : frV zs n r (i * 2 + k) = 0 := by
  have h1 : (i * 2 + k) / 2 = i := by omega
  simp only [frV, h1]
  rw [if_neg (by omega)]
theorem frV_step {zs : List Int} {n m : Nat} (j : Nat) :
    (if j = m * 2 + 1 then (rng zs n (n - 1 - m)).2 else if j = m * 2 then (rng zs n (n - 1 - m)).1 else frV zs n (m + 1) j) = frV zs n m j := by
  by_cases h1 : j = m * 2 + 1
  · subst h1
    rw [if_pos rfl, frV_hi (Nat.le_refl _)]
  · by_cases h0 : j = m * 2
    · subst h0
      rw [if_neg h1, if_pos rfl, frV_lo (Nat.le_refl _)]
    · rw [if_neg h1, if_neg h0]
      unfold frV
      by_cases hj : m + 1 ≤ j / 2
      · rw [if_pos hj, if_pos (show m ≤ j / 2 by omega)]
      · rw [if_neg hj, if_neg (show ¬ m ≤ j / 2 by omega)]
theorem fr_set {wr : World} {zs : List Int} {n m g : Nat} {E : TypeId} {X Y a b : Int} (hX : rng zs n (n - 1 - m) = (X, Y)) (h : RowF wr g E (n * 2) (frF zs n (m + 1))) :
    RowF ((((wr.setCell ⟨g, m * 2, none⟩ (.int .i64 a)).setCell ⟨g, m * 2 + 1, none⟩ (.int .i64 b)).setCell ⟨g, m * 2, none⟩ (.int .i64 X)).setCell ⟨g, m * 2 + 1, none⟩ (.int .i64 Y)) g E (n * 2) (frF zs n m) := by
  refine ((((h.set (m * 2) (.int .i64 a)).set (m * 2 + 1) (.int .i64 b)).set (m * 2) (.int .i64 X)).set (m * 2 + 1) (.int .i64 Y)).congr (fun j _ => ?_)
  have hst := frV_step (zs := zs) (n := n) (m := m) j
  rw [hX] at hst
  show _ = Value.int .i64 (frV zs n m j)
  rw [← hst]
  by_cases h1 : j = m * 2 + 1
  · simp [h1]
  · by_cases h0 : j = m * 2
    · simp [h0]
    · simp only [if_neg h1, if_neg h0]
      rfl
theorem fr_row {wr : World} {zs : List Int} {n m g : Nat} {E : TypeId} {X Y : Int} {a b : Value} (hX : rng zs n (n - 1 - m) = (X, Y))
    (h : RowF wr g E (n * 2) (fun j => if j = m * 2 + 1 then .int .i64 Y else if j = m * 2 then .int .i64 X else if j = m * 2 + 1 then b else if j = m * 2 then a else frF zs n (m + 1) j)) : RowF wr g E (n * 2) (frF zs n m) := by
  refine h.congr (fun j _ => ?_)
  have hst := frV_step (zs := zs) (n := n) (m := m) j
  rw [hX] at hst
  show _ = Value.int .i64 (frV zs n m j)
  rw [← hst]
  by_cases h1 : j = m * 2 + 1
  · simp [h1]
  · by_cases h0 : j = m * 2
    · simp [h0]
    · simp only [if_neg h1, if_neg h0]
      rfl
theorem fr_set1 {wr : World} {zs : List Int} {n m g : Nat} {E : TypeId} {X Y : Int} (hX : rng zs n (n - 1 - m) = (X, Y)) (h : RowF wr g E (n * 2) (frF zs n (m + 1))) :
    RowF ((wr.setCell ⟨g, m * 2, none⟩ (.int .i64 X)).setCell ⟨g, m * 2 + 1, none⟩ (.int .i64 Y)) g E (n * 2) (frF zs n m) := by
  refine ((h.set (m * 2) (.int .i64 X)).set (m * 2 + 1) (.int .i64 Y)).congr (fun j _ => ?_)
  have hst := frV_step (zs := zs) (n := n) (m := m) j
  rw [hX] at hst
  show _ = Value.int .i64 (frV zs n m j)
  rw [← hst]
  by_cases h1 : j = m * 2 + 1
  · simp [h1]
  · by_cases h0 : j = m * 2
    · simp [h0]
    · simp only [if_neg h1, if_neg h0]
      rfl
def okR (zs : List Int) (n k : Nat) : Bool := decide (okTo zs n k)
theorem okR_0 (zs : List Int) (n : Nat) : okR zs n 0 = true := decide_eq_true (fun d hd => absurd hd (by omega))
theorem okR_f {zs : List Int} {n k : Nat} (h : okR zs n k = false) : okR zs n (k + 1) = false := decide_eq_false (fun h' => (of_decide_eq_false h) (fun d hd => h' d (by omega)))
theorem okR_t {zs : List Int} {n k : Nat} {X Y : Int} (h : okR zs n k = true) (hX : rng zs n k = (X, Y)) : okR zs n (k + 1) = decide (X ≤ Y) := by
  have h1 := of_decide_eq_true h
  by_cases hc : X ≤ Y
  · rw [decide_eq_true hc]
    exact decide_eq_true (okTo_step h1 (by rw [hX]; exact hc))
  · rw [decide_eq_false hc]
    refine decide_eq_false (fun h' => hc ?_)
    have := h' k (by omega)
    rw [hX] at this
    exact this
def FromPost (w : World) (zs : List Int) (n : Nat) (e : Ending) (w' : World) : Prop :=
  e = .returned (.tuple #[.slice (some ⟨w.heap.size, 0, none⟩) n n, .bool (okB2 zs n)]) ∧ RowF w' w.heap.size 90 (n * 2) (frF zs n 0) ∧ Below w.heap.size w w'

set_option maxRecDepth 100000 in
set_option maxHeartbeats 2000000 in
theorem forcesFrom_any (A : Option Addr) (n c : Nat) (zs : List Int) (w : World) (h : RecsAt w w.heap.size 3 A n zs) (hok : spansB zs n = true) :
    Calls Try.prog 69 #[.slice A n c] w (FromPost w zs n) := by
  obtain ⟨⟨hn1, hn2⟩, hsp⟩ := spansB_out hok
  have HSP := Lib.hid hsp
  have HBD := Lib.hid (rng_bd hsp)
  have H := Lib.hid h
  clear hsp hok h
  have hmk := fun W => run_make_recs (P := Try.prog) 86 90 2 16 #[.int .i64 0, .int .i64 0] Try.underlying86 infoFR n (by omega) (by omega) W
  have hn1' : (1 : Int) ≤ (n : Int) := by omega
  go_enter Try.func69, Try.ntmps69
  go_wp2
  clear hmk
  go_loopw [5, 6, 7] (fun o i _ wr => ∃ r : Nat, r ≤ n ∧ i = .int .i64 ((r : Int) - 1) ∧ o = .bool (okR zs n (n - r)) ∧ RowF wr w.heap.size 90 (n * 2) (frF zs n r) ∧ Below w.heap.size w wr) (fun _ i _ _ => (intOf i + 1).toNat)
  case atStart =>
    refine ⟨n, Nat.le_refl _, rfl, by rw [Nat.sub_self, okR_0], (RowF.of_row (rowIs_made0 w _ _ _ (fun j hj => by simp at hj; match j, hj with | 0, _ => rfl | 1, _ => rfl) (by simp) [])).congr (fun j hj => ?_), (Below.refl _ _).alloc (Nat.le_refl _) _⟩
    rw [fill_0, frF_def, frV, if_neg (by omega)]
  case round =>
    obtain ⟨r, hr, rfl, rfl, hrow, hb⟩ := hrel
    have HR := Lib.hid hrow
    have HB := Lib.hid hb
    rcases r with _ | m
    · clear hrow hb
      have HOK : Hid (okB2 zs n = okR zs n (n - 0)) := rfl
      generalize okR zs n (n - 0) = ob at *
      go_wp2
      go_ret2
      exact ⟨by rw [HOK.out]; rfl, HR.out, HB.out⟩
    · obtain ⟨b, off, rfl, hbB, hc⟩ := H.out.2 (by omega)
      have x0 : wr.cell? ⟨b, off + m * 3, none⟩ = some (.int .i64 (nth zs (m * 3))) := (hb.cell (by exact hbB)).trans (hc (m * 3) (by omega))
      have x1 : wr.cell? ⟨b, off + m * 3 + 1, none⟩ = some (.int .i64 (nth zs (m * 3 + 1))) := (hb.cell (by exact hbB)).trans (by have := hc (m * 3 + 1) (by omega); rwa [← Nat.add_assoc] at this)
      have x2 : wr.cell? ⟨b, off + m * 3 + 2, none⟩ = some (.int .i64 (nth zs (m * 3 + 2))) := (hb.cell (by exact hbB)).trans (by have := hc (m * 3 + 2) (by omega); rwa [← Nat.add_assoc] at this)
      have c0 := hrow.cell (i := m * 2) (by omega)
      have c1 := hrow.cell (i := m * 2 + 1) (by omega)
      rw [frF_def, show m * 2 = m * 2 + 0 from rfl, frV_old (by omega) (by omega)] at c0
      rw [frF_def, frV_old (by omega) (by omega)] at c1
      simp only [Nat.add_zero] at c0
      have f0 := hrow.frozen (m * 2)
      have f1 := hrow.frozen (m * 2 + 1)
      have hgl := hrow.lt
      have hne : b ≠ w.heap.size := by omega
      have hs := spanB_out (HSP.out m (by omega))
      have HOK1 : Hid (n - (m + 1) = n - 1 - m) := by show n - (m + 1) = n - 1 - m; omega
      by_cases hlast : m + 1 = n
      · have HXY := Lib.hid (show rng zs n (n - 1 - m) = (nth zs (m * 3), nth zs (m * 3 + 1)) by rw [show n - 1 - m = 0 by omega]; simp only [rng]; rw [show n - 1 = m by omega])
        have hli : decide ((m : Int) + 1 < (n : Int)) = false := decide_eq_false (by omega)
        generalize nth zs (m * 3) = L at *
        generalize nth zs (m * 3 + 1) = Hh at *
        generalize nth zs (m * 3 + 2) = Pp at *
        clear hrow hb hc hlast
        cases hob : okR zs n (n - (m + 1))
        · have HON := Lib.hid (okR_f hob)
          go_wp2
          go_region
          go_wp2
          go_quiet (fail)
          go_wp2
          go_roundw
          case rel => exact ⟨m, by omega, rfl, by rw [show n - m = n - (m + 1) + 1 by omega, HON.out], (fr_set1 HXY.out HR.out).drewN _, below_drewN ((HB.out.setCell (p := ⟨w.heap.size, m * 2, none⟩) (Nat.le_refl _) _).setCell (p := ⟨w.heap.size, m * 2 + 1, none⟩) (Nat.le_refl _) _) _⟩
          case measure => first | (simp [intOf]; done) | (simp [intOf]; omega)
        · have HON := Lib.hid (okR_t (X := L) (Y := Hh) hob (by rw [HOK1.out]; exact HXY.out))
          have hle : L ≤ Hh := by omega
          rw [decide_eq_true hle] at HON
          go_wp2
          go_region
          go_wp2
          go_quiet (fail)
          go_wp2
          go_roundw
          case rel => exact ⟨m, by omega, rfl, by rw [show n - m = n - (m + 1) + 1 by omega, HON.out], (fr_set1 HXY.out HR.out).drewN _, below_drewN ((HB.out.setCell (p := ⟨w.heap.size, m * 2, none⟩) (Nat.le_refl _) _).setCell (p := ⟨w.heap.size, m * 2 + 1, none⟩) (Nat.le_refl _) _) _⟩
          case measure => first | (simp [intOf]; done) | (simp [intOf]; omega)
      · have hli : (m : Int) + 1 < (n : Int) := by omega
        have n1 : ¬ (m + 1) * 2 = m * 2 := by omega
        have x2far : (((wr.setCell ⟨w.heap.size, m * 2, none⟩ (.int .i64 (nth zs (m * 3)))).setCell ⟨w.heap.size, m * 2 + 1, none⟩ (.int .i64 (nth zs (m * 3 + 1)))).drew.drew).cell? ⟨b, off + m * 3 + 2, none⟩ = some (.int .i64 (nth zs (m * 3 + 2))) := by
          show ((wr.setCell _ _).setCell _ _).cell? _ = _
          rw [cell_set_off (by simp; omega), cell_set_off (by simp; omega)]
          exact x2
        have hbw : b < wr.heap.size := by omega
        have n2 : ¬ (m + 1) * 2 = m * 2 + 1 := by omega
        have n3 : ¬ (m + 1) * 2 + 1 = m * 2 := by omega
        have n4 : ¬ (m + 1) * 2 + 1 = m * 2 + 1 := by omega
        have HST := Lib.hid (rng_step zs n (n - 2 - m))
        rw [show n - 2 - (n - 2 - m) = m by omega, show n - 2 - m + 1 = n - 1 - m by omega] at HST
        have hbd := HBD.out (n - 2 - m) (by omega)
        have c3 := hrow.cell (i := (m + 1) * 2) (by omega)
        have c4 := hrow.cell (i := (m + 1) * 2 + 1) (by omega)
        rw [frF_def, frV_lo (Nat.le_refl _), show n - 1 - (m + 1) = n - 2 - m by omega] at c3
        rw [frF_def, frV_hi (Nat.le_refl _), show n - 1 - (m + 1) = n - 2 - m by omega] at c4
        have HC3 : Hid (frF zs n (m + 1) ((m + 1) * 2) = .int .i64 (rng zs n (n - 2 - m)).1) := by show _ = _; rw [frF_def, frV_lo (Nat.le_refl _), show n - 1 - (m + 1) = n - 2 - m by omega]
        have HC4 : Hid (frF zs n (m + 1) ((m + 1) * 2 + 1) = .int .i64 (rng zs n (n - 2 - m)).2) := by show _ = _; rw [frF_def, frV_hi (Nat.le_refl _), show n - 1 - (m + 1) = n - 2 - m by omega]
        have X2F := Lib.hid x2far
        clear x2far
        generalize rng zs n (n - 2 - m) = R at *
        obtain ⟨R1, R2⟩ := R
        simp only at c3 c4 hbd
        generalize nth zs (m * 3) = L at *
        generalize nth zs (m * 3 + 1) = Hh at *
        generalize nth zs (m * 3 + 2) = Pp at *
        obtain ⟨X, hX⟩ : ∃ X, X = max L (R1 - Pp) := ⟨_, rfl⟩
        obtain ⟨Y, hY⟩ : ∃ Y, Y = min Hh (R2 + Pp) := ⟨_, rfl⟩
        have HXY := Lib.hid (show rng zs n (n - 1 - m) = (X, Y) by rw [HST.out, hX, hY])
        have HX := Lib.hid hX
        have HY := Lib.hid hY
        clear hrow hb hc hlast hX hY
        cases hob : okR zs n (n - (m + 1))
        · have HON := Lib.hid (okR_f hob)
          go_wp2
          go_region
          go_wp2
          have i5 : (0 : Int) ≤ (m : Int) := by omega
          have i4 : (m : Int) < (n : Int) := by omega
          have i2 : (0 : Int) ≤ (m : Int) + 1 := by omega
          have i3 : ((m : Int) + 1).toNat = m + 1 := by omega
          have i1 : IntKind.i64.wrap ((m : Int) + 1) = (m : Int) + 1 := IntWalk.i64_in _ (by omega)
          have HW := Lib.hid ((HR.out.set (m * 2) (.int .i64 L)).set (m * 2 + 1) (.int .i64 Hh))
          go_region_held3 (fun w' => w'.cell? ⟨w.heap.size, (m + 1) * 2, none⟩ = some (.int .i64 R1) ∧ w'.cell? ⟨w.heap.size, (m + 1) * 2 + 1, none⟩ = some (.int .i64 R2) ∧ w'.cell? ⟨b, off + m * 3 + 2, none⟩ = some (.int .i64 Pp)) (first | (simp [*, cell_set_off]; done) | exact ⟨q1, q2, q3⟩) ((go_at_call 70; refine (narrow_row w.heap.size (m * 2) (n * 2) _ L Hh R1 R2 Pp X Y _ HW.out.drew.drew (by omega) (by simp) (by simp) (by omega) (by omega) (by omega) (by omega) (by omega) HX.out HY.out).mono ?_; rintro e w1 ⟨rfl, hrow1, hgr1⟩; have q1 : w1.cell? ⟨w.heap.size, (m + 1) * 2, none⟩ = some (.int .i64 R1) := (hrow1.cell (by omega)).trans (by simp only [if_neg n2, if_neg n1]; exact congrArg some HC3.out); have q2 : w1.cell? ⟨w.heap.size, (m + 1) * 2 + 1, none⟩ = some (.int .i64 R2) := (hrow1.cell (by omega)).trans (by simp only [if_neg n4, if_neg n3]; exact congrArg some HC4.out); have q3 : w1.cell? ⟨b, off + m * 3 + 2, none⟩ = some (.int .i64 Pp) := (hgr1.cell X2F.out (by simp; omega))))
          clear i1 i3
          have y0 : w1.cell? ⟨w.heap.size, m * 2, none⟩ = some (.int .i64 X) := (hrow1.cell (by omega)).trans (by simp)
          have y1 : w1.cell? ⟨w.heap.size, m * 2 + 1, none⟩ = some (.int .i64 Y) := (hrow1.cell (by omega)).trans (by simp)
          have HR1 := Lib.hid (fr_row HXY.out hrow1)
          have HB1 := Lib.hid ((((HB.out.setCell (p := ⟨w.heap.size, m * 2, none⟩) (Nat.le_refl _) (.int .i64 L)).setCell (p := ⟨w.heap.size, m * 2 + 1, none⟩) (Nat.le_refl _) (.int .i64 Hh)).drew.drew).grown hgr1 (by simp; omega) (fun k hk => by simp at hk; omega))
          clear hrow1 hgr1
          go_wp2
          go_quiet (fail)
          go_wp2
          go_roundw
          case rel => exact ⟨m, by omega, rfl, by rw [show n - m = n - (m + 1) + 1 by omega, HON.out], HR1.out.drewN _, below_drewN HB1.out _⟩
          case measure => first | (simp [intOf]; done) | (simp [intOf]; omega)
        · have HON := Lib.hid (okR_t (X := X) (Y := Y) hob (by rw [HOK1.out]; exact HXY.out))
          by_cases hle : X ≤ Y
          · rw [decide_eq_true hle] at HON
            go_wp2
            go_region
            go_wp2
            have i5 : (0 : Int) ≤ (m : Int) := by omega
            have i4 : (m : Int) < (n : Int) := by omega
            have i2 : (0 : Int) ≤ (m : Int) + 1 := by omega
            have i3 : ((m : Int) + 1).toNat = m + 1 := by omega
            have i1 : IntKind.i64.wrap ((m : Int) + 1) = (m : Int) + 1 := IntWalk.i64_in _ (by omega)
            have HW := Lib.hid ((HR.out.set (m * 2) (.int .i64 L)).set (m * 2 + 1) (.int .i64 Hh))
            go_region_held3 (fun w' => w'.cell? ⟨w.heap.size, (m + 1) * 2, none⟩ = some (.int .i64 R1) ∧ w'.cell? ⟨w.heap.size, (m + 1) * 2 + 1, none⟩ = some (.int .i64 R2) ∧ w'.cell? ⟨b, off + m * 3 + 2, none⟩ = some (.int .i64 Pp)) (first | (simp [*, cell_set_off]; done) | exact ⟨q1, q2, q3⟩) ((go_at_call 70; refine (narrow_row w.heap.size (m * 2) (n * 2) _ L Hh R1 R2 Pp X Y _ HW.out.drew.drew (by omega) (by simp) (by simp) (by omega) (by omega) (by omega) (by omega) (by omega) HX.out HY.out).mono ?_; rintro e w1 ⟨rfl, hrow1, hgr1⟩; have q1 : w1.cell? ⟨w.heap.size, (m + 1) * 2, none⟩ = some (.int .i64 R1) := (hrow1.cell (by omega)).trans (by simp only [if_neg n2, if_neg n1]; exact congrArg some HC3.out); have q2 : w1.cell? ⟨w.heap.size, (m + 1) * 2 + 1, none⟩ = some (.int .i64 R2) := (hrow1.cell (by omega)).trans (by simp only [if_neg n4, if_neg n3]; exact congrArg some HC4.out); have q3 : w1.cell? ⟨b, off + m * 3 + 2, none⟩ = some (.int .i64 Pp) := (hgr1.cell X2F.out (by simp; omega))))
            clear i1 i3
            have y0 : w1.cell? ⟨w.heap.size, m * 2, none⟩ = some (.int .i64 X) := (hrow1.cell (by omega)).trans (by simp)
            have y1 : w1.cell? ⟨w.heap.size, m * 2 + 1, none⟩ = some (.int .i64 Y) := (hrow1.cell (by omega)).trans (by simp)
            have HR1 := Lib.hid (fr_row HXY.out hrow1)
            have HB1 := Lib.hid ((((HB.out.setCell (p := ⟨w.heap.size, m * 2, none⟩) (Nat.le_refl _) (.int .i64 L)).setCell (p := ⟨w.heap.size, m * 2 + 1, none⟩) (Nat.le_refl _) (.int .i64 Hh)).drew.drew).grown hgr1 (by simp; omega) (fun k hk => by simp at hk; omega))
            clear hrow1 hgr1
            go_wp2
            go_quiet (fail)
            go_wp2
            go_roundw
            case rel => exact ⟨m, by omega, rfl, by rw [show n - m = n - (m + 1) + 1 by omega, HON.out], HR1.out.drewN _, below_drewN HB1.out _⟩
            case measure => first | (simp [intOf]; done) | (simp [intOf]; omega)
          · have hdc : decide (X ≤ Y) = false := decide_eq_false hle
            rw [hdc] at HON
            go_wp2
            go_region
            go_wp2
            have i5 : (0 : Int) ≤ (m : Int) := by omega
            have i4 : (m : Int) < (n : Int) := by omega
            have i2 : (0 : Int) ≤ (m : Int) + 1 := by omega
            have i3 : ((m : Int) + 1).toNat = m + 1 := by omega
            have i1 : IntKind.i64.wrap ((m : Int) + 1) = (m : Int) + 1 := IntWalk.i64_in _ (by omega)
            have HW := Lib.hid ((HR.out.set (m * 2) (.int .i64 L)).set (m * 2 + 1) (.int .i64 Hh))
            go_region_held3 (fun w' => w'.cell? ⟨w.heap.size, (m + 1) * 2, none⟩ = some (.int .i64 R1) ∧ w'.cell? ⟨w.heap.size, (m + 1) * 2 + 1, none⟩ = some (.int .i64 R2) ∧ w'.cell? ⟨b, off + m * 3 + 2, none⟩ = some (.int .i64 Pp)) (first | (simp [*, cell_set_off]; done) | exact ⟨q1, q2, q3⟩) ((go_at_call 70; refine (narrow_row w.heap.size (m * 2) (n * 2) _ L Hh R1 R2 Pp X Y _ HW.out.drew.drew (by omega) (by simp) (by simp) (by omega) (by omega) (by omega) (by omega) (by omega) HX.out HY.out).mono ?_; rintro e w1 ⟨rfl, hrow1, hgr1⟩; have q1 : w1.cell? ⟨w.heap.size, (m + 1) * 2, none⟩ = some (.int .i64 R1) := (hrow1.cell (by omega)).trans (by simp only [if_neg n2, if_neg n1]; exact congrArg some HC3.out); have q2 : w1.cell? ⟨w.heap.size, (m + 1) * 2 + 1, none⟩ = some (.int .i64 R2) := (hrow1.cell (by omega)).trans (by simp only [if_neg n4, if_neg n3]; exact congrArg some HC4.out); have q3 : w1.cell? ⟨b, off + m * 3 + 2, none⟩ = some (.int .i64 Pp) := (hgr1.cell X2F.out (by simp; omega))))
            clear i1 i3
            have y0 : w1.cell? ⟨w.heap.size, m * 2, none⟩ = some (.int .i64 X) := (hrow1.cell (by omega)).trans (by simp)
            have y1 : w1.cell? ⟨w.heap.size, m * 2 + 1, none⟩ = some (.int .i64 Y) := (hrow1.cell (by omega)).trans (by simp)
            have HR1 := Lib.hid (fr_row HXY.out hrow1)
            have HB1 := Lib.hid ((((HB.out.setCell (p := ⟨w.heap.size, m * 2, none⟩) (Nat.le_refl _) (.int .i64 L)).setCell (p := ⟨w.heap.size, m * 2 + 1, none⟩) (Nat.le_refl _) (.int .i64 Hh)).drew.drew).grown hgr1 (by simp; omega) (fun k hk => by simp at hk; omega))
            clear hrow1 hgr1
            go_wp2
            go_quiet (fail)
            go_wp2
            go_roundw
            case rel => exact ⟨m, by omega, rfl, by rw [show n - m = n - (m + 1) + 1 by omega, HON.out], HR1.out.drewN _, below_drewN HB1.out _⟩
            case measure => first | (simp [intOf]; done) | (simp [intOf]; omega)
end Go.Proofs.Ytdphndjohhfgoaa
