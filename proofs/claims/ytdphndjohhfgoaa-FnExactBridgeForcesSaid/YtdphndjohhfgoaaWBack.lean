/-
  Contract: the spans narrowed from behind, in the reference.
-/
import Derived.Test.YtdphndjohhfgoaaWSpans
import Derived.Test.YtdphndjohhfgoaaRSpan
import Derived.Test.YtdphndjohhfgoaaRow
import Derived.Deep.QuietTactic
import Derived.BigQuiet
import Derived.BigRegion
namespace Go.Proofs.Ytdphndjohhfgoaa
open Go.RowKit

/-- What l23Back hands back. -/
def BackPost (w : World) (zs : List Int) (n : Nat) (e : Ending) (w' : World) : Prop :=
  ∃ g cap, e = .returned (.tuple #[.slice (some ⟨g, 0, none⟩) n cap, .bool (okB2 zs n)]) ∧ (okB2 zs n = true → RowF w' g 67 (n * 3) (backF zs n (n - 1))) ∧ Below w.heap.size w w'

theorem back_set {wr : World} {zs : List Int} {n m g : Nat} {E : TypeId} {X Y : Int} (hX : rng zs n (n - 2 - m + 1) = (X, Y)) (hm : m + 2 ≤ n) (h : RowF wr g E (n * 3) (backF zs n (n - 1 - (m + 1)))) :
    RowF ((wr.setCell ⟨g, m * 3, none⟩ (.int .i64 X)).setCell ⟨g, m * 3 + 1, none⟩ (.int .i64 Y)) g E (n * 3) (backF zs n (n - 1 - m)) := by
  have h' : RowF wr g E (n * 3) (backF zs n (n - 2 - m)) := by rw [show n - 2 - m = n - 1 - (m + 1) by omega]; exact h
  refine ((h'.set (m * 3) (.int .i64 X)).set (m * 3 + 1) (.int .i64 Y)).congr (fun j _ => ?_)
  have hst := backV_step (zs := zs) (n := n) (d := n - 2 - m) (by omega) j
  rw [show n - 2 - (n - 2 - m) = m by omega, hX, show n - 2 - m + 1 = n - 1 - m by omega] at hst
  show (if j = m * 3 + 1 then Value.int .i64 Y else if j = m * 3 then Value.int .i64 X else Value.int .i64 (backV zs n (n - 2 - m) j)) = Value.int .i64 (backV zs n (n - 1 - m) j)
  rw [← hst]
  split
  · rfl
  · split <;> rfl
theorem backPost_t {w w' : World} {zs : List Int} {n g cap : Nat} (h : okB2 zs n = true) (hr : RowF w' g 67 (n * 3) (backF zs n (n - 1))) (hb : Below w.heap.size w w') : BackPost w zs n (.returned (.tuple #[.slice (some ⟨g, 0, none⟩) n cap, .bool true])) w' :=
  ⟨g, cap, by rw [h], fun _ => hr, hb⟩
theorem backPost_f {w w' : World} {zs : List Int} {n g cap : Nat} (h : okB2 zs n = false) (hb : Below w.heap.size w w') : BackPost w zs n (.returned (.tuple #[.slice (some ⟨g, 0, none⟩) n cap, .bool false])) w' :=
  ⟨g, cap, by rw [h], fun h' => absurd h' (by rw [h]; simp), hb⟩

set_option maxRecDepth 100000 in
set_option maxHeartbeats 2000000 in
theorem l23Back_any (A : Option Addr) (n c : Nat) (zs : List Int) (w : World) (h : RecsAt w w.heap.size 3 A n zs) (hok : spansB zs n = true) :
    Calls Try.prog 68 #[.slice A n c] w (BackPost w zs n) := by
  obtain ⟨⟨hn1, hn2⟩, hsp⟩ := spansB_out hok
  have HSP := Lib.hid hsp
  have HBD := Lib.hid (rng_bd hsp)
  have HO1 := Lib.hid (okTo_1 hsp hn1)
  have HLEN := Lib.hid h.1
  clear hsp hok
  go_enter Try.func68, Try.ntmps68
  go_wp2_with (at_builtin; refine wpList_append_recs _ rfl _ _ 30 rfl w.heap.size 67 3 24 #[.int .i64 0, .int .i64 0, .int .i64 0] Try.underlying30 infoSpan rfl (by decide) (by decide) _ rfl (World.ownsRow_lit (base := w.heap.size) (e := 67) (size := 3) w #[] 0 (Nat.le_refl _) (by simp [maxLen]) (by simp)) w.heap.size A n c zs rfl (h.alloc (Nat.le_refl _) _) hn1 (by omega) ?hc3 ?_)
  case hc3 => simp
  intro g cap w1 hrow hg hgr
  have hb1 : Below w.heap.size w w1 := ((Below.refl _ _).alloc (Nat.le_refl _) _).grown hgr (by simp) (fun k hk => by simp [Value.ownBlock] at hk; omega)
  have HR := Lib.hid hrow
  have HB := Lib.hid hb1
  clear hgr hrow hb1
  have hn1' : (2 : Int) ≤ (n : Int) + 1 := by omega
  go_wp2
  clear hn1'
  go_loopw [5] (fun i wr => ∃ r : Nat, r + 1 ≤ n ∧ i = .int .i64 ((r : Int) - 1) ∧ RowF wr g 67 (n * 3) (backF zs n (n - 1 - r)) ∧ okTo zs n (n - r) ∧ Below w.heap.size w wr) (fun i _ => (intOf i + 1).toNat)
  case atStart => exact ⟨n - 1, by omega, by congr 1; omega, HR.out.congr (fun j hj => by rw [show n - 1 - (n - 1) = 0 by omega, backF_def, backV_0 hj, ints_def]), by rw [show n - (n - 1) = 1 by omega]; exact HO1.out, HB.out⟩
  case round =>
    clear HR HB
    obtain ⟨r, hr, rfl, hrow, hag, hb⟩ := hrel
    have HR := Lib.hid hrow
    have HB := Lib.hid hb
    rcases r with _ | m
    · have HOKB := Lib.hid (okB2_t (by simpa using hag))
      clear hrow hb
      go_wp2
      go_ret2
      exact backPost_t HOKB.out HR.out HB.out
    · have c0 := hrow.cell (i := m * 3) (by omega)
      have c1 := hrow.cell (i := m * 3 + 1) (by omega)
      have c2 := hrow.cell (i := m * 3 + 2) (by omega)
      have c3 := hrow.cell (i := (m + 1) * 3) (by omega)
      have c4 := hrow.cell (i := (m + 1) * 3 + 1) (by omega)
      have f0 := hrow.frozen (m * 3)
      have f1 := hrow.frozen (m * 3 + 1)
      rw [backF_def] at c0 c1 c2 c3 c4
      rw [show m * 3 = m * 3 + 0 from rfl, backV_old (by omega) (by omega)] at c0
      rw [backV_old (by omega) (by omega)] at c1
      rw [backV_pier] at c2
      rw [backV_low (by omega), show n - 1 - (m + 1) = n - 2 - m by omega] at c3
      rw [backV_high (by omega), show n - 1 - (m + 1) = n - 2 - m by omega] at c4
      simp only [Nat.add_zero] at c0
      have HST := Lib.hid (rng_step zs n (n - 2 - m))
      rw [show n - 2 - (n - 2 - m) = m by omega] at HST
      have hbd := HBD.out (n - 2 - m) (by omega)
      have hs := spanB_out (HSP.out m (by omega))
      generalize nth zs (m * 3) = L at *
      generalize nth zs (m * 3 + 1) = Hh at *
      generalize nth zs (m * 3 + 2) = Pp at *
      generalize hR : rng zs n (n - 2 - m) = R at *
      have HRR := Lib.hid hR
      clear hR
      obtain ⟨R1, R2⟩ := R
      simp only at c3 c4 hbd
      clear hrow hb
      have hdd : n - 2 - m + 1 < n := by omega
      by_cases hm : L < R1 - Pp
      · by_cases hM : R2 + Pp < Hh
        · have HXY := Lib.hid (show rng zs n (n - 2 - m + 1) = ((R1 - Pp), (R2 + Pp)) by rw [HST.out]; exact Prod.ext (by simp only; omega) (by simp only; omega))
          by_cases hc : (R2 + Pp) < (R1 - Pp)
          · have HBAD := Lib.hid (okB2_f (zs := zs) (n := n) (d := n - 2 - m + 1) hdd (by rw [HXY.out]; simp only; omega))
            go_wp2
            go_region
            go_wp2
            go_region
            go_wp2
            go_quiet (fail)
            go_wp2
            go_ret2
            exact backPost_f HBAD.out (below_drewN (((HB.out.setCell (p := ⟨g, m * 3, none⟩) hg _).setCell (p := ⟨g, m * 3 + 1, none⟩) hg _).drew.drew) _)
          · have HGOOD := Lib.hid (okTo_step (k := n - 2 - m + 1) (by rw [show n - 2 - m + 1 = n - (m + 1) by omega]; exact hag) (by rw [HXY.out]; simp only; omega))
            go_wp2
            go_region
            go_wp2
            go_region
            go_wp2
            go_quiet (fail)
            go_wp2
            go_roundw
            case rel =>
              refine ⟨m, by omega, rfl, ?_, by rw [show n - m = n - 2 - m + 1 + 1 by omega]; exact HGOOD.out, below_drewN ((HB.out.setCell (p := ⟨g, m * 3, none⟩) hg _).setCell (p := ⟨g, m * 3 + 1, none⟩) hg _) _⟩
              exact (back_set HXY.out (by omega) HR.out).drewN _
            case measure => first | (simp [intOf]; done) | (simp [intOf]; omega)
        · have HXY := Lib.hid (show rng zs n (n - 2 - m + 1) = ((R1 - Pp), Hh) by rw [HST.out]; exact Prod.ext (by simp only; omega) (by simp only; omega))
          by_cases hc : Hh < (R1 - Pp)
          · have HBAD := Lib.hid (okB2_f (zs := zs) (n := n) (d := n - 2 - m + 1) hdd (by rw [HXY.out]; simp only; omega))
            go_wp2
            go_region
            go_wp2
            go_region
            go_wp2
            go_quiet (fail)
            go_wp2
            go_ret2
            exact backPost_f HBAD.out (below_drewN (((HB.out.setCell (p := ⟨g, m * 3, none⟩) hg _).setCell (p := ⟨g, m * 3 + 1, none⟩) hg _).drew.drew) _)
          · have HGOOD := Lib.hid (okTo_step (k := n - 2 - m + 1) (by rw [show n - 2 - m + 1 = n - (m + 1) by omega]; exact hag) (by rw [HXY.out]; simp only; omega))
            go_wp2
            go_region
            go_wp2
            go_region
            go_wp2
            go_quiet (fail)
            go_wp2
            go_roundw
            case rel =>
              refine ⟨m, by omega, rfl, ?_, by rw [show n - m = n - 2 - m + 1 + 1 by omega]; exact HGOOD.out, below_drewN ((HB.out.setCell (p := ⟨g, m * 3, none⟩) hg _).setCell (p := ⟨g, m * 3 + 1, none⟩) hg _) _⟩
              exact (back_set HXY.out (by omega) HR.out).drewN _
            case measure => first | (simp [intOf]; done) | (simp [intOf]; omega)
      · by_cases hM : R2 + Pp < Hh
        · have HXY := Lib.hid (show rng zs n (n - 2 - m + 1) = (L, (R2 + Pp)) by rw [HST.out]; exact Prod.ext (by simp only; omega) (by simp only; omega))
          by_cases hc : (R2 + Pp) < L
          · have HBAD := Lib.hid (okB2_f (zs := zs) (n := n) (d := n - 2 - m + 1) hdd (by rw [HXY.out]; simp only; omega))
            go_wp2
            go_region
            go_wp2
            go_region
            go_wp2
            go_quiet (fail)
            go_wp2
            go_ret2
            exact backPost_f HBAD.out (below_drewN (((HB.out.setCell (p := ⟨g, m * 3, none⟩) hg _).setCell (p := ⟨g, m * 3 + 1, none⟩) hg _).drew.drew) _)
          · have HGOOD := Lib.hid (okTo_step (k := n - 2 - m + 1) (by rw [show n - 2 - m + 1 = n - (m + 1) by omega]; exact hag) (by rw [HXY.out]; simp only; omega))
            go_wp2
            go_region
            go_wp2
            go_region
            go_wp2
            go_quiet (fail)
            go_wp2
            go_roundw
            case rel =>
              refine ⟨m, by omega, rfl, ?_, by rw [show n - m = n - 2 - m + 1 + 1 by omega]; exact HGOOD.out, below_drewN ((HB.out.setCell (p := ⟨g, m * 3, none⟩) hg _).setCell (p := ⟨g, m * 3 + 1, none⟩) hg _) _⟩
              exact (back_set HXY.out (by omega) HR.out).drewN _
            case measure => first | (simp [intOf]; done) | (simp [intOf]; omega)
        · have HXY := Lib.hid (show rng zs n (n - 2 - m + 1) = (L, Hh) by rw [HST.out]; exact Prod.ext (by simp only; omega) (by simp only; omega))
          by_cases hc : Hh < L
          · exfalso; omega
          · have HGOOD := Lib.hid (okTo_step (k := n - 2 - m + 1) (by rw [show n - 2 - m + 1 = n - (m + 1) by omega]; exact hag) (by rw [HXY.out]; simp only; omega))
            go_wp2
            go_region
            go_wp2
            go_region
            go_wp2
            go_quiet (fail)
            go_wp2
            go_roundw
            case rel =>
              refine ⟨m, by omega, rfl, ?_, by rw [show n - m = n - 2 - m + 1 + 1 by omega]; exact HGOOD.out, below_drewN ((HB.out.setCell (p := ⟨g, m * 3, none⟩) hg _).setCell (p := ⟨g, m * 3 + 1, none⟩) hg _) _⟩
              exact (back_set HXY.out (by omega) HR.out).drewN _
            case measure => first | (simp [intOf]; done) | (simp [intOf]; omega)

end Go.Proofs.Ytdphndjohhfgoaa
