/-
  Texts that the law stands on, part 28.
-/
import Derived.Test.YtbpnbhemdbgmjaaGreatM11
import Derived.Test.YtbpnbhemdbgmjaaGreatM18
import Derived.Test.YtbpnbhemdbgmjaaGreatM21
import Derived.Test.YtbpnbhemdbgmjaaGreatM25
import Derived.Test.YtbpnbhemdbgmjaaGreatM27
import Derived.Deep.RegionHeld3
import Derived.Outline
section
namespace Go.Proofs.YtbpnbhemdbgmjaaGreat.X
open Go.RowKit
theorem infoJoint : (Tryzx.prog.info? 45).map (fun i => (i.zero, i.size, i.bytes)) = some (some (.agg #[.int .i64 0, .int .i64 0, .int .i64 0, .int .i64 0]), 4, 32) := by kernel_rfl
set_option maxHeartbeats 400000 in
theorem toJoint_any (x0 x1 x2 x3 : Int) (w : World) : Calls Tryzx.prog 124 #[.agg #[.int .i64 x0, .int .i64 x1, .int .i64 x2, .int .i64 x3]] w fun e w' => e = .returned (.agg #[.int .i64 x0, .int .i64 x1, .int .i64 x2, .int .i64 x3]) ∧ Below w.heap.size w w' := by
  go_enter Tryzx.func124, Tryz.ntmps124
  go_wp2_with fail
  refine (toPoint_any _ _ _).mono ?_
  rintro e w1 ⟨rfl, hb1⟩
  have hz1 := hb1.size
  simp at hz1
  have ra : RowF w1 w.heap.size 158 4 (ints [x0, x1, x2, x3]) := (((RowF.of_row (World.rowIs_alloc w #[.int .i64 x0, .int .i64 x1, .int .i64 x2, .int .i64 x3] _ _ (fun j hj => by simp at hj; match j, hj with | 0, _ => rfl | 1, _ => rfl | 2, _ => rfl | 3, _ => rfl))).alloc _).alloc _).after hb1
  have rr : RowF w1 (w.heap.size + 1) 45 4 (ints [0, 0, 0, 0]) := by
    have h := ((RowF.of_row (World.rowIs_alloc (w.alloc (.cells #[.int .i64 x0, .int .i64 x1, .int .i64 x2, .int .i64 x3] 158)) #[.int .i64 0, .int .i64 0, .int .i64 0, .int .i64 0] 45 (ints [0, 0, 0, 0]) (fun j hj => by simp at hj; match j, hj with | 0, _ => rfl | 1, _ => rfl | 2, _ => rfl | 3, _ => rfl))).alloc (.cells #[.int .i64 0, .int .i64 0, .int .i64 0, .int .i64 0] 45)).after hb1
    simpa using h
  have ro : RowF w1 (w.heap.size + 1 + 1) 45 4 (ints [0, 0, 0, 0]) := by
    have h := (RowF.of_row (World.rowIs_alloc ((w.alloc (.cells #[.int .i64 x0, .int .i64 x1, .int .i64 x2, .int .i64 x3] 158)).alloc (.cells #[.int .i64 0, .int .i64 0, .int .i64 0, .int .i64 0] 45)) #[.int .i64 0, .int .i64 0, .int .i64 0, .int .i64 0] 45 (ints [0, 0, 0, 0]) (fun j hj => by simp at hj; match j, hj with | 0, _ => rfl | 1, _ => rfl | 2, _ => rfl | 3, _ => rfl))).after hb1
    simpa using h
  have a2 : w1.cell? ⟨w.heap.size, 2, none⟩ = some (.int .i64 x2) := ra.cell (by omega)
  have a3 : w1.cell? ⟨w.heap.size, 3, none⟩ = some (.int .i64 x3) := ra.cell (by omega)
  have o0 : w1.cell? ⟨w.heap.size + 1 + 1, 0, none⟩ = some (.int .i64 0) := ro.cell (by omega)
  have o1 : w1.cell? ⟨w.heap.size + 1 + 1, 1, none⟩ = some (.int .i64 0) := ro.cell (by omega)
  have f0 := ro.frozen 0
  have f1 := ro.frozen 1
  have HB1 := Lib.hid ((((Below.refl _ w).alloc (Nat.le_refl _) _).alloc (by simp) _).alloc (by simp; omega) _ |>.trans (hb1.mono (by simp; omega)))
  have ro2 := (ro.set 0 (.int .i64 x0)).set 1 (.int .i64 x1)
  have rr2 : RowF ((w1.setCell ⟨w.heap.size + 1 + 1, 0, none⟩ (.int .i64 x0)).setCell ⟨w.heap.size + 1 + 1, 1, none⟩ (.int .i64 x1)) (w.heap.size + 1) 45 4 (ints [0, 0, 0, 0]) := (rr.set_other (by simp) _).set_other (by simp) _
  clear hb1
  go_wp2_with fail
  refine (toPoint_any _ _ _).mono ?_
  rintro e w2 ⟨rfl, hb2⟩
  have hz2 := hb2.size
  simp at hz2
  have s := ro2.after hb2
  have r := rr2.after hb2
  have HB2 := Lib.hid (((HB1.out.setCell (p := ⟨w.heap.size + 1 + 1, 0, none⟩) (by simp; omega) _).setCell (p := ⟨w.heap.size + 1 + 1, 1, none⟩) (by simp; omega) _).trans (hb2.mono (by simp; omega)))
  have s0 : w2.cell? ⟨w.heap.size + 1 + 1, 0, none⟩ = some (.int .i64 x0) := s.cell (by omega)
  have s1 : w2.cell? ⟨w.heap.size + 1 + 1, 1, none⟩ = some (.int .i64 x1) := s.cell (by omega)
  have s2 : w2.cell? ⟨w.heap.size + 1 + 1, 2, none⟩ = some (.int .i64 0) := s.cell (by omega)
  have s3 : w2.cell? ⟨w.heap.size + 1 + 1, 3, none⟩ = some (.int .i64 0) := s.cell (by omega)
  have g2 := s.frozen 2
  have g3 := s.frozen 3
  have r0 : w2.cell? ⟨w.heap.size + 1, 0, none⟩ = some (.int .i64 0) := r.cell (by omega)
  have r1 : w2.cell? ⟨w.heap.size + 1, 1, none⟩ = some (.int .i64 0) := r.cell (by omega)
  have r2 : w2.cell? ⟨w.heap.size + 1, 2, none⟩ = some (.int .i64 0) := r.cell (by omega)
  have r3 : w2.cell? ⟨w.heap.size + 1, 3, none⟩ = some (.int .i64 0) := r.cell (by omega)
  have k0 := r.frozen 0
  have k1 := r.frozen 1
  have k2 := r.frozen 2
  have k3 := r.frozen 3
  clear hb2 ro2 rr2 s r ra rr ro a2 a3 o0 o1 f0 f1
  go_wp2
  refine bodyPost_ret (v := .agg #[.int .i64 x0, .int .i64 x1, .int .i64 x2, .int .i64 x3]) (by simp [results, Tryz.results124, go_sem, *]) rfl ⟨rfl, ?_⟩
  exact (((((HB2.out.setCell (p := ⟨w.heap.size + 1 + 1, 2, none⟩) (by simp; omega) _).setCell (p := ⟨w.heap.size + 1 + 1, 3, none⟩) (by simp; omega) _).setCell (p := ⟨w.heap.size + 1, 0, none⟩) (by simp) _).setCell (p := ⟨w.heap.size + 1, 1, none⟩) (by simp) _).setCell (p := ⟨w.heap.size + 1, 2, none⟩) (by simp) _).setCell (p := ⟨w.heap.size + 1, 3, none⟩) (by simp) _
set_option maxHeartbeats 800000 in
theorem toJointS_any (A : Option Addr) (n c : Nat) (zs : List Int) (w : World) (h : RecsAt w w.heap.size 4 A n zs) (hn : n ≤ 1048576) :
    Calls Tryzx.prog 80 #[.slice A n c] w fun e w' => e = .returned (.slice (some ⟨w.heap.size, 0, none⟩) n n) ∧ w'.rowIs w.heap.size 45 (n * 4) (ints zs) ∧ Below w.heap.size w w' := by
  have H := Lib.hid h
  clear h
  have hmk := fun W => run_make_recs (P := Tryzx.prog) 24 45 4 32 #[.int .i64 0, .int .i64 0, .int .i64 0, .int .i64 0] Tryzx.underlying24 infoJoint n (by omega) hn W
  go_enter Tryzx.func80, Tryz.ntmps80
  go_wp2
  clear hmk
  go_loopw [4] (fun i wr => ∃ k : Nat, k ≤ n ∧ i = .int .i64 k ∧ wr.rowIs w.heap.size 45 (n * 4) (fill zs (k * 4)) ∧ Below w.heap.size w wr) (fun i _ => n - (intOf i).toNat)
  case atStart => exact ⟨0, Nat.zero_le _, rfl, by rw [Nat.zero_mul]; exact rowIs_made0 w _ _ _ (fun j hj => by simp at hj; match j, hj with | 0, _ => rfl | 1, _ => rfl | 2, _ => rfl | 3, _ => rfl) (by simp) zs, (Below.refl _ _).alloc (Nat.le_refl _) _⟩
  case round =>
    obtain ⟨k, hk, rfl, hrow, hb⟩ := hrel
    by_cases hlt : k < n
    · obtain ⟨b, off, rfl, hbB, hc⟩ := H.out.2 (by omega)
      have hgl := hrow.lt
      have hx0 : wr.cell? ⟨b, off + k * 4, none⟩ = some (.int .i64 (nth zs (k * 4))) := (hb.cell (by exact hbB)).trans (hc (k * 4) (by omega))
      have hx1 : wr.cell? ⟨b, off + k * 4 + 1, none⟩ = some (.int .i64 (nth zs (k * 4 + 1))) := (hb.cell (by exact hbB)).trans (by have := hc (k * 4 + 1) (by omega); rwa [← Nat.add_assoc] at this)
      have hx2 : wr.cell? ⟨b, off + k * 4 + 2, none⟩ = some (.int .i64 (nth zs (k * 4 + 2))) := (hb.cell (by exact hbB)).trans (by have := hc (k * 4 + 2) (by omega); rwa [← Nat.add_assoc] at this)
      have hx3 : wr.cell? ⟨b, off + k * 4 + 3, none⟩ = some (.int .i64 (nth zs (k * 4 + 3))) := (hb.cell (by exact hbB)).trans (by have := hc (k * 4 + 3) (by omega); rwa [← Nat.add_assoc] at this)
      have HR := Lib.hid hrow
      have HB := Lib.hid hb
      clear hrow hb hc
      go_wp2_with fail
      refine (toJoint_any _ _ _ _ _).mono ?_
      rintro e w1 ⟨rfl, hb1⟩
      have HR1 := Lib.hid (below_row hb1 HR.out hgl)
      have HB1 := Lib.hid (HB.out.trans (hb1.mono HB.out.size))
      clear hb1
      have hy0 : w1.cell? ⟨w.heap.size, k * 4, none⟩ = some (.int .i64 0) := by rw [HR1.out.cell (by omega), fill_at zs (by omega)]
      have hf0 : w1.frozen? ⟨w.heap.size, k * 4, none⟩ = false := HR1.out.frozen _
      have hy1 : w1.cell? ⟨w.heap.size, k * 4 + 1, none⟩ = some (.int .i64 0) := by rw [HR1.out.cell (by omega), fill_at zs (by omega)]
      have hf1 : w1.frozen? ⟨w.heap.size, k * 4 + 1, none⟩ = false := HR1.out.frozen _
      have hy2 : w1.cell? ⟨w.heap.size, k * 4 + 2, none⟩ = some (.int .i64 0) := by rw [HR1.out.cell (by omega), fill_at zs (by omega)]
      have hf2 : w1.frozen? ⟨w.heap.size, k * 4 + 2, none⟩ = false := HR1.out.frozen _
      have hy3 : w1.cell? ⟨w.heap.size, k * 4 + 3, none⟩ = some (.int .i64 0) := by rw [HR1.out.cell (by omega), fill_at zs (by omega)]
      have hf3 : w1.frozen? ⟨w.heap.size, k * 4 + 3, none⟩ = false := HR1.out.frozen _
      go_wp2
      go_roundw
      case rel => exact ⟨k + 1, by omega, by go_num, by rw [Nat.add_mul, Nat.one_mul]; exact World.rowIs.congr (World.rowIs.set (World.rowIs.set (World.rowIs.set (World.rowIs.set HR1.out (k * 4) _) (k * 4 + 1) _) (k * 4 + 2) _) (k * 4 + 3) _) (fun j _ => fill_step4 zs (k * 4) j), ((((HB1.out.setCell (Nat.le_refl _) _).setCell (Nat.le_refl _) _).setCell (Nat.le_refl _) _).setCell (Nat.le_refl _) _)⟩
      case measure => simp [intOf]; omega
    · have hkn : k = n := by omega
      subst hkn
      have HR := Lib.hid hrow
      have HB := Lib.hid hb
      clear hrow hb
      go_wp2
      go_ret
      exact ⟨rfl, HR.out.congr (fun j hj => fill_end zs hj), HB.out⟩
theorem szJointS_ok (A : Option Addr) (n c : Nat) (l : Int) (w : World) (h0 : 0 ≤ l) (h1 : l ≤ 1048576) (hn : n ≤ 9223372036854775807) (h : (n : Int) ≤ l) : Calls Tryzx.prog 79 #[.slice A n c, .int .i64 l] w fun e w' => e = .returned (.int .i64 (l - n)) ∧ w = w' := by
  have ht : ¬ l - (n : Int) < 0 := by omega
  go_enter Tryzx.func79, Tryz.ntmps79
  go_wp2
  go_ret
  exact ⟨rfl, rfl⟩
theorem szJointS_no (A : Option Addr) (n c : Nat) (l : Int) (w : World) (h0 : 0 ≤ l) (h1 : l ≤ 1048576) (hn : n ≤ 9223372036854775807) (h : l < (n : Int)) : Calls Tryzx.prog 79 #[.slice A n c, .int .i64 l] w fun e w' => e = .returned (.int .i64 (-1)) ∧ w = w' := by
  have ht : l - (n : Int) < 0 := by omega
  go_enter Tryzx.func79, Tryz.ntmps79
  go_wp2
  go_ret
  exact ⟨rfl, rfl⟩
set_option maxHeartbeats 400000 in
theorem eqJoint_same (x0 x1 x2 x3 : Int) (w : World) : Calls Tryzx.prog 125 #[.agg #[.int .i64 x0, .int .i64 x1, .int .i64 x2, .int .i64 x3], .agg #[.int .i64 x0, .int .i64 x1, .int .i64 x2, .int .i64 x3]] w fun e w' => e = .returned (.bool true) ∧ Below w.heap.size w w' := by
  have t0 : (x0 != x0) = false := by simp
  have t1 : (x1 != x1) = false := by simp
  have t2 : (x2 != x2) = false := by simp
  have t3 : (x3 != x3) = false := by simp
  go_enter Tryzx.func125, Tryz.ntmps125
  go_wp2
  go_ret
  exact ⟨rfl, ((((((Below.refl _ _).alloc (Nat.le_refl _) _).alloc (by simp) _).alloc (by simp; omega) _).alloc (by simp; omega) _).alloc (by simp; omega) _).alloc (by simp; omega) _⟩
set_option maxHeartbeats 800000 in
theorem eqJointS_same (A A' : Option Addr) (n c c' : Nat) (zs : List Int) (w : World) (hx : RecsAt w w.heap.size 4 A n zs) (hy : RecsAt w w.heap.size 4 A' n zs) (hn : n ≤ 1048576) :
    Calls Tryzx.prog 81 #[.slice A n c, .slice A' n c'] w fun e w' => e = .returned (.bool true) ∧ Below w.heap.size w w' := by
  have HX := Lib.hid hx
  have HY := Lib.hid hy
  clear hx hy
  have ht : ((n : Int) != (n : Int)) = false := by simp
  go_enter Tryzx.func81, Tryz.ntmps81
  go_wp2
  go_loopw [5] (fun i wr => ∃ k : Nat, k ≤ n ∧ i = .int .i64 k ∧ Below w.heap.size w wr) (fun i _ => n - (intOf i).toNat)
  case atStart => exact ⟨0, Nat.zero_le _, rfl, Below.refl _ _⟩
  case round =>
    obtain ⟨k, hk, rfl, hb⟩ := hrel
    have HB := Lib.hid hb
    by_cases hlt : k < n
    · obtain ⟨b, off, rfl, hbB, hc⟩ := HX.out.2 (by omega)
      obtain ⟨b', off', rfl, hbB', hc'⟩ := HY.out.2 (by omega)
      have hz := hb.size
      have cx0 : wr.cell? ⟨b, off + k * 4, none⟩ = some (.int .i64 (nth zs (k * 4))) := (hb.cell (by exact hbB)).trans (hc (k * 4) (by omega))
      have cy0 : wr.cell? ⟨b', off' + k * 4, none⟩ = some (.int .i64 (nth zs (k * 4))) := (hb.cell (by exact hbB')).trans (hc' (k * 4) (by omega))
      have cx1 : wr.cell? ⟨b, off + k * 4 + 1, none⟩ = some (.int .i64 (nth zs (k * 4 + 1))) := (hb.cell (by exact hbB)).trans (by have := hc (k * 4 + 1) (by omega); rwa [← Nat.add_assoc] at this)
      have cy1 : wr.cell? ⟨b', off' + k * 4 + 1, none⟩ = some (.int .i64 (nth zs (k * 4 + 1))) := (hb.cell (by exact hbB')).trans (by have := hc' (k * 4 + 1) (by omega); rwa [← Nat.add_assoc] at this)
      have cx2 : wr.cell? ⟨b, off + k * 4 + 2, none⟩ = some (.int .i64 (nth zs (k * 4 + 2))) := (hb.cell (by exact hbB)).trans (by have := hc (k * 4 + 2) (by omega); rwa [← Nat.add_assoc] at this)
      have cy2 : wr.cell? ⟨b', off' + k * 4 + 2, none⟩ = some (.int .i64 (nth zs (k * 4 + 2))) := (hb.cell (by exact hbB')).trans (by have := hc' (k * 4 + 2) (by omega); rwa [← Nat.add_assoc] at this)
      have cx3 : wr.cell? ⟨b, off + k * 4 + 3, none⟩ = some (.int .i64 (nth zs (k * 4 + 3))) := (hb.cell (by exact hbB)).trans (by have := hc (k * 4 + 3) (by omega); rwa [← Nat.add_assoc] at this)
      have cy3 : wr.cell? ⟨b', off' + k * 4 + 3, none⟩ = some (.int .i64 (nth zs (k * 4 + 3))) := (hb.cell (by exact hbB')).trans (by have := hc' (k * 4 + 3) (by omega); rwa [← Nat.add_assoc] at this)
      generalize nth zs (k * 4) = u0 at *
      generalize nth zs (k * 4 + 1) = u1 at *
      generalize nth zs (k * 4 + 2) = u2 at *
      generalize nth zs (k * 4 + 3) = u3 at *
      have ki : (k : Int) < (n : Int) := by omega
      have k0 : (0 : Int) ≤ (k : Int) := by omega
      clear hc hc' hb
      go_wp2
      go_region_held3 (fun w' => w'.cell? ⟨b, off + k * 4, none⟩ = some (.int .i64 u0) ∧ w'.cell? ⟨b, off + k * 4 + 1, none⟩ = some (.int .i64 u1) ∧ w'.cell? ⟨b, off + k * 4 + 2, none⟩ = some (.int .i64 u2) ∧ w'.cell? ⟨b, off + k * 4 + 3, none⟩ = some (.int .i64 u3) ∧ w'.cell? ⟨b', off' + k * 4, none⟩ = some (.int .i64 u0) ∧ w'.cell? ⟨b', off' + k * 4 + 1, none⟩ = some (.int .i64 u1) ∧ w'.cell? ⟨b', off' + k * 4 + 2, none⟩ = some (.int .i64 u2) ∧ w'.cell? ⟨b', off' + k * 4 + 3, none⟩ = some (.int .i64 u3)) (first | (go_keep; done) | (refine ⟨?_, ?_, ?_, ?_, ?_, ?_, ?_, ?_⟩ <;> (rw [hcc _ _ (by simp <;> omega)]; go_keep))) ((go_at_call 125; refine (eqJoint_same _ _ _ _ _).mono ?_; rintro e w1 ⟨rfl, hb1⟩; obtain ⟨hcc, hff⟩ := bcell hb1))
      have HB1 := Lib.hid (HB.out.drew.trans (hb1.mono (by have := HB.out.size; simp; omega)))
      clear hcc hff hb1
      go_wp2
      go_roundw
      case rel => exact ⟨k + 1, by omega, by go_num, HB1.out⟩
      case measure => simp [intOf]; omega
    · have hkn : k = n := by omega
      subst hkn
      clear hb
      go_wp2
      go_ret
      exact ⟨rfl, HB.out⟩
end Go.Proofs.YtbpnbhemdbgmjaaGreat.X
end
section
namespace Go.Proofs.YtbpnbhemdbgmjaaGreat.X
open Go.RowKit
theorem toArch_any (A : Option Addr) (n c : Nat) (zs : List Int) (w : World) (h : RecsAt w w.heap.size 4 A n zs) (hn : n ≤ 1048576) :
    Calls Tryzx.prog 28 #[.agg #[.slice A n c]] w fun e w' => ∃ g, e = .returned (.agg #[.slice (some ⟨g, 0, none⟩) n n]) ∧ w.heap.size ≤ g ∧ w'.rowIs g 45 (n * 4) (ints zs) ∧ Below w.heap.size w w' := by
  have H3 : RecsAt (((w.alloc (.cells #[.slice A n c] 49)).alloc (.cells #[.slice none 0 0] 26)).alloc (.cells #[.slice none 0 0] 26)) (((w.alloc (.cells #[.slice A n c] 49)).alloc (.cells #[.slice none 0 0] 26)).alloc (.cells #[.slice none 0 0] 26)).heap.size 4 A n zs :=
    (((h.alloc (Nat.le_refl _) _).alloc (by simp) _).alloc (by simp; omega) _).mono (by simp; omega)
  go_enter Tryzx.func28, Tryz.ntmps28
  go_wp2_with fail
  refine (toJointS_any _ _ _ zs _ H3 hn).mono ?_
  rintro e w1 ⟨rfl, r1, hb1⟩
  have rr : RowF w1 (w.heap.size + 1) 26 1 (fun _ => .slice none 0 0) := by
    have h := ((RowF.of_row (World.rowIs_alloc (w.alloc (.cells #[.slice A n c] 49)) #[.slice none 0 0] 26 (fun _ => .slice none 0 0) (fun j hj => by simp at hj; subst hj; rfl))).alloc (.cells #[.slice none 0 0] 26)).after hb1
    simpa using h
  have ro : RowF w1 (w.heap.size + 1 + 1) 26 1 (fun _ => .slice none 0 0) := by
    have h := (RowF.of_row (World.rowIs_alloc ((w.alloc (.cells #[.slice A n c] 49)).alloc (.cells #[.slice none 0 0] 26)) #[.slice none 0 0] 26 (fun _ => .slice none 0 0) (fun j hj => by simp at hj; subst hj; rfl))).after hb1
    simpa using h
  have e1 := rr.cell (i := 0) (by omega)
  have e2 := ro.cell (i := 0) (by omega)
  have f1 := rr.frozen 0
  have f2 := ro.frozen 0
  have HB1 := Lib.hid (((((Below.refl _ w).alloc (Nat.le_refl _) _).alloc (by simp) _).alloc (by simp; omega) _).trans (hb1.mono (by simp; omega)))
  have HR := Lib.hid r1
  clear r1 hb1 rr ro H3
  go_wp2
  refine bodyPost_ret (v := .agg #[.slice (some ⟨w.heap.size + 1 + 1 + 1, 0, none⟩) n n]) (by simp [results, Tryz.results28, go_sem, *]) rfl ⟨w.heap.size + 1 + 1 + 1, rfl, by omega, ?_, ?_⟩
  · have h := HR.out
    simp at h
    exact (h.of_block (Below.heap_setCell _ _ _ _ (by simp <;> omega))).of_block (Below.heap_setCell _ _ _ _ (by simp <;> omega))
  · exact (HB1.out.setCell (p := ⟨w.heap.size + 1 + 1, 0, none⟩) (by simp; omega) _).setCell (p := ⟨w.heap.size + 1, 0, none⟩) (by simp) _
theorem szArch_ok (A : Option Addr) (n c : Nat) (l : Int) (w : World) (h0 : 0 ≤ l) (h1 : l ≤ 1048576) (hn : n ≤ 9223372036854775807) (h : (n : Int) ≤ l) : Calls Tryzx.prog 26 #[.agg #[.slice A n c], .int .i64 l] w fun e w' => e = .returned (.int .i64 (l - n)) ∧ Below w.heap.size w w' := by
  have ht : ¬ l - (n : Int) < 0 := by omega
  go_enter Tryzx.func26, Tryz.ntmps26
  go_wp2_with (go_at_call 79; refine (szJointS_ok _ _ _ _ _ h0 h1 hn h).mono ?_; rintro e w' ⟨rfl, rfl⟩)
  go_ret
  exact ⟨rfl, (Below.refl _ _).alloc (Nat.le_refl _) _⟩
theorem szArch_no (A : Option Addr) (n c : Nat) (l : Int) (w : World) (h0 : 0 ≤ l) (h1 : l ≤ 1048576) (hn : n ≤ 9223372036854775807) (h : l < (n : Int)) : Calls Tryzx.prog 26 #[.agg #[.slice A n c], .int .i64 l] w fun e w' => e = .returned (.int .i64 (-1)) ∧ Below w.heap.size w w' := by
  go_enter Tryzx.func26, Tryz.ntmps26
  go_wp2_with (go_at_call 79; refine (szJointS_no _ _ _ _ _ h0 h1 hn h).mono ?_; rintro e w' ⟨rfl, rfl⟩)
  go_ret
  exact ⟨rfl, (Below.refl _ _).alloc (Nat.le_refl _) _⟩
theorem eqArch_same (A A' : Option Addr) (n c c' : Nat) (zs : List Int) (w : World) (hx : RecsAt w w.heap.size 4 A n zs) (hy : RecsAt w w.heap.size 4 A' n zs) (hn : n ≤ 1048576) :
    Calls Tryzx.prog 30 #[.agg #[.slice A n c], .agg #[.slice A' n c']] w fun e w' => e = .returned (.bool true) ∧ Below w.heap.size w w' := by
  have hx2 := ((hx.alloc (Nat.le_refl _) (.cells #[.slice A n c] 26)).alloc (by simp) (.cells #[.slice A' n c'] 26)).mono (B' := ((w.alloc (.cells #[.slice A n c] 26)).alloc (.cells #[.slice A' n c'] 26)).heap.size) (by simp; omega)
  have hy2 := ((hy.alloc (Nat.le_refl _) (.cells #[.slice A n c] 26)).alloc (by simp) (.cells #[.slice A' n c'] 26)).mono (B' := ((w.alloc (.cells #[.slice A n c] 26)).alloc (.cells #[.slice A' n c'] 26)).heap.size) (by simp; omega)
  go_enter Tryzx.func30, Tryz.ntmps30
  go_wp2_with fail
  refine (eqJointS_same _ _ _ _ _ zs _ hx2 hy2 hn).mono ?_
  rintro e w1 ⟨rfl, hb1⟩
  go_wp2
  go_ret
  exact ⟨rfl, (((Below.refl _ w).alloc (Nat.le_refl _) _).alloc (by simp) _).trans (hb1.mono (by simp; omega))⟩
end Go.Proofs.YtbpnbhemdbgmjaaGreat.X
end
section
namespace Go.Proofs.YtbpnbhemdbgmjaaGreat.X
open Go.RowKit
set_option linter.unusedVariables false
set_option maxRecDepth 100000 in
set_option maxHeartbeats 1600000 in
theorem fnExactIsFreeStanding.walk (A0 : Option Addr) (n0 c0 : Nat) (z0 : List Int) (hm0 : n0 ≤ maxLen) (w : World) (a0_ : RecsAt w w.heap.size 4 A0 n0 z0) :
    Calls Tryzx.prog 4 #[.agg #[.slice A0 n0 c0]] w fun e w' => e = .returned (.bool true) ∧ Below w.heap.size w w' := by
  have hm0' : n0 ≤ 9223372036854775807 := by unfold maxLen at hm0; omega
  have b_0 : Below w.heap.size w w := Below.refl _ _
  have a0_0 := a0_
  have hb_1 : Below w.heap.size w (w.alloc (.cells #[.slice A0 n0 c0] 49)) := (Below.refl _ _).alloc (Nat.le_refl _) _
  have b_1 := below_then b_0 hb_1
  clear b_0
  have a0_1 := a0_0.after hb_1
  clear a0_0
  clear hb_1
  have bx0_1 : Box (w.alloc (.cells #[.slice A0 n0 c0] 49)) w.heap.size (.slice A0 n0 c0) := Box.new _ _ _
  go_enter Tryzx.func4, Tryz.ntmps4
  go_wp2_with fail
  refine (sz1_any (n := n0) (by omega) (fun h => szArch_ok A0 n0 c0 _ _ (by omega) (by omega) hm0' h) (fun h => szArch_no A0 n0 c0 _ _ (by omega) (by omega) hm0' h)).mono ?_
  rintro e w2 ⟨r2, rfl, hb_2, hr2⟩
  have b_2 := below_then b_1 hb_2
  clear b_1
  have a0_2 := a0_1.after hb_2
  clear a0_1
  have bx0_2 := bx0_1.after hb_2
  clear bx0_1
  have cbx0_2 := bx0_2.1
  clear hb_2
  rcases hr2 with rfl | hr2
  · go_wp2
    go_ret
    exact ⟨rfl, b_2⟩
  obtain ⟨hr2a, hr2b, hr2c⟩ := hr2
  have hn0 : n0 ≤ 1048576 := by omega
  have ht0 : ¬ r2 < 0 := by omega
  go_wp2_with fail
  refine (toArch_any A0 n0 c0 z0 _ a0_2 hn0).mono ?_
  rintro e w3 ⟨g3, rfl, _, r_3, hb_3⟩
  have b_3 := below_then b_2 hb_3
  clear b_2
  have a0_3 := a0_2.after hb_3
  clear a0_2
  have bx0_3 := bx0_2.after hb_3
  clear bx0_2
  have cbx0_3 := bx0_3.1
  clear cbx0_2
  have s0_3 := recsAt_row r_3 a0_.1 (fun k _ => rfl)
  clear r_3 hb_3
  go_wp2_with fail
  refine (sFree_any _ _ _ z0 _ s0_3 hn0).mono ?_
  rintro e w4 ⟨rfl, hb_4⟩
  have b_4 := below_then b_3 hb_4
  clear b_3
  have a0_4 := a0_3.after hb_4
  clear a0_3
  have bx0_4 := bx0_3.after hb_4
  clear bx0_3
  have s0_4 := s0_3.after hb_4
  clear s0_3
  have cbx0_4 := bx0_4.1
  clear cbx0_3
  clear hb_4
  clear s0_4
  go_wp2_with fail
  refine (toArch_any A0 n0 c0 z0 _ a0_4 hn0).mono ?_
  rintro e w5 ⟨g5, rfl, _, r_5, hb_5⟩
  have b_5 := below_then b_4 hb_5
  clear b_4
  have a0_5 := a0_4.after hb_5
  clear a0_4
  have bx0_5 := bx0_4.after hb_5
  clear bx0_4
  have cbx0_5 := bx0_5.1
  clear cbx0_4
  have s0_5 := recsAt_row r_5 a0_.1 (fun k _ => rfl)
  clear r_5 hb_5
  have hb_6 : Below w5.heap.size w5 (w5.alloc (.cells #[.slice (some ⟨g5, 0, none⟩) n0 n0] 26)) := (Below.refl _ _).alloc (Nat.le_refl _) _
  have b_6 := below_then b_5 hb_6
  clear b_5
  have a0_6 := a0_5.after hb_6
  clear a0_5
  have bx0_6 := bx0_5.after hb_6
  clear bx0_5
  have s0_6 := s0_5.after hb_6
  clear s0_5
  have cbx0_6 := bx0_6.1
  clear cbx0_5
  clear hb_6
  have by0_6 : Box (w5.alloc (.cells #[.slice (some ⟨g5, 0, none⟩) n0 n0] 26)) w5.heap.size (.slice (some ⟨g5, 0, none⟩) n0 n0) := Box.new _ _ _
  have cby0_6 := by0_6.1
  go_wp2_with fail
  refine (iFree_any _ _ _ z0 _ s0_6 hn0).mono ?_
  rintro e w7 ⟨rfl, hb_7⟩
  have b_7 := below_then b_6 hb_7
  clear b_6
  have a0_7 := a0_6.after hb_7
  clear a0_6
  have bx0_7 := bx0_6.after hb_7
  clear bx0_6
  have s0_7 := s0_6.after hb_7
  clear s0_6
  have by0_7 := by0_6.after hb_7
  clear by0_6
  have cbx0_7 := bx0_7.1
  clear cbx0_6
  have cby0_7 := by0_7.1
  clear cby0_6
  clear hb_7
  go_wp2_with fail
  go_region_held3 (fun w' => w'.cell? ⟨w5.heap.size, 0, none⟩ = some (.slice (some ⟨g5, 0, none⟩) n0 n0) ∧ w'.cell? ⟨w.heap.size, 0, none⟩ = some (.slice A0 n0 c0)) (first | exact ⟨cby0_7, cbx0_7⟩ | exact ⟨dy0_1, dx0_1⟩ | exact ⟨dy0_2, dx0_2⟩) ((first | (go_at_call 28; refine (toArch_any A0 n0 c0 z0 _ (by exact a0_7) hn0).mono ?_; rintro e w8 ⟨g8, rfl, _, r_8, hbx8⟩; have hb_8 := below_undrew hbx8; have e0_1 := s0_7.after hb_8; have v0_1 := recsAt_row r_8 a0_.1 (fun k _ => rfl); have dy0_1 := (by0_7.after hb_8).1; have dx0_1 := (bx0_7.after hb_8).1) | (go_at_call 30; refine (eqArch_same _ _ _ _ _ z0 _ (by exact e0_1) (by exact v0_1) hn0).mono ?_; rintro e w9 ⟨rfl, hb_9⟩; have dy0_2 := ((by0_7.after hb_8).after hb_9).1; have dx0_2 := ((bx0_7.after hb_8).after hb_9).1)))
  have b_8 := below_then b_7 hb_8
  clear b_7
  have a0_8 := a0_7.after hb_8
  clear a0_7
  have bx0_8 := bx0_7.after hb_8
  clear bx0_7
  have s0_8 := s0_7.after hb_8
  clear s0_7
  have by0_8 := by0_7.after hb_8
  clear by0_7
  have cbx0_8 := bx0_8.1
  clear cbx0_7
  have cby0_8 := by0_8.1
  clear cby0_7
  have b_9 := below_then b_8 hb_9
  clear b_8
  have a0_9 := a0_8.after hb_9
  clear a0_8
  have bx0_9 := bx0_8.after hb_9
  clear bx0_8
  have s0_9 := s0_8.after hb_9
  clear s0_8
  have by0_9 := by0_8.after hb_9
  clear by0_8
  have cbx0_9 := bx0_9.1
  clear cbx0_8
  have cby0_9 := by0_9.1
  clear cby0_8
  clear hb_8 hb_9
  go_wp2
  go_ret
  exact ⟨rfl, b_9⟩
end Go.Proofs.YtbpnbhemdbgmjaaGreat.X
end
