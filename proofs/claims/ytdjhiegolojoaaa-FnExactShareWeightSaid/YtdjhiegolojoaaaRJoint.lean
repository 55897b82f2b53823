/-
  Contracts of the laws' helpers for records 'Joint'.
-/
import Derived.Test.YtdjhiegolojoaaaProg
import Derived.Test.YtdjhiegolojoaaaRPoint
import Derived.Test.YtdjhiegolojoaaaRow
import Derived.Deep.RegionHeld3
import Derived.Outline
namespace Go.Proofs.Ytdjhiegolojoaaa
open Go.RowKit

theorem infoJoint : (Try.prog.info? 67).map (fun i => (i.zero, i.size, i.bytes)) = some (some (.agg #[.int .i64 0, .int .i64 0, .int .i64 0, .int .i64 0]), 4, 32) := by kernel_rfl

set_option maxHeartbeats 400000 in
theorem toJoint_any (x0 x1 x2 x3 : Int) (w : World) : Calls Try.prog 97 #[.agg #[.int .i64 x0, .int .i64 x1, .int .i64 x2, .int .i64 x3]] w fun e w' => e = .returned (.agg #[.int .i64 x0, .int .i64 x1, .int .i64 x2, .int .i64 x3]) ∧ Below w.heap.size w w' := by
  go_enter Try.func97, Try.ntmps97
  go_wp2_with fail
  refine (toPoint_any _ _ _).mono ?_
  rintro e w1 ⟨rfl, hb1⟩
  have hz1 := hb1.size
  simp at hz1
  have ra : RowF w1 w.heap.size 154 4 (ints [x0, x1, x2, x3]) := (((RowF.of_row (World.rowIs_alloc w #[.int .i64 x0, .int .i64 x1, .int .i64 x2, .int .i64 x3] _ _ (fun j hj => by simp at hj; match j, hj with | 0, _ => rfl | 1, _ => rfl | 2, _ => rfl | 3, _ => rfl))).alloc _).alloc _).after hb1
  have rr : RowF w1 (w.heap.size + 1) 67 4 (ints [0, 0, 0, 0]) := by
    have h := ((RowF.of_row (World.rowIs_alloc (w.alloc (.cells #[.int .i64 x0, .int .i64 x1, .int .i64 x2, .int .i64 x3] 154)) #[.int .i64 0, .int .i64 0, .int .i64 0, .int .i64 0] 67 (ints [0, 0, 0, 0]) (fun j hj => by simp at hj; match j, hj with | 0, _ => rfl | 1, _ => rfl | 2, _ => rfl | 3, _ => rfl))).alloc (.cells #[.int .i64 0, .int .i64 0, .int .i64 0, .int .i64 0] 67)).after hb1
    simpa using h
  have ro : RowF w1 (w.heap.size + 1 + 1) 67 4 (ints [0, 0, 0, 0]) := by
    have h := (RowF.of_row (World.rowIs_alloc ((w.alloc (.cells #[.int .i64 x0, .int .i64 x1, .int .i64 x2, .int .i64 x3] 154)).alloc (.cells #[.int .i64 0, .int .i64 0, .int .i64 0, .int .i64 0] 67)) #[.int .i64 0, .int .i64 0, .int .i64 0, .int .i64 0] 67 (ints [0, 0, 0, 0]) (fun j hj => by simp at hj; match j, hj with | 0, _ => rfl | 1, _ => rfl | 2, _ => rfl | 3, _ => rfl))).after hb1
    simpa using h
  have a2 : w1.cell? ⟨w.heap.size, 2, none⟩ = some (.int .i64 x2) := ra.cell (by omega)
  have a3 : w1.cell? ⟨w.heap.size, 3, none⟩ = some (.int .i64 x3) := ra.cell (by omega)
  have o0 : w1.cell? ⟨w.heap.size + 1 + 1, 0, none⟩ = some (.int .i64 0) := ro.cell (by omega)
  have o1 : w1.cell? ⟨w.heap.size + 1 + 1, 1, none⟩ = some (.int .i64 0) := ro.cell (by omega)
  have f0 := ro.frozen 0
  have f1 := ro.frozen 1
  have HB1 := Lib.hid ((((Below.refl _ w).alloc (Nat.le_refl _) _).alloc (by simp) _).alloc (by simp; omega) _ |>.trans (hb1.mono (by simp; omega)))
  have ro2 := (ro.set 0 (.int .i64 x0)).set 1 (.int .i64 x1)
  have rr2 : RowF ((w1.setCell ⟨w.heap.size + 1 + 1, 0, none⟩ (.int .i64 x0)).setCell ⟨w.heap.size + 1 + 1, 1, none⟩ (.int .i64 x1)) (w.heap.size + 1) 67 4 (ints [0, 0, 0, 0]) := (rr.set_other (by simp) _).set_other (by simp) _
  clear hb1
  go_wp2_with fail
  refine (toPoint_any _ _ _).mono ?_
  rintro e w2 ⟨rfl, hb2⟩
  have hz2 := hb2.size
  simp at hz2
  have s := ro2.after hb2
  have r := rr2.after hb2
  have HB2 := Lib.hid (((HB1.out.setCell (p := ⟨w.heap.size + 1 + 1, 0, none⟩) (by simp; omega) _).setCell (p := ⟨w.heap.size + 1 + 1, 1, none⟩) (by simp; omega) _).trans (hb2.mono (by simp; omega)))
  have s0 : w2.cell? ⟨w.heap.size + 1 + 1, 0, none⟩ = some (.int .i64 x0) := s.cell (by omega)
  have s1 : w2.cell? ⟨w.heap.size + 1 + 1, 1, none⟩ = some (.int .i64 x1) := s.cell (by omega)
  have s2 : w2.cell? ⟨w.heap.size + 1 + 1, 2, none⟩ = some (.int .i64 0) := s.cell (by omega)
  have s3 : w2.cell? ⟨w.heap.size + 1 + 1, 3, none⟩ = some (.int .i64 0) := s.cell (by omega)
  have g2 := s.frozen 2
  have g3 := s.frozen 3
  have r0 : w2.cell? ⟨w.heap.size + 1, 0, none⟩ = some (.int .i64 0) := r.cell (by omega)
  have r1 : w2.cell? ⟨w.heap.size + 1, 1, none⟩ = some (.int .i64 0) := r.cell (by omega)
  have r2 : w2.cell? ⟨w.heap.size + 1, 2, none⟩ = some (.int .i64 0) := r.cell (by omega)
  have r3 : w2.cell? ⟨w.heap.size + 1, 3, none⟩ = some (.int .i64 0) := r.cell (by omega)
  have k0 := r.frozen 0
  have k1 := r.frozen 1
  have k2 := r.frozen 2
  have k3 := r.frozen 3
  clear hb2 ro2 rr2 s r ra rr ro a2 a3 o0 o1 f0 f1
  go_wp2
  refine bodyPost_ret (v := .agg #[.int .i64 x0, .int .i64 x1, .int .i64 x2, .int .i64 x3]) (by simp [results, Try.results97, go_sem, *]) rfl ⟨rfl, ?_⟩
  exact (((((HB2.out.setCell (p := ⟨w.heap.size + 1 + 1, 2, none⟩) (by simp; omega) _).setCell (p := ⟨w.heap.size + 1 + 1, 3, none⟩) (by simp; omega) _).setCell (p := ⟨w.heap.size + 1, 0, none⟩) (by simp) _).setCell (p := ⟨w.heap.size + 1, 1, none⟩) (by simp) _).setCell (p := ⟨w.heap.size + 1, 2, none⟩) (by simp) _).setCell (p := ⟨w.heap.size + 1, 3, none⟩) (by simp) _

set_option maxHeartbeats 800000 in
theorem toJointS_any (A : Option Addr) (n c : Nat) (zs : List Int) (w : World) (h : RecsAt w w.heap.size 4 A n zs) (hn : n ≤ 1048576) :
    Calls Try.prog 77 #[.slice A n c] w fun e w' => e = .returned (.slice (some ⟨w.heap.size, 0, none⟩) n n) ∧ w'.rowIs w.heap.size 67 (n * 4) (ints zs) ∧ Below w.heap.size w w' := by
  have H := Lib.hid h
  clear h
  have hmk := fun W => run_make_recs (P := Try.prog) 39 67 4 32 #[.int .i64 0, .int .i64 0, .int .i64 0, .int .i64 0] Try.underlying39 infoJoint n (by omega) hn W
  go_enter Try.func77, Try.ntmps77
  go_wp2
  clear hmk
  go_loopw [4] (fun i wr => ∃ k : Nat, k ≤ n ∧ i = .int .i64 k ∧ wr.rowIs w.heap.size 67 (n * 4) (fill zs (k * 4)) ∧ Below w.heap.size w wr) (fun i _ => n - (intOf i).toNat)
  case atStart => exact ⟨0, Nat.zero_le _, rfl, by rw [Nat.zero_mul]; exact rowIs_made0 w _ _ _ (fun j hj => by simp at hj; match j, hj with | 0, _ => rfl | 1, _ => rfl | 2, _ => rfl | 3, _ => rfl) (by simp) zs, (Below.refl _ _).alloc (Nat.le_refl _) _⟩
  case round =>
    obtain ⟨k, hk, rfl, hrow, hb⟩ := hrel
    by_cases hlt : k < n
    · obtain ⟨b, off, rfl, hbB, hc⟩ := H.out.2 (by omega)
      have hgl := hrow.lt
      have hx0 : wr.cell? ⟨b, off + k * 4, none⟩ = some (.int .i64 (nth zs (k * 4))) := (hb.cell (by exact hbB)).trans (hc (k * 4) (by omega))
      have hx1 : wr.cell? ⟨b, off + k * 4 + 1, none⟩ = some (.int .i64 (nth zs (k * 4 + 1))) := (hb.cell (by exact hbB)).trans (by have := hc (k * 4 + 1) (by omega); rwa [← Nat.add_assoc] at this)
      have hx2 : wr.cell? ⟨b, off + k * 4 + 2, none⟩ = some (.int .i64 (nth zs (k * 4 + 2))) := (hb.cell (by exact hbB)).trans (by have := hc (k * 4 + 2) (by omega); rwa [← Nat.add_assoc] at this)
      have hx3 : wr.cell? ⟨b, off + k * 4 + 3, none⟩ = some (.int .i64 (nth zs (k * 4 + 3))) := (hb.cell (by exact hbB)).trans (by have := hc (k * 4 + 3) (by omega); rwa [← Nat.add_assoc] at this)
      have HR := Lib.hid hrow
      have HB := Lib.hid hb
      clear hrow hb hc
      go_wp2_with fail
      refine (toJoint_any _ _ _ _ _).mono ?_
      rintro e w1 ⟨rfl, hb1⟩
      have HR1 := Lib.hid (below_row hb1 HR.out hgl)
      have HB1 := Lib.hid (HB.out.trans (hb1.mono HB.out.size))
      clear hb1
      have hy0 : w1.cell? ⟨w.heap.size, k * 4, none⟩ = some (.int .i64 0) := by rw [HR1.out.cell (by omega), fill_at zs (by omega)]
      have hf0 : w1.frozen? ⟨w.heap.size, k * 4, none⟩ = false := HR1.out.frozen _
      have hy1 : w1.cell? ⟨w.heap.size, k * 4 + 1, none⟩ = some (.int .i64 0) := by rw [HR1.out.cell (by omega), fill_at zs (by omega)]
      have hf1 : w1.frozen? ⟨w.heap.size, k * 4 + 1, none⟩ = false := HR1.out.frozen _
      have hy2 : w1.cell? ⟨w.heap.size, k * 4 + 2, none⟩ = some (.int .i64 0) := by rw [HR1.out.cell (by omega), fill_at zs (by omega)]
      have hf2 : w1.frozen? ⟨w.heap.size, k * 4 + 2, none⟩ = false := HR1.out.frozen _
      have hy3 : w1.cell? ⟨w.heap.size, k * 4 + 3, none⟩ = some (.int .i64 0) := by rw [HR1.out.cell (by omega), fill_at zs (by omega)]
      have hf3 : w1.frozen? ⟨w.heap.size, k * 4 + 3, none⟩ = false := HR1.out.frozen _
      go_wp2
      go_roundw
      case rel => exact ⟨k + 1, by omega, by go_num, by rw [Nat.add_mul, Nat.one_mul]; exact World.rowIs.congr (World.rowIs.set (World.rowIs.set (World.rowIs.set (World.rowIs.set HR1.out (k * 4) _) (k * 4 + 1) _) (k * 4 + 2) _) (k * 4 + 3) _) (fun j _ => fill_step4 zs (k * 4) j), ((((HB1.out.setCell (Nat.le_refl _) _).setCell (Nat.le_refl _) _).setCell (Nat.le_refl _) _).setCell (Nat.le_refl _) _)⟩
      case measure => simp [intOf]; omega
    · have hkn : k = n := by omega
      subst hkn
      have HR := Lib.hid hrow
      have HB := Lib.hid hb
      clear hrow hb
      go_wp2
      go_ret
      exact ⟨rfl, HR.out.congr (fun j hj => fill_end zs hj), HB.out⟩

theorem szJointS_ok (A : Option Addr) (n c : Nat) (l : Int) (w : World) (h0 : 0 ≤ l) (h1 : l ≤ 1048576) (hn : n ≤ 9223372036854775807) (h : (n : Int) ≤ l) : Calls Try.prog 75 #[.slice A n c, .int .i64 l] w fun e w' => e = .returned (.int .i64 (l - n)) ∧ w = w' := by
  have ht : ¬ l - (n : Int) < 0 := by omega
  go_enter Try.func75, Try.ntmps75
  go_wp2
  go_ret
  exact ⟨rfl, rfl⟩
theorem szJointS_no (A : Option Addr) (n c : Nat) (l : Int) (w : World) (h0 : 0 ≤ l) (h1 : l ≤ 1048576) (hn : n ≤ 9223372036854775807) (h : l < (n : Int)) : Calls Try.prog 75 #[.slice A n c, .int .i64 l] w fun e w' => e = .returned (.int .i64 (-1)) ∧ w = w' := by
  have ht : l - (n : Int) < 0 := by omega
  go_enter Try.func75, Try.ntmps75
  go_wp2
  go_ret
  exact ⟨rfl, rfl⟩

set_option maxHeartbeats 400000 in
theorem eqJoint_same (x0 x1 x2 x3 : Int) (w : World) : Calls Try.prog 99 #[.agg #[.int .i64 x0, .int .i64 x1, .int .i64 x2, .int .i64 x3], .agg #[.int .i64 x0, .int .i64 x1, .int .i64 x2, .int .i64 x3]] w fun e w' => e = .returned (.bool true) ∧ Below w.heap.size w w' := by
  have t0 : (x0 != x0) = false := by simp
  have t1 : (x1 != x1) = false := by simp
  have t2 : (x2 != x2) = false := by simp
  have t3 : (x3 != x3) = false := by simp
  go_enter Try.func99, Try.ntmps99
  go_wp2
  go_ret
  exact ⟨rfl, ((((((Below.refl _ _).alloc (Nat.le_refl _) _).alloc (by simp) _).alloc (by simp; omega) _).alloc (by simp; omega) _).alloc (by simp; omega) _).alloc (by simp; omega) _⟩

set_option maxHeartbeats 800000 in
theorem eqJointS_same (A A' : Option Addr) (n c c' : Nat) (zs : List Int) (w : World) (hx : RecsAt w w.heap.size 4 A n zs) (hy : RecsAt w w.heap.size 4 A' n zs) (hn : n ≤ 1048576) :
    Calls Try.prog 82 #[.slice A n c, .slice A' n c'] w fun e w' => e = .returned (.bool true) ∧ Below w.heap.size w w' := by
  have HX := Lib.hid hx
  have HY := Lib.hid hy
  clear hx hy
  have ht : ((n : Int) != (n : Int)) = false := by simp
  go_enter Try.func82, Try.ntmps82
  go_wp2
  go_loopw [5] (fun i wr => ∃ k : Nat, k ≤ n ∧ i = .int .i64 k ∧ Below w.heap.size w wr) (fun i _ => n - (intOf i).toNat)
  case atStart => exact ⟨0, Nat.zero_le _, rfl, Below.refl _ _⟩
  case round =>
    obtain ⟨k, hk, rfl, hb⟩ := hrel
    have HB := Lib.hid hb
    by_cases hlt : k < n
    · obtain ⟨b, off, rfl, hbB, hc⟩ := HX.out.2 (by omega)
      obtain ⟨b', off', rfl, hbB', hc'⟩ := HY.out.2 (by omega)
      have hz := hb.size
      have cx0 : wr.cell? ⟨b, off + k * 4, none⟩ = some (.int .i64 (nth zs (k * 4))) := (hb.cell (by exact hbB)).trans (hc (k * 4) (by omega))
      have cy0 : wr.cell? ⟨b', off' + k * 4, none⟩ = some (.int .i64 (nth zs (k * 4))) := (hb.cell (by exact hbB')).trans (hc' (k * 4) (by omega))
      have cx1 : wr.cell? ⟨b, off + k * 4 + 1, none⟩ = some (.int .i64 (nth zs (k * 4 + 1))) := (hb.cell (by exact hbB)).trans (by have := hc (k * 4 + 1) (by omega); rwa [← Nat.add_assoc] at this)
      have cy1 : wr.cell? ⟨b', off' + k * 4 + 1, none⟩ = some (.int .i64 (nth zs (k * 4 + 1))) := (hb.cell (by exact hbB')).trans (by have := hc' (k * 4 + 1) (by omega); rwa [← Nat.add_assoc] at this)
      have cx2 : wr.cell? ⟨b, off + k * 4 + 2, none⟩ = some (.int .i64 (nth zs (k * 4 + 2))) := (hb.cell (by exact hbB)).trans (by have := hc (k * 4 + 2) (by omega); rwa [← Nat.add_assoc] at this)
      have cy2 : wr.cell? ⟨b', off' + k * 4 + 2, none⟩ = some (.int .i64 (nth zs (k * 4 + 2))) := (hb.cell (by exact hbB')).trans (by have := hc' (k * 4 + 2) (by omega); rwa [← Nat.add_assoc] at this)
      have cx3 : wr.cell? ⟨b, off + k * 4 + 3, none⟩ = some (.int .i64 (nth zs (k * 4 + 3))) := (hb.cell (by exact hbB)).trans (by have := hc (k * 4 + 3) (by omega); rwa [← Nat.add_assoc] at this)
      have cy3 : wr.cell? ⟨b', off' + k * 4 + 3, none⟩ = some (.int .i64 (nth zs (k * 4 + 3))) := (hb.cell (by exact hbB')).trans (by have := hc' (k * 4 + 3) (by omega); rwa [← Nat.add_assoc] at this)
      generalize nth zs (k * 4) = u0 at *
      generalize nth zs (k * 4 + 1) = u1 at *
      generalize nth zs (k * 4 + 2) = u2 at *
      generalize nth zs (k * 4 + 3) = u3 at *
      have ki : (k : Int) < (n : Int) := by omega
      have k0 : (0 : Int) ≤ (k : Int) := by omega
      clear hc hc' hb
      go_wp2
      go_region_held3 (fun w' => w'.cell? ⟨b, off + k * 4, none⟩ = some (.int .i64 u0) ∧ w'.cell? ⟨b, off + k * 4 + 1, none⟩ = some (.int .i64 u1) ∧ w'.cell? ⟨b, off + k * 4 + 2, none⟩ = some (.int .i64 u2) ∧ w'.cell? ⟨b, off + k * 4 + 3, none⟩ = some (.int .i64 u3) ∧ w'.cell? ⟨b', off' + k * 4, none⟩ = some (.int .i64 u0) ∧ w'.cell? ⟨b', off' + k * 4 + 1, none⟩ = some (.int .i64 u1) ∧ w'.cell? ⟨b', off' + k * 4 + 2, none⟩ = some (.int .i64 u2) ∧ w'.cell? ⟨b', off' + k * 4 + 3, none⟩ = some (.int .i64 u3)) (first | (go_keep; done) | (refine ⟨?_, ?_, ?_, ?_, ?_, ?_, ?_, ?_⟩ <;> (rw [hcc _ _ (by simp <;> omega)]; go_keep))) ((go_at_call 99; refine (eqJoint_same _ _ _ _ _).mono ?_; rintro e w1 ⟨rfl, hb1⟩; obtain ⟨hcc, hff⟩ := bcell hb1))
      have HB1 := Lib.hid (HB.out.drew.trans (hb1.mono (by have := HB.out.size; simp; omega)))
      clear hcc hff hb1
      go_wp2
      go_roundw
      case rel => exact ⟨k + 1, by omega, by go_num, HB1.out⟩
      case measure => simp [intOf]; omega
    · have hkn : k = n := by omega
      subst hkn
      clear hb
      go_wp2
      go_ret
      exact ⟨rfl, HB.out⟩

set_option maxHeartbeats 800000 in
theorem markJointS_any (g n c : Nat) (f : Nat → Value) (k0 : Int) (w : World) (h : w.rowIs g 67 (n * 4) f) (hf : IntRow f) (hn : n ≤ 1048576) (h0 : 0 ≤ k0) (h1 : k0 ≤ 1000000000) :
    Calls Try.prog 59 #[.slice (some ⟨g, 0, none⟩) n c, .int .i64 k0] w fun e w' => e = .returned (.int .i64 (k0 + (n * 4 : Nat))) ∧ w'.rowIs g 67 (n * 4) (marks f k0 (n * 4)) ∧ Only g w w' := by
  have H := Lib.hid h
  have HFI := Lib.hid hf
  clear h hf
  go_enter Try.func59, Try.ntmps59
  go_wp2
  go_loopw [1, 5] (fun m i wr => ∃ k : Nat, k ≤ n ∧ i = .int .i64 k ∧ m = .int .i64 (k0 + (k * 4 : Nat)) ∧ wr.rowIs g 67 (n * 4) (marks f k0 (k * 4)) ∧ Only g w wr) (fun _ i _ => n - (intOf i).toNat)
  case atStart => exact ⟨0, Nat.zero_le _, rfl, by simp, by rw [Nat.zero_mul]; exact H.out.congr (fun j _ => (marks_0 f k0 j).symm), Only.refl _ _⟩
  case round =>
    obtain ⟨k, hk, rfl, rfl, hrow, ho⟩ := hrel
    have HR := Lib.hid hrow
    have HO := Lib.hid ho
    by_cases hlt : k < n
    ·
      obtain ⟨v0, e0⟩ : ∃ z : Int, marks f k0 (k * 4) (k * 4) = .int .i64 z := by
        obtain ⟨z, e⟩ := HFI.out (k * 4)
        exact ⟨z, by rw [marks, if_neg (by omega)]; exact e⟩
      have hc0 : wr.cell? ⟨g, k * 4, none⟩ = some (.int .i64 v0) := by rw [HR.out.cell (by omega), e0]
      have hf0 : wr.frozen? ⟨g, k * 4, none⟩ = false := HR.out.frozen _
      clear e0
      obtain ⟨v1, e1⟩ : ∃ z : Int, marks f k0 (k * 4) (k * 4 + 1) = .int .i64 z := by
        obtain ⟨z, e⟩ := HFI.out (k * 4 + 1)
        exact ⟨z, by rw [marks, if_neg (by omega)]; exact e⟩
      have hc1 : wr.cell? ⟨g, k * 4 + 1, none⟩ = some (.int .i64 v1) := by rw [HR.out.cell (by omega), e1]
      have hf1 : wr.frozen? ⟨g, k * 4 + 1, none⟩ = false := HR.out.frozen _
      clear e1
      obtain ⟨v2, e2⟩ : ∃ z : Int, marks f k0 (k * 4) (k * 4 + 2) = .int .i64 z := by
        obtain ⟨z, e⟩ := HFI.out (k * 4 + 2)
        exact ⟨z, by rw [marks, if_neg (by omega)]; exact e⟩
      have hc2 : wr.cell? ⟨g, k * 4 + 2, none⟩ = some (.int .i64 v2) := by rw [HR.out.cell (by omega), e2]
      have hf2 : wr.frozen? ⟨g, k * 4 + 2, none⟩ = false := HR.out.frozen _
      clear e2
      obtain ⟨v3, e3⟩ : ∃ z : Int, marks f k0 (k * 4) (k * 4 + 3) = .int .i64 z := by
        obtain ⟨z, e⟩ := HFI.out (k * 4 + 3)
        exact ⟨z, by rw [marks, if_neg (by omega)]; exact e⟩
      have hc3 : wr.cell? ⟨g, k * 4 + 3, none⟩ = some (.int .i64 v3) := by rw [HR.out.cell (by omega), e3]
      have hf3 : wr.frozen? ⟨g, k * 4 + 3, none⟩ = false := HR.out.frozen _
      clear e3
      clear hrow ho
      have hkk : (((k * 4 : Nat) : Nat) : Int) ≤ 1073741824 := by omega
      go_wp2
      go_roundw
      case rel =>
        refine ⟨k + 1, by omega, by go_num, by go_num, ?_, ((((HO.out.setCell _ _).setCell _ _).setCell _ _).setCell _ _)⟩
        have hs := (World.rowIs.congr (World.rowIs.set (World.rowIs.congr (World.rowIs.set (World.rowIs.congr (World.rowIs.set (World.rowIs.congr (World.rowIs.set HR.out (k * 4) (.int .i64 (k0 + ((k * 4 : Nat) : Int)))) (fun j _ => marks_step f k0 (k * 4) j)) (k * 4 + 1) (.int .i64 (k0 + ((k * 4 + 1 : Nat) : Int)))) (fun j _ => marks_step f k0 (k * 4 + 1) j)) (k * 4 + 2) (.int .i64 (k0 + ((k * 4 + 2 : Nat) : Int)))) (fun j _ => marks_step f k0 (k * 4 + 2) j)) (k * 4 + 3) (.int .i64 (k0 + ((k * 4 + 3 : Nat) : Int)))) (fun j _ => marks_step f k0 (k * 4 + 3) j))
        rw [Nat.add_mul, Nat.one_mul]
        simpa [Int.add_assoc] using hs
      case measure => simp [intOf]; omega
    · have hkn : k = n := by omega
      subst hkn
      clear hrow ho
      go_wp2
      go_ret
      exact ⟨rfl, HR.out, HO.out⟩

end Go.Proofs.Ytdjhiegolojoaaa
