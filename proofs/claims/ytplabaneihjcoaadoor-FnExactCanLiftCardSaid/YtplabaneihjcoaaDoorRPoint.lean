/-
  Contracts of the laws' helpers for records 'Point'.
-/
import Derived.Test.YtplabaneihjcoaaDoorProg
import Derived.Test.YtplabaneihjcoaaDoorOnly
import Derived.Deep.RegionHeld3
import Derived.Outline
namespace Go.Proofs.YtplabaneihjcoaaDoor
open Go.RowKit

theorem infoPoint : (Tryd.prog.info? 64).map (fun i => (i.zero, i.size, i.bytes)) = some (some (.agg #[.int .i64 0, .int .i64 0]), 2, 16) := by kernel_rfl

set_option maxHeartbeats 400000 in
theorem toPoint_any (x0 x1 : Int) (w : World) : Calls Tryd.prog 41 #[.agg #[.int .i64 x0, .int .i64 x1]] w fun e w' => e = .returned (.agg #[.int .i64 x0, .int .i64 x1]) ∧ Below w.heap.size w w' := by
  go_enter Tryd.func41, Tryd.ntmps41
  go_wp2
  exact bodyPost_ret (v := .agg #[.int .i64 x0, .int .i64 x1]) (by simp [results, Tryd.results41, go_sem]) rfl ⟨rfl, (((Below.refl _ _).alloc (Nat.le_refl _) _).alloc (by simp) _).alloc (by simp; omega) _⟩

set_option maxHeartbeats 800000 in
theorem toPointS_any (A : Option Addr) (n c : Nat) (zs : List Int) (w : World) (h : RecsAt w w.heap.size 2 A n zs) (hn : n ≤ 1048576) :
    Calls Tryd.prog 27 #[.slice A n c] w fun e w' => e = .returned (.slice (some ⟨w.heap.size, 0, none⟩) n n) ∧ w'.rowIs w.heap.size 64 (n * 2) (ints zs) ∧ Below w.heap.size w w' := by
  have H := Lib.hid h
  clear h
  have hmk := fun W => run_make_recs (P := Tryd.prog) 33 64 2 16 #[.int .i64 0, .int .i64 0] Tryd.underlying33 infoPoint n (by omega) hn W
  go_enter Tryd.func27, Tryd.ntmps27
  go_wp2
  clear hmk
  go_loopw [4] (fun i wr => ∃ k : Nat, k ≤ n ∧ i = .int .i64 k ∧ wr.rowIs w.heap.size 64 (n * 2) (fill zs (k * 2)) ∧ Below w.heap.size w wr) (fun i _ => n - (intOf i).toNat)
  case atStart => exact ⟨0, Nat.zero_le _, rfl, by rw [Nat.zero_mul]; exact rowIs_made0 w _ _ _ (fun j hj => by simp at hj; match j, hj with | 0, _ => rfl | 1, _ => rfl) (by simp) zs, (Below.refl _ _).alloc (Nat.le_refl _) _⟩
  case round =>
    obtain ⟨k, hk, rfl, hrow, hb⟩ := hrel
    by_cases hlt : k < n
    · obtain ⟨b, off, rfl, hbB, hc⟩ := H.out.2 (by omega)
      have hgl := hrow.lt
      have hx0 : wr.cell? ⟨b, off + k * 2, none⟩ = some (.int .i64 (nth zs (k * 2))) := (hb.cell (by exact hbB)).trans (hc (k * 2) (by omega))
      have hx1 : wr.cell? ⟨b, off + k * 2 + 1, none⟩ = some (.int .i64 (nth zs (k * 2 + 1))) := (hb.cell (by exact hbB)).trans (by have := hc (k * 2 + 1) (by omega); rwa [← Nat.add_assoc] at this)
      have HR := Lib.hid hrow
      have HB := Lib.hid hb
      clear hrow hb hc
      go_wp2_with fail
      refine (toPoint_any _ _ _).mono ?_
      rintro e w1 ⟨rfl, hb1⟩
      have HR1 := Lib.hid (below_row hb1 HR.out hgl)
      have HB1 := Lib.hid (HB.out.trans (hb1.mono HB.out.size))
      clear hb1
      have hy0 : w1.cell? ⟨w.heap.size, k * 2, none⟩ = some (.int .i64 0) := by rw [HR1.out.cell (by omega), fill_at zs (by omega)]
      have hf0 : w1.frozen? ⟨w.heap.size, k * 2, none⟩ = false := HR1.out.frozen _
      have hy1 : w1.cell? ⟨w.heap.size, k * 2 + 1, none⟩ = some (.int .i64 0) := by rw [HR1.out.cell (by omega), fill_at zs (by omega)]
      have hf1 : w1.frozen? ⟨w.heap.size, k * 2 + 1, none⟩ = false := HR1.out.frozen _
      go_wp2
      go_roundw
      case rel => exact ⟨k + 1, by omega, by go_num, by rw [Nat.add_mul, Nat.one_mul]; exact World.rowIs.congr (World.rowIs.set (World.rowIs.set HR1.out (k * 2) _) (k * 2 + 1) _) (fun j _ => fill_step2 zs (k * 2) j), ((HB1.out.setCell (Nat.le_refl _) _).setCell (Nat.le_refl _) _)⟩
      case measure => simp [intOf]; omega
    · have hkn : k = n := by omega
      subst hkn
      have HR := Lib.hid hrow
      have HB := Lib.hid hb
      clear hrow hb
      go_wp2
      go_ret
      exact ⟨rfl, HR.out.congr (fun j hj => fill_end zs hj), HB.out⟩

theorem szPointS_ok (A : Option Addr) (n c : Nat) (l : Int) (w : World) (h0 : 0 ≤ l) (h1 : l ≤ 1048576) (hn : n ≤ 9223372036854775807) (h : (n : Int) ≤ l) : Calls Tryd.prog 25 #[.slice A n c, .int .i64 l] w fun e w' => e = .returned (.int .i64 (l - n)) ∧ w = w' := by
  have ht : ¬ l - (n : Int) < 0 := by omega
  go_enter Tryd.func25, Tryd.ntmps25
  go_wp2
  go_ret
  exact ⟨rfl, rfl⟩
theorem szPointS_no (A : Option Addr) (n c : Nat) (l : Int) (w : World) (h0 : 0 ≤ l) (h1 : l ≤ 1048576) (hn : n ≤ 9223372036854775807) (h : l < (n : Int)) : Calls Tryd.prog 25 #[.slice A n c, .int .i64 l] w fun e w' => e = .returned (.int .i64 (-1)) ∧ w = w' := by
  have ht : l - (n : Int) < 0 := by omega
  go_enter Tryd.func25, Tryd.ntmps25
  go_wp2
  go_ret
  exact ⟨rfl, rfl⟩

set_option maxHeartbeats 400000 in
theorem eqPoint_same (x0 x1 : Int) (w : World) : Calls Tryd.prog 49 #[.agg #[.int .i64 x0, .int .i64 x1], .agg #[.int .i64 x0, .int .i64 x1]] w fun e w' => e = .returned (.bool true) ∧ Below w.heap.size w w' := by
  have t0 : (x0 != x0) = false := by simp
  have t1 : (x1 != x1) = false := by simp
  go_enter Tryd.func49, Tryd.ntmps49
  go_wp2
  go_ret
  exact ⟨rfl, ((Below.refl _ _).alloc (Nat.le_refl _) _).alloc (by simp) _⟩

set_option maxHeartbeats 800000 in
theorem eqPointS_same (A A' : Option Addr) (n c c' : Nat) (zs : List Int) (w : World) (hx : RecsAt w w.heap.size 2 A n zs) (hy : RecsAt w w.heap.size 2 A' n zs) (hn : n ≤ 1048576) :
    Calls Tryd.prog 31 #[.slice A n c, .slice A' n c'] w fun e w' => e = .returned (.bool true) ∧ Below w.heap.size w w' := by
  have HX := Lib.hid hx
  have HY := Lib.hid hy
  clear hx hy
  have ht : ((n : Int) != (n : Int)) = false := by simp
  go_enter Tryd.func31, Tryd.ntmps31
  go_wp2
  go_loopw [5] (fun i wr => ∃ k : Nat, k ≤ n ∧ i = .int .i64 k ∧ Below w.heap.size w wr) (fun i _ => n - (intOf i).toNat)
  case atStart => exact ⟨0, Nat.zero_le _, rfl, Below.refl _ _⟩
  case round =>
    obtain ⟨k, hk, rfl, hb⟩ := hrel
    have HB := Lib.hid hb
    by_cases hlt : k < n
    · obtain ⟨b, off, rfl, hbB, hc⟩ := HX.out.2 (by omega)
      obtain ⟨b', off', rfl, hbB', hc'⟩ := HY.out.2 (by omega)
      have hz := hb.size
      have cx0 : wr.cell? ⟨b, off + k * 2, none⟩ = some (.int .i64 (nth zs (k * 2))) := (hb.cell (by exact hbB)).trans (hc (k * 2) (by omega))
      have cy0 : wr.cell? ⟨b', off' + k * 2, none⟩ = some (.int .i64 (nth zs (k * 2))) := (hb.cell (by exact hbB')).trans (hc' (k * 2) (by omega))
      have cx1 : wr.cell? ⟨b, off + k * 2 + 1, none⟩ = some (.int .i64 (nth zs (k * 2 + 1))) := (hb.cell (by exact hbB)).trans (by have := hc (k * 2 + 1) (by omega); rwa [← Nat.add_assoc] at this)
      have cy1 : wr.cell? ⟨b', off' + k * 2 + 1, none⟩ = some (.int .i64 (nth zs (k * 2 + 1))) := (hb.cell (by exact hbB')).trans (by have := hc' (k * 2 + 1) (by omega); rwa [← Nat.add_assoc] at this)
      generalize nth zs (k * 2) = u0 at *
      generalize nth zs (k * 2 + 1) = u1 at *
      have ki : (k : Int) < (n : Int) := by omega
      have k0 : (0 : Int) ≤ (k : Int) := by omega
      clear hc hc' hb
      go_wp2
      go_region_held3 (fun w' => w'.cell? ⟨b, off + k * 2, none⟩ = some (.int .i64 u0) ∧ w'.cell? ⟨b, off + k * 2 + 1, none⟩ = some (.int .i64 u1) ∧ w'.cell? ⟨b', off' + k * 2, none⟩ = some (.int .i64 u0) ∧ w'.cell? ⟨b', off' + k * 2 + 1, none⟩ = some (.int .i64 u1)) (first | (go_keep; done) | (refine ⟨?_, ?_, ?_, ?_⟩ <;> (rw [hcc _ _ (by simp <;> omega)]; go_keep))) ((go_at_call 49; refine (eqPoint_same _ _ _).mono ?_; rintro e w1 ⟨rfl, hb1⟩; obtain ⟨hcc, hff⟩ := bcell hb1))
      have HB1 := Lib.hid (HB.out.drew.trans (hb1.mono (by have := HB.out.size; simp; omega)))
      clear hcc hff hb1
      go_wp2
      go_roundw
      case rel => exact ⟨k + 1, by omega, by go_num, HB1.out⟩
      case measure => simp [intOf]; omega
    · have hkn : k = n := by omega
      subst hkn
      clear hb
      go_wp2
      go_ret
      exact ⟨rfl, HB.out⟩


end Go.Proofs.YtplabaneihjcoaaDoor
