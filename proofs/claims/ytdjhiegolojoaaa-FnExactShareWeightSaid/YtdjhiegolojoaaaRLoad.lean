/-
  Contracts of the laws' helpers for records 'Load'.
-/
import Derived.Test.YtdjhiegolojoaaaProg
import Derived.Test.YtdjhiegolojoaaaOnly
import Derived.Deep.RegionHeld3
import Derived.Outline
namespace Go.Proofs.Ytdjhiegolojoaaa
open Go.RowKit

theorem infoLoad : (Try.prog.info? 69).map (fun i => (i.zero, i.size, i.bytes)) = some (some (.agg #[.int .i64 0, .int .i64 0, .int .i64 0]), 3, 24) := by kernel_rfl

set_option maxHeartbeats 400000 in
theorem toLoad_any (x0 x1 x2 : Int) (w : World) : Calls Try.prog 78 #[.agg #[.int .i64 x0, .int .i64 x1, .int .i64 x2]] w fun e w' => e = .returned (.agg #[.int .i64 x0, .int .i64 x1, .int .i64 x2]) ∧ Below w.heap.size w w' := by
  go_enter Try.func78, Try.ntmps78
  go_wp2
  exact bodyPost_ret (v := .agg #[.int .i64 x0, .int .i64 x1, .int .i64 x2]) (by simp [results, Try.results78, go_sem]) rfl ⟨rfl, (((Below.refl _ _).alloc (Nat.le_refl _) _).alloc (by simp) _).alloc (by simp; omega) _⟩

set_option maxHeartbeats 800000 in
theorem toLoadS_any (A : Option Addr) (n c : Nat) (zs : List Int) (w : World) (h : RecsAt w w.heap.size 3 A n zs) (hn : n ≤ 1048576) :
    Calls Try.prog 53 #[.slice A n c] w fun e w' => e = .returned (.slice (some ⟨w.heap.size, 0, none⟩) n n) ∧ w'.rowIs w.heap.size 69 (n * 3) (ints zs) ∧ Below w.heap.size w w' := by
  have H := Lib.hid h
  clear h
  have hmk := fun W => run_make_recs (P := Try.prog) 42 69 3 24 #[.int .i64 0, .int .i64 0, .int .i64 0] Try.underlying42 infoLoad n (by omega) hn W
  go_enter Try.func53, Try.ntmps53
  go_wp2
  clear hmk
  go_loopw [4] (fun i wr => ∃ k : Nat, k ≤ n ∧ i = .int .i64 k ∧ wr.rowIs w.heap.size 69 (n * 3) (fill zs (k * 3)) ∧ Below w.heap.size w wr) (fun i _ => n - (intOf i).toNat)
  case atStart => exact ⟨0, Nat.zero_le _, rfl, by rw [Nat.zero_mul]; exact rowIs_made0 w _ _ _ (fun j hj => by simp at hj; match j, hj with | 0, _ => rfl | 1, _ => rfl | 2, _ => rfl) (by simp) zs, (Below.refl _ _).alloc (Nat.le_refl _) _⟩
  case round =>
    obtain ⟨k, hk, rfl, hrow, hb⟩ := hrel
    by_cases hlt : k < n
    · obtain ⟨b, off, rfl, hbB, hc⟩ := H.out.2 (by omega)
      have hgl := hrow.lt
      have hx0 : wr.cell? ⟨b, off + k * 3, none⟩ = some (.int .i64 (nth zs (k * 3))) := (hb.cell (by exact hbB)).trans (hc (k * 3) (by omega))
      have hx1 : wr.cell? ⟨b, off + k * 3 + 1, none⟩ = some (.int .i64 (nth zs (k * 3 + 1))) := (hb.cell (by exact hbB)).trans (by have := hc (k * 3 + 1) (by omega); rwa [← Nat.add_assoc] at this)
      have hx2 : wr.cell? ⟨b, off + k * 3 + 2, none⟩ = some (.int .i64 (nth zs (k * 3 + 2))) := (hb.cell (by exact hbB)).trans (by have := hc (k * 3 + 2) (by omega); rwa [← Nat.add_assoc] at this)
      have HR := Lib.hid hrow
      have HB := Lib.hid hb
      clear hrow hb hc
      go_wp2_with fail
      refine (toLoad_any _ _ _ _).mono ?_
      rintro e w1 ⟨rfl, hb1⟩
      have HR1 := Lib.hid (below_row hb1 HR.out hgl)
      have HB1 := Lib.hid (HB.out.trans (hb1.mono HB.out.size))
      clear hb1
      have hy0 : w1.cell? ⟨w.heap.size, k * 3, none⟩ = some (.int .i64 0) := by rw [HR1.out.cell (by omega), fill_at zs (by omega)]
      have hf0 : w1.frozen? ⟨w.heap.size, k * 3, none⟩ = false := HR1.out.frozen _
      have hy1 : w1.cell? ⟨w.heap.size, k * 3 + 1, none⟩ = some (.int .i64 0) := by rw [HR1.out.cell (by omega), fill_at zs (by omega)]
      have hf1 : w1.frozen? ⟨w.heap.size, k * 3 + 1, none⟩ = false := HR1.out.frozen _
      have hy2 : w1.cell? ⟨w.heap.size, k * 3 + 2, none⟩ = some (.int .i64 0) := by rw [HR1.out.cell (by omega), fill_at zs (by omega)]
      have hf2 : w1.frozen? ⟨w.heap.size, k * 3 + 2, none⟩ = false := HR1.out.frozen _
      go_wp2
      go_roundw
      case rel => exact ⟨k + 1, by omega, by go_num, by rw [Nat.add_mul, Nat.one_mul]; exact World.rowIs.congr (World.rowIs.set (World.rowIs.set (World.rowIs.set HR1.out (k * 3) _) (k * 3 + 1) _) (k * 3 + 2) _) (fun j _ => fill_step3 zs (k * 3) j), (((HB1.out.setCell (Nat.le_refl _) _).setCell (Nat.le_refl _) _).setCell (Nat.le_refl _) _)⟩
      case measure => simp [intOf]; omega
    · have hkn : k = n := by omega
      subst hkn
      have HR := Lib.hid hrow
      have HB := Lib.hid hb
      clear hrow hb
      go_wp2
      go_ret
      exact ⟨rfl, HR.out.congr (fun j hj => fill_end zs hj), HB.out⟩

theorem szLoadS_ok (A : Option Addr) (n c : Nat) (l : Int) (w : World) (h0 : 0 ≤ l) (h1 : l ≤ 1048576) (hn : n ≤ 9223372036854775807) (h : (n : Int) ≤ l) : Calls Try.prog 49 #[.slice A n c, .int .i64 l] w fun e w' => e = .returned (.int .i64 (l - n)) ∧ w = w' := by
  have ht : ¬ l - (n : Int) < 0 := by omega
  go_enter Try.func49, Try.ntmps49
  go_wp2
  go_ret
  exact ⟨rfl, rfl⟩
theorem szLoadS_no (A : Option Addr) (n c : Nat) (l : Int) (w : World) (h0 : 0 ≤ l) (h1 : l ≤ 1048576) (hn : n ≤ 9223372036854775807) (h : l < (n : Int)) : Calls Try.prog 49 #[.slice A n c, .int .i64 l] w fun e w' => e = .returned (.int .i64 (-1)) ∧ w = w' := by
  have ht : l - (n : Int) < 0 := by omega
  go_enter Try.func49, Try.ntmps49
  go_wp2
  go_ret
  exact ⟨rfl, rfl⟩

set_option maxHeartbeats 400000 in
theorem eqLoad_same (x0 x1 x2 : Int) (w : World) : Calls Try.prog 83 #[.agg #[.int .i64 x0, .int .i64 x1, .int .i64 x2], .agg #[.int .i64 x0, .int .i64 x1, .int .i64 x2]] w fun e w' => e = .returned (.bool true) ∧ Below w.heap.size w w' := by
  have t0 : (x0 != x0) = false := by simp
  have t1 : (x1 != x1) = false := by simp
  have t2 : (x2 != x2) = false := by simp
  go_enter Try.func83, Try.ntmps83
  go_wp2
  go_ret
  exact ⟨rfl, ((Below.refl _ _).alloc (Nat.le_refl _) _).alloc (by simp) _⟩

set_option maxHeartbeats 800000 in
theorem eqLoadS_same (A A' : Option Addr) (n c c' : Nat) (zs : List Int) (w : World) (hx : RecsAt w w.heap.size 3 A n zs) (hy : RecsAt w w.heap.size 3 A' n zs) (hn : n ≤ 1048576) :
    Calls Try.prog 58 #[.slice A n c, .slice A' n c'] w fun e w' => e = .returned (.bool true) ∧ Below w.heap.size w w' := by
  have HX := Lib.hid hx
  have HY := Lib.hid hy
  clear hx hy
  have ht : ((n : Int) != (n : Int)) = false := by simp
  go_enter Try.func58, Try.ntmps58
  go_wp2
  go_loopw [5] (fun i wr => ∃ k : Nat, k ≤ n ∧ i = .int .i64 k ∧ Below w.heap.size w wr) (fun i _ => n - (intOf i).toNat)
  case atStart => exact ⟨0, Nat.zero_le _, rfl, Below.refl _ _⟩
  case round =>
    obtain ⟨k, hk, rfl, hb⟩ := hrel
    have HB := Lib.hid hb
    by_cases hlt : k < n
    · obtain ⟨b, off, rfl, hbB, hc⟩ := HX.out.2 (by omega)
      obtain ⟨b', off', rfl, hbB', hc'⟩ := HY.out.2 (by omega)
      have hz := hb.size
      have cx0 : wr.cell? ⟨b, off + k * 3, none⟩ = some (.int .i64 (nth zs (k * 3))) := (hb.cell (by exact hbB)).trans (hc (k * 3) (by omega))
      have cy0 : wr.cell? ⟨b', off' + k * 3, none⟩ = some (.int .i64 (nth zs (k * 3))) := (hb.cell (by exact hbB')).trans (hc' (k * 3) (by omega))
      have cx1 : wr.cell? ⟨b, off + k * 3 + 1, none⟩ = some (.int .i64 (nth zs (k * 3 + 1))) := (hb.cell (by exact hbB)).trans (by have := hc (k * 3 + 1) (by omega); rwa [← Nat.add_assoc] at this)
      have cy1 : wr.cell? ⟨b', off' + k * 3 + 1, none⟩ = some (.int .i64 (nth zs (k * 3 + 1))) := (hb.cell (by exact hbB')).trans (by have := hc' (k * 3 + 1) (by omega); rwa [← Nat.add_assoc] at this)
      have cx2 : wr.cell? ⟨b, off + k * 3 + 2, none⟩ = some (.int .i64 (nth zs (k * 3 + 2))) := (hb.cell (by exact hbB)).trans (by have := hc (k * 3 + 2) (by omega); rwa [← Nat.add_assoc] at this)
      have cy2 : wr.cell? ⟨b', off' + k * 3 + 2, none⟩ = some (.int .i64 (nth zs (k * 3 + 2))) := (hb.cell (by exact hbB')).trans (by have := hc' (k * 3 + 2) (by omega); rwa [← Nat.add_assoc] at this)
      generalize nth zs (k * 3) = u0 at *
      generalize nth zs (k * 3 + 1) = u1 at *
      generalize nth zs (k * 3 + 2) = u2 at *
      have ki : (k : Int) < (n : Int) := by omega
      have k0 : (0 : Int) ≤ (k : Int) := by omega
      clear hc hc' hb
      go_wp2
      go_region_held3 (fun w' => w'.cell? ⟨b, off + k * 3, none⟩ = some (.int .i64 u0) ∧ w'.cell? ⟨b, off + k * 3 + 1, none⟩ = some (.int .i64 u1) ∧ w'.cell? ⟨b, off + k * 3 + 2, none⟩ = some (.int .i64 u2) ∧ w'.cell? ⟨b', off' + k * 3, none⟩ = some (.int .i64 u0) ∧ w'.cell? ⟨b', off' + k * 3 + 1, none⟩ = some (.int .i64 u1) ∧ w'.cell? ⟨b', off' + k * 3 + 2, none⟩ = some (.int .i64 u2)) (first | (go_keep; done) | (refine ⟨?_, ?_, ?_, ?_, ?_, ?_⟩ <;> (rw [hcc _ _ (by simp <;> omega)]; go_keep))) ((go_at_call 83; refine (eqLoad_same _ _ _ _).mono ?_; rintro e w1 ⟨rfl, hb1⟩; obtain ⟨hcc, hff⟩ := bcell hb1))
      have HB1 := Lib.hid (HB.out.drew.trans (hb1.mono (by have := HB.out.size; simp; omega)))
      clear hcc hff hb1
      go_wp2
      go_roundw
      case rel => exact ⟨k + 1, by omega, by go_num, HB1.out⟩
      case measure => simp [intOf]; omega
    · have hkn : k = n := by omega
      subst hkn
      clear hb
      go_wp2
      go_ret
      exact ⟨rfl, HB.out⟩

set_option maxHeartbeats 800000 in
theorem markLoadS_any (g n c : Nat) (f : Nat → Value) (k0 : Int) (w : World) (h : w.rowIs g 69 (n * 3) f) (hf : IntRow f) (hn : n ≤ 1048576) (h0 : 0 ≤ k0) (h1 : k0 ≤ 1000000000) :
    Calls Try.prog 60 #[.slice (some ⟨g, 0, none⟩) n c, .int .i64 k0] w fun e w' => e = .returned (.int .i64 (k0 + (n * 3 : Nat))) ∧ w'.rowIs g 69 (n * 3) (marks f k0 (n * 3)) ∧ Only g w w' := by
  have H := Lib.hid h
  have HFI := Lib.hid hf
  clear h hf
  go_enter Try.func60, Try.ntmps60
  go_wp2
  go_loopw [1, 5] (fun m i wr => ∃ k : Nat, k ≤ n ∧ i = .int .i64 k ∧ m = .int .i64 (k0 + (k * 3 : Nat)) ∧ wr.rowIs g 69 (n * 3) (marks f k0 (k * 3)) ∧ Only g w wr) (fun _ i _ => n - (intOf i).toNat)
  case atStart => exact ⟨0, Nat.zero_le _, rfl, by simp, by rw [Nat.zero_mul]; exact H.out.congr (fun j _ => (marks_0 f k0 j).symm), Only.refl _ _⟩
  case round =>
    obtain ⟨k, hk, rfl, rfl, hrow, ho⟩ := hrel
    have HR := Lib.hid hrow
    have HO := Lib.hid ho
    by_cases hlt : k < n
    ·
      obtain ⟨v0, e0⟩ : ∃ z : Int, marks f k0 (k * 3) (k * 3) = .int .i64 z := by
        obtain ⟨z, e⟩ := HFI.out (k * 3)
        exact ⟨z, by rw [marks, if_neg (by omega)]; exact e⟩
      have hc0 : wr.cell? ⟨g, k * 3, none⟩ = some (.int .i64 v0) := by rw [HR.out.cell (by omega), e0]
      have hf0 : wr.frozen? ⟨g, k * 3, none⟩ = false := HR.out.frozen _
      clear e0
      obtain ⟨v1, e1⟩ : ∃ z : Int, marks f k0 (k * 3) (k * 3 + 1) = .int .i64 z := by
        obtain ⟨z, e⟩ := HFI.out (k * 3 + 1)
        exact ⟨z, by rw [marks, if_neg (by omega)]; exact e⟩
      have hc1 : wr.cell? ⟨g, k * 3 + 1, none⟩ = some (.int .i64 v1) := by rw [HR.out.cell (by omega), e1]
      have hf1 : wr.frozen? ⟨g, k * 3 + 1, none⟩ = false := HR.out.frozen _
      clear e1
      obtain ⟨v2, e2⟩ : ∃ z : Int, marks f k0 (k * 3) (k * 3 + 2) = .int .i64 z := by
        obtain ⟨z, e⟩ := HFI.out (k * 3 + 2)
        exact ⟨z, by rw [marks, if_neg (by omega)]; exact e⟩
      have hc2 : wr.cell? ⟨g, k * 3 + 2, none⟩ = some (.int .i64 v2) := by rw [HR.out.cell (by omega), e2]
      have hf2 : wr.frozen? ⟨g, k * 3 + 2, none⟩ = false := HR.out.frozen _
      clear e2
      clear hrow ho
      have hkk : (((k * 3 : Nat) : Nat) : Int) ≤ 1073741824 := by omega
      go_wp2
      go_roundw
      case rel =>
        refine ⟨k + 1, by omega, by go_num, by go_num, ?_, (((HO.out.setCell _ _).setCell _ _).setCell _ _)⟩
        have hs := (World.rowIs.congr (World.rowIs.set (World.rowIs.congr (World.rowIs.set (World.rowIs.congr (World.rowIs.set HR.out (k * 3) (.int .i64 (k0 + ((k * 3 : Nat) : Int)))) (fun j _ => marks_step f k0 (k * 3) j)) (k * 3 + 1) (.int .i64 (k0 + ((k * 3 + 1 : Nat) : Int)))) (fun j _ => marks_step f k0 (k * 3 + 1) j)) (k * 3 + 2) (.int .i64 (k0 + ((k * 3 + 2 : Nat) : Int)))) (fun j _ => marks_step f k0 (k * 3 + 2) j))
        rw [Nat.add_mul, Nat.one_mul]
        simpa [Int.add_assoc] using hs
      case measure => simp [intOf]; omega
    · have hkn : k = n := by omega
      subst hkn
      clear hrow ho
      go_wp2
      go_ret
      exact ⟨rfl, HR.out, HO.out⟩

end Go.Proofs.Ytdjhiegolojoaaa
