/-
  Contracts of the laws' helpers for records 'Row'.
-/
import Derived.Test.YtbcgckdjbabdjaaProg
import Derived.Test.YtbcgckdjbabdjaaWRowsFor
import Derived.Test.YtbcgckdjbabdjaaWMark
import Derived.Test.YtbcgckdjbabdjaaInside
import Derived.Deep.RegionHeld3
import Derived.Outline
namespace Go.Proofs.Ytbcgckdjbabdjaa
open Go.RowKit


set_option maxHeartbeats 400000 in
theorem eqRow_same (x0 x1 x2 x3 : Int) (w : World) : Calls Try.prog 62 #[.agg #[.int .i64 x0, .int .i64 x1, .int .i64 x2, .int .i64 x3], .agg #[.int .i64 x0, .int .i64 x1, .int .i64 x2, .int .i64 x3]] w fun e w' => e = .returned (.bool true) ∧ Below w.heap.size w w' := by
  have t0 : (x0 != x0) = false := by simp
  have t1 : (x1 != x1) = false := by simp
  have t2 : (x2 != x2) = false := by simp
  have t3 : (x3 != x3) = false := by simp
  go_enter Try.func62, Try.ntmps62
  go_wp2
  go_ret
  exact ⟨rfl, ((Below.refl _ _).alloc (Nat.le_refl _) _).alloc (by simp) _⟩

set_option maxHeartbeats 800000 in
theorem eqRowS_same (A A' : Option Addr) (n c c' : Nat) (zs : List Int) (w : World) (hx : RecsAt w w.heap.size 4 A n zs) (hy : RecsAt w w.heap.size 4 A' n zs) (hn : n ≤ 1048576) :
    Calls Try.prog 16 #[.slice A n c, .slice A' n c'] w fun e w' => e = .returned (.bool true) ∧ Below w.heap.size w w' := by
  have HX := Lib.hid hx
  have HY := Lib.hid hy
  clear hx hy
  have ht : ((n : Int) != (n : Int)) = false := by simp
  go_enter Try.func16, Try.ntmps16
  go_wp2
  go_loopw [5] (fun i wr => ∃ k : Nat, k ≤ n ∧ i = .int .i64 k ∧ Below w.heap.size w wr) (fun i _ => n - (intOf i).toNat)
  case atStart => exact ⟨0, Nat.zero_le _, rfl, Below.refl _ _⟩
  case round =>
    obtain ⟨k, hk, rfl, hb⟩ := hrel
    have HB := Lib.hid hb
    by_cases hlt : k < n
    · obtain ⟨b, off, rfl, hbB, hc⟩ := HX.out.2 (by omega)
      obtain ⟨b', off', rfl, hbB', hc'⟩ := HY.out.2 (by omega)
      have hz := hb.size
      have cx0 : wr.cell? ⟨b, off + k * 4, none⟩ = some (.int .i64 (nth zs (k * 4))) := (hb.cell (by exact hbB)).trans (hc (k * 4) (by omega))
      have cy0 : wr.cell? ⟨b', off' + k * 4, none⟩ = some (.int .i64 (nth zs (k * 4))) := (hb.cell (by exact hbB')).trans (hc' (k * 4) (by omega))
      have cx1 : wr.cell? ⟨b, off + k * 4 + 1, none⟩ = some (.int .i64 (nth zs (k * 4 + 1))) := (hb.cell (by exact hbB)).trans (by have := hc (k * 4 + 1) (by omega); rwa [← Nat.add_assoc] at this)
      have cy1 : wr.cell? ⟨b', off' + k * 4 + 1, none⟩ = some (.int .i64 (nth zs (k * 4 + 1))) := (hb.cell (by exact hbB')).trans (by have := hc' (k * 4 + 1) (by omega); rwa [← Nat.add_assoc] at this)
      have cx2 : wr.cell? ⟨b, off + k * 4 + 2, none⟩ = some (.int .i64 (nth zs (k * 4 + 2))) := (hb.cell (by exact hbB)).trans (by have := hc (k * 4 + 2) (by omega); rwa [← Nat.add_assoc] at this)
      have cy2 : wr.cell? ⟨b', off' + k * 4 + 2, none⟩ = some (.int .i64 (nth zs (k * 4 + 2))) := (hb.cell (by exact hbB')).trans (by have := hc' (k * 4 + 2) (by omega); rwa [← Nat.add_assoc] at this)
      have cx3 : wr.cell? ⟨b, off + k * 4 + 3, none⟩ = some (.int .i64 (nth zs (k * 4 + 3))) := (hb.cell (by exact hbB)).trans (by have := hc (k * 4 + 3) (by omega); rwa [← Nat.add_assoc] at this)
      have cy3 : wr.cell? ⟨b', off' + k * 4 + 3, none⟩ = some (.int .i64 (nth zs (k * 4 + 3))) := (hb.cell (by exact hbB')).trans (by have := hc' (k * 4 + 3) (by omega); rwa [← Nat.add_assoc] at this)
      generalize nth zs (k * 4) = u0 at *
      generalize nth zs (k * 4 + 1) = u1 at *
      generalize nth zs (k * 4 + 2) = u2 at *
      generalize nth zs (k * 4 + 3) = u3 at *
      have ki : (k : Int) < (n : Int) := by omega
      have k0 : (0 : Int) ≤ (k : Int) := by omega
      clear hc hc' hb
      go_wp2
      go_region_held3 (fun w' => w'.cell? ⟨b, off + k * 4, none⟩ = some (.int .i64 u0) ∧ w'.cell? ⟨b, off + k * 4 + 1, none⟩ = some (.int .i64 u1) ∧ w'.cell? ⟨b, off + k * 4 + 2, none⟩ = some (.int .i64 u2) ∧ w'.cell? ⟨b, off + k * 4 + 3, none⟩ = some (.int .i64 u3) ∧ w'.cell? ⟨b', off' + k * 4, none⟩ = some (.int .i64 u0) ∧ w'.cell? ⟨b', off' + k * 4 + 1, none⟩ = some (.int .i64 u1) ∧ w'.cell? ⟨b', off' + k * 4 + 2, none⟩ = some (.int .i64 u2) ∧ w'.cell? ⟨b', off' + k * 4 + 3, none⟩ = some (.int .i64 u3)) (first | (go_keep; done) | (refine ⟨?_, ?_, ?_, ?_, ?_, ?_, ?_, ?_⟩ <;> (rw [hcc _ _ (by simp <;> omega)]; go_keep))) ((go_at_call 62; refine (eqRow_same _ _ _ _ _).mono ?_; rintro e w1 ⟨rfl, hb1⟩; obtain ⟨hcc, hff⟩ := bcell hb1))
      have HB1 := Lib.hid (HB.out.drew.trans (hb1.mono (by have := HB.out.size; simp; omega)))
      clear hcc hff hb1
      go_wp2
      go_roundw
      case rel => exact ⟨k + 1, by omega, by go_num, HB1.out⟩
      case measure => simp [intOf]; omega
    · have hkn : k = n := by omega
      subst hkn
      clear hb
      go_wp2
      go_ret
      exact ⟨rfl, HB.out⟩

set_option maxHeartbeats 800000 in
theorem markRowS_rowF (g n c : Nat) (f : Nat → Value) (k0 : Int) (w : World) (h : RowF w g 92 (n * 4) f) (hf : IntRow f) (hn : n ≤ 1048576) (h0 : 0 ≤ k0) (h1 : k0 ≤ 1000000000) :
    Calls Try.prog 21 #[.slice (some ⟨g, 0, none⟩) n c, .int .i64 k0] w fun e w' => e = .returned (.int .i64 (k0 + (n * 4 : Nat))) ∧ RowF w' g 92 (n * 4) (marks f k0 (n * 4)) ∧ Only g w w' := by
  have H := Lib.hid h
  have HFI := Lib.hid hf
  clear h hf
  go_enter Try.func21, Try.ntmps21
  go_wp2
  go_loopw [1, 5] (fun m i wr => ∃ k : Nat, k ≤ n ∧ i = .int .i64 k ∧ m = .int .i64 (k0 + (k * 4 : Nat)) ∧ RowF wr g 92 (n * 4) (marks f k0 (k * 4)) ∧ Only g w wr) (fun _ i _ => n - (intOf i).toNat)
  case atStart => exact ⟨0, Nat.zero_le _, rfl, by simp, by rw [Nat.zero_mul]; exact H.out.congr (fun j _ => (marks_0 f k0 j).symm), Only.refl _ _⟩
  case round =>
    obtain ⟨k, hk, rfl, rfl, hrow, ho⟩ := hrel
    have HR := Lib.hid hrow
    have HO := Lib.hid ho
    by_cases hlt : k < n
    ·
      obtain ⟨v0, e0⟩ : ∃ z : Int, marks f k0 (k * 4) (k * 4) = .int .i64 z := by
        obtain ⟨z, e⟩ := HFI.out (k * 4)
        exact ⟨z, by rw [marks, if_neg (by omega)]; exact e⟩
      have hc0 : wr.cell? ⟨g, k * 4, none⟩ = some (.int .i64 v0) := by rw [HR.out.cell (by omega), e0]
      have hf0 : wr.frozen? ⟨g, k * 4, none⟩ = false := HR.out.frozen _
      clear e0
      obtain ⟨v1, e1⟩ : ∃ z : Int, marks f k0 (k * 4) (k * 4 + 1) = .int .i64 z := by
        obtain ⟨z, e⟩ := HFI.out (k * 4 + 1)
        exact ⟨z, by rw [marks, if_neg (by omega)]; exact e⟩
      have hc1 : wr.cell? ⟨g, k * 4 + 1, none⟩ = some (.int .i64 v1) := by rw [HR.out.cell (by omega), e1]
      have hf1 : wr.frozen? ⟨g, k * 4 + 1, none⟩ = false := HR.out.frozen _
      clear e1
      obtain ⟨v2, e2⟩ : ∃ z : Int, marks f k0 (k * 4) (k * 4 + 2) = .int .i64 z := by
        obtain ⟨z, e⟩ := HFI.out (k * 4 + 2)
        exact ⟨z, by rw [marks, if_neg (by omega)]; exact e⟩
      have hc2 : wr.cell? ⟨g, k * 4 + 2, none⟩ = some (.int .i64 v2) := by rw [HR.out.cell (by omega), e2]
      have hf2 : wr.frozen? ⟨g, k * 4 + 2, none⟩ = false := HR.out.frozen _
      clear e2
      obtain ⟨v3, e3⟩ : ∃ z : Int, marks f k0 (k * 4) (k * 4 + 3) = .int .i64 z := by
        obtain ⟨z, e⟩ := HFI.out (k * 4 + 3)
        exact ⟨z, by rw [marks, if_neg (by omega)]; exact e⟩
      have hc3 : wr.cell? ⟨g, k * 4 + 3, none⟩ = some (.int .i64 v3) := by rw [HR.out.cell (by omega), e3]
      have hf3 : wr.frozen? ⟨g, k * 4 + 3, none⟩ = false := HR.out.frozen _
      clear e3
      clear hrow ho
      have hkk : (((k * 4 : Nat) : Nat) : Int) ≤ 1073741824 := by omega
      go_wp2
      go_roundw
      case rel =>
        refine ⟨k + 1, by omega, by go_num, by go_num, ?_, ((((HO.out.setCell _ _).setCell _ _).setCell _ _).setCell _ _)⟩
        have hs := (RowF.congr (RowF.set (RowF.congr (RowF.set (RowF.congr (RowF.set (RowF.congr (RowF.set HR.out (k * 4) (.int .i64 (k0 + ((k * 4 : Nat) : Int)))) (fun j _ => marks_step f k0 (k * 4) j)) (k * 4 + 1) (.int .i64 (k0 + ((k * 4 + 1 : Nat) : Int)))) (fun j _ => marks_step f k0 (k * 4 + 1) j)) (k * 4 + 2) (.int .i64 (k0 + ((k * 4 + 2 : Nat) : Int)))) (fun j _ => marks_step f k0 (k * 4 + 2) j)) (k * 4 + 3) (.int .i64 (k0 + ((k * 4 + 3 : Nat) : Int)))) (fun j _ => marks_step f k0 (k * 4 + 3) j))
        rw [Nat.add_mul, Nat.one_mul]
        simpa [Int.add_assoc] using hs
      case measure => simp [intOf]; omega
    · have hkn : k = n := by omega
      subst hkn
      clear hrow ho
      go_wp2
      go_ret
      exact ⟨rfl, HR.out, HO.out⟩

theorem Inside.ownR {lo hi : Nat} {w w' : World} {base : Nat} {E : TypeId} {K n : Nat} {v : Value} {xs : List Int} (h : Inside lo hi w w') (ho : OwnR w base E K v n xs) (hb : hi ≤ base) : OwnR w' base E K v n xs := by
  refine ⟨⟨ho.1.1, ?_⟩, ho.2⟩
  rcases ho.1.2 with h2 | ⟨g, cap, cur, h1, h2, h3, hr⟩
  · exact .inl h2
  · exact .inr ⟨g, cap, cur, h1, h2, (h.block g (Array.getElem?_eq_some_iff.1 h3).1 (.inr (by omega))).trans h3, hr⟩
theorem intRow_intsR (xs : List Int) : IntRow (Go.Proofs.Ytbcgckdjbabdjaa.ints xs) := fun _ => ⟨_, rfl⟩
set_option maxHeartbeats 800000 in
theorem markRowS_own (A : Option Addr) (n c : Nat) (rs : List Int) (k0 : Int) (base : Nat) (w : World) (h : OwnR w base 92 4 (.slice A n c) n rs) (hn : n ≤ 262144) (_ : base ≤ w.heap.size) (h0 : 0 ≤ k0) (h1 : k0 ≤ 1000000000) :
    Calls Try.prog 21 #[.slice A n c, .int .i64 k0] w fun e w' => e = .returned (.int .i64 (k0 + (n * 4 : Nat))) ∧ RecsAt w' w'.heap.size 4 A n (iota k0 (n * 4)) ∧ Below base w w' := by
  rcases h.form with ⟨e, rfl, _⟩ | ⟨g, cap, e, hg, hc, hr⟩
  · simp at e
    obtain ⟨rfl, rfl⟩ := e
    go_enter Try.func21, Try.ntmps21
    go_wp2
    go_loopw [1, 5] (fun m i wr => m = .int .i64 k0 ∧ i = .int .i64 0 ∧ w = wr) (fun _ _ _ => 0)
    case atStart => exact ⟨rfl, rfl, rfl⟩
    case round =>
      obtain ⟨rfl, rfl, rfl⟩ := hrel
      go_wp2
      go_ret
      exact ⟨by simp, ⟨by simp [iota], fun h => absurd h (by omega)⟩, Below.refl _ _⟩
  · simp at e
    obtain ⟨rfl, rfl⟩ := e
    refine (markRowS_rowF g n c _ k0 w hr (intRow_intsR rs) (by omega) h0 h1).mono fun e w' ⟨e1, hr', ho⟩ => ⟨e1, ?_, ?_⟩
    · refine (hr'.congr (f' := Go.Proofs.Ytbcgckdjbabdjaa.ints (iota k0 (n * 4))) (fun j hj => ?_)).recs (iota_length _ _)
      rw [ints_def, nth_iota hj, marks, if_pos hj]
    · exact (Within.of_only ho hg (Nat.lt_succ_self g)).below
set_option maxHeartbeats 800000 in
theorem heldRowS_any (A : Option Addr) (n c : Nat) (k0 : Int) (w : World) (h : RecsAt w w.heap.size 4 A n (iota k0 (n * 4))) (hn : n ≤ 262144) (h0 : 0 ≤ k0) (h1 : k0 ≤ 1000000000) :
    Calls Try.prog 22 #[.slice A n c, .int .i64 k0] w fun e w' => e = .returned (.int .i64 (k0 + (n * 4 : Nat))) ∧ w = w' := by
  have H := Lib.hid h
  clear h
  go_enter Try.func22, Try.ntmps22
  go_wp2
  go_loop [1, 5] (fun m i => ∃ k : Nat, k ≤ n ∧ i = .int .i64 k ∧ m = .int .i64 (k0 + (k * 4 : Nat))) (fun _ i => n - (intOf i).toNat)
  case atStart => exact ⟨0, Nat.zero_le _, rfl, by simp⟩
  case round =>
    obtain ⟨k, hk, rfl, rfl⟩ := hrel
    by_cases hlt : k < n
    · obtain ⟨b, off, rfl, hbB, hc⟩ := H.out.2 (by omega)
      obtain ⟨x0, x1, x2, x3⟩ := rwCells hc hlt
      rw [nth_iota (by omega)] at x0 x1 x2 x3
      obtain ⟨z, hz⟩ : ∃ z : Int, z = k0 + ((k * 4 : Nat) : Int) := ⟨_, rfl⟩
      have hzb : 0 ≤ z ∧ z ≤ 1010000000 := by omega
      rw [← hz] at x0 ⊢
      rw [show k0 + ((k * 4 + 1 : Nat) : Int) = z + 1 by omega] at x1
      rw [show k0 + ((k * 4 + 2 : Nat) : Int) = z + 1 + 1 by omega] at x2
      rw [show k0 + ((k * 4 + 3 : Nat) : Int) = z + 1 + 1 + 1 by omega] at x3
      have HZ := Lib.hid (show z + 1 + 1 + 1 + 1 = k0 + (((k + 1) * 4 : Nat) : Int) by omega)
      have t0 : (z != z) = false := by simp
      have t1 : (z + 1 != z + 1) = false := by simp
      have t2 : (z + 1 + 1 != z + 1 + 1) = false := by simp
      have t3 : (z + 1 + 1 + 1 != z + 1 + 1 + 1) = false := by simp
      clear hc hz
      go_wp2
      go_round
      case rel => exact ⟨k + 1, by omega, by go_num, by first | rw [← HZ.out] | (rw [← HZ.out]; simp [Int.add_assoc])⟩
      case measure => simp [intOf]; omega
    · have hkn : k = n := by omega
      subst hkn
      go_wp2
      go_ret
      exact ⟨rfl, rfl⟩
end Go.Proofs.Ytbcgckdjbabdjaa
