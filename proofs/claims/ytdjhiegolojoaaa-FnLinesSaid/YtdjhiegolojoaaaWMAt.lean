/-
  Contracts: the moments of a push at a joint about both of its points, in the reference and in the program.
-/
import Derived.Test.YtdjhiegolojoaaaWMom
namespace Go.Proofs.Ytdjhiegolojoaaa
open Go.RowKit
set_option linter.unusedSimpArgs false

theorem MCap.drew {w : World} {gt gl gu : Nat} {H V M D W Mo : Int} (h : MCap w gt gl gu H V M D W Mo) : MCap w.drew gt gl gu H V M D W Mo := ⟨h.thr, h.left, h.up⟩


set_option maxRecDepth 100000 in
set_option maxHeartbeats 3200000 in
theorem iMomentsAt_any (A : Option Addr) (n c : Nat) (zs : List Int) (B : Option Addr) (q d : Nat) (ls : List Int) (H V M D k : Int) (w : World) (h : RecsAt w w.heap.size 4 A n zs) (hn : n ≤ 1048576) (hl : RecsAt w w.heap.size 3 B q ls) (hq : q ≤ 1048576) :
    Calls Try.prog 95 #[.agg #[.slice A n c], .slice B q d, .agg #[.int .i64 H, .int .i64 V, .int .i64 M, .int .i64 D], .int .i64 k] w fun e w' => e = .returned (.tuple #[.int .i64 (mIn zs n ls q H V M D k), .int .i64 (mOut zs n ls q H V M D k)]) ∧ Below w.heap.size w w' := by
  have at0 := AT.start w (.slice A n c) H V M D 41 46
  have b0 := at_below w (.slice A n c) H V M D 41 46
  have h1 := h.after b0
  have l1 := hl.after b0
  have HAT := Lib.hid at0
  clear at0 b0 hl
  cases hP : pushB zs n ls q H V M D k
  · have HF := Lib.hid (m_f hP)
    go_enter Try.func95, Try.ntmps95
    go_wp2_with fail
    refine (pushOk_any _ _ _ zs _ _ _ ls _ _ _ _ _ _ h1 hn l1 hq).mono ?_
    rw [hP]
    rintro e w1 ⟨rfl, hb1⟩
    have HB1 := Lib.hid (HAT.out.after hb1).below
    clear hb1
    go_wp2
    go_ret2
    exact ⟨by rw [HF.out.1, HF.out.2]; rfl, HB1.out⟩
  obtain ⟨hL, hT, hk0, hk1⟩ := pushB_out hP
  obtain ⟨K, rfl⟩ : ∃ K : Nat, k = (K : Int) := ⟨k.toNat, by omega⟩
  have HM := Lib.hid (m_t hP)
  have HMB := Lib.hid (m_bds hP)
  have hK : K < n := by omega
  obtain ⟨b, off, rfl, hbB, hcell⟩ := h.2 (by omega)
  have HC := Lib.hid (jtCells hcell hK)
  have k0 : (0 : Int) ≤ (K : Int) := by omega
  have k1 : (K : Int) < (n : Int) := by omega
  clear hcell h hk0 hk1
  go_enter Try.func95, Try.ntmps95
  go_wp2_with fail
  refine (pushOk_any _ _ _ zs _ _ _ ls _ _ _ _ _ _ h1 hn l1 hq).mono ?_
  rw [hP]
  rintro e w1 ⟨rfl, hb1⟩
  have HA1 := Lib.hid (HAT.out.after hb1)
  have h2 := h1.after hb1
  have l2 := l1.after hb1
  have a0 := HA1.out.arch.1
  clear hb1
  have hlt : lfB zs n ls q (K : Int) = true := lfB_t hL (inB_t (by omega))
  have HLT := Lib.hid (lf_t hlt)
  clear hlt
  go_wp2_with fail
  refine (leftOf_any _ _ _ zs _ _ _ ls _ _ h2 hn l2 hq).mono ?_
  rw [HLT.out.1, HLT.out.2]
  rintro e w2 ⟨rfl, hb2⟩
  have HA2 := Lib.hid (HA1.out.after hb2)
  clear a0 hb2 h1 h2 l1 l2
  have hz2 := HA2.out.below.size
  have a2 := HA2.out.arch.1
  have al := HA2.out.arch.2
  have tl := HA2.out.thr.2
  have t0 := HA2.out.thr.1.1
  have t1 := HA2.out.thr.1.2.1
  have t2 := HA2.out.thr.1.2.2.1
  have t3 := HA2.out.thr.1.2.2.2
  have j0 := (HA2.out.below.cell (p := ⟨b, off + K * 4, none⟩) hbB).trans HC.out.1
  have j1 := (HA2.out.below.cell (p := ⟨b, off + K * 4 + 1, none⟩) hbB).trans HC.out.2.1
  have j2 := (HA2.out.below.cell (p := ⟨b, off + K * 4 + 2, none⟩) hbB).trans HC.out.2.2.1
  have j3 := (HA2.out.below.cell (p := ⟨b, off + K * 4 + 3, none⟩) hbB).trans HC.out.2.2.2
  have bl : b < w2.heap.size := by omega
  have hbd := HMB.out.1.dw
  have hv := HMB.out.1.v
  have e2 : IntKind.i64.wrap (D * leftW zs ls q K) = D * leftW zs ls q K := IntWalk.i64_in _ (by omega)
  have HS0 : Below w2.heap.size w2 ((w2.alloc (.cells #[.int .i64 (leftW zs ls q K), .int .i64 (leftM zs ls q K)] 163)).alloc (.cells #[.int .i64 (V - D * leftW zs ls q K)] 3)) := ((Below.refl _ _).alloc (Nat.le_refl _) _).alloc (by simp) _
  have HCAP : Hid (MCap ((w2.alloc (.cells #[.int .i64 (leftW zs ls q K), .int .i64 (leftM zs ls q K)] 163)).alloc (.cells #[.int .i64 (V - D * leftW zs ls q K)] 3)) (w.heap.size + 1) w2.heap.size (w2.heap.size + 1) H V M D (leftW zs ls q K) (leftM zs ls q K)) := by
    have h1 := (rowF_new2 w2 (leftW zs ls q K) (leftM zs ls q K) 163).alloc (.cells #[.int .i64 (V - D * leftW zs ls q K)] 3)
    have h2 := rowF_new1 (w2.alloc (.cells #[.int .i64 (leftW zs ls q K), .int .i64 (leftM zs ls q K)] 163)) (.int .i64 (V - D * leftW zs ls q K)) 3
    rw [World.size_alloc] at h2
    exact ⟨HA2.out.thr.after HS0, ⟨h1.cell (by omega), h1.cell (by omega), h1.lt⟩, ⟨h2.cell (by omega), h2.lt⟩⟩
  have HA3 := Lib.hid (HA2.out.after HS0)
  have a3 := HA3.out.arch.1
  have i0 := (HS0.cell (p := ⟨b, off + K * 4, none⟩) bl).trans j0
  have i1 := (HS0.cell (p := ⟨b, off + K * 4 + 1, none⟩) bl).trans j1
  have i2 := (HS0.cell (p := ⟨b, off + K * 4 + 2, none⟩) bl).trans j2
  have i3 := (HS0.cell (p := ⟨b, off + K * 4 + 3, none⟩) bl).trans j3
  clear HS0 j0 j1 j2 j3
  generalize hW3 : leftW zs ls q K = lw at *
  generalize hM3 : leftM zs ls q K = lm at *
  have HW3 := Lib.hid hW3
  have HM3 := Lib.hid hM3
  clear hW3 hM3
  go_wp2
  clear a2 t0 t1 t2 t3 hbd hv
  have HCAPD := Lib.hid HCAP.out.drew
  go_region_held3 (fun w' => w'.cell? ⟨w.heap.size, 0, none⟩ = some (.slice (some ⟨b, off, none⟩) n c) ∧ (w'.cell? ⟨b, off + K * 4, none⟩ = some (.int .i64 (nth zs (K * 4))) ∧ w'.cell? ⟨b, off + K * 4 + 1, none⟩ = some (.int .i64 (nth zs (K * 4 + 1))) ∧ w'.cell? ⟨b, off + K * 4 + 2, none⟩ = some (.int .i64 (nth zs (K * 4 + 2))) ∧ w'.cell? ⟨b, off + K * 4 + 3, none⟩ = some (.int .i64 (nth zs (K * 4 + 3))))) (first | exact ⟨a3, ⟨i0, i1, i2, i3⟩⟩ | (refine ⟨?_, ⟨?_, ?_, ?_, ?_⟩⟩ <;> (rw [hcc _ _ (by first | omega | (simp <;> omega))]; assumption)))
    (((go_at_call 108; first | ((with_reducible refine (moment1_any _ _ _ _ _ _ _ _ _ _ _ _ HCAPD.out HMB.out.1).mono ?_); rintro e w3 ⟨rfl, hb3⟩; have HCAP3 := Lib.hid (HCAPD.out.after hb3); obtain ⟨hcc, hff⟩ := bcell hb3; have hz3 := hb3.size; try simp at hz3) | ((with_reducible refine (moment1_any _ _ _ _ _ _ _ _ _ _ _ _ HCAP3.out HMB.out.2).mono ?_); rintro e w4 ⟨rfl, hb4⟩; have hcc1 := hcc; clear hcc; obtain ⟨hcc2, hff2⟩ := bcell hb4; have hz4 := hb4.size; have hcc : ∀ b o, b < w2.heap.size + 2 → w4.cell? ⟨b, o, none⟩ = ((w2.alloc (.cells #[.int .i64 lw, .int .i64 lm] 163)).alloc (.cells #[.int .i64 (V - D * lw)] 3)).cell? ⟨b, o, none⟩ := fun b o h => (hcc2 b o (by omega)).trans (hcc1 b o (by simp; omega))))))
  have HB4 := Lib.hid ((below_drewN HA3.out.below 1).trans (hb3.mono (by simp; omega)) |>.trans (hb4.mono (by omega)))
  clear hcc hcc1 hcc2 hff hff2 hb3 hb4
  go_wp2
  go_ret2
  exact ⟨by rw [HM.out.1, HM.out.2]; rfl, HB4.out⟩
end Go.Proofs.Ytdjhiegolojoaaa
