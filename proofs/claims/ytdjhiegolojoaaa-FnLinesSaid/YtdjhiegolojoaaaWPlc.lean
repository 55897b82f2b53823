/-
  Contracts: whether a push passes a joint, and where, in the reference and in the program.
-/
import Derived.Test.YtdjhiegolojoaaaWMAt
namespace Go.Proofs.Ytdjhiegolojoaaa
open Go.RowKit
set_option linter.unusedSimpArgs false

section
variable {zs : List Int} {n : Nat} {ls : List Int} {q : Nat} {H V M D k : Int}
theorem insB_1 (h : pushB zs n ls q H V M D k = false) : insB zs n ls q H V M D k = false := by simp [insB, h]
theorem insB_t (h : pushB zs n ls q H V M D k = true) : insB zs n ls q H V M D k = (decide (mIn zs n ls q H V M D k ≤ 0) && decide (0 ≤ mOut zs n ls q H V M D k)) := by simp [insB, h]
theorem plcB_1 (h : insB zs n ls q H V M D k = false) : plcB zs n ls q H V M D k = false := by simp [plcB, h]
theorem plcB_2 (h : mIn zs n ls q H V M D k = 0) (h2 : mOut zs n ls q H V M D k = 0) : plcB zs n ls q H V M D k = false := by simp [plcB, h, h2]
theorem plcB_t (h : insB zs n ls q H V M D k = true) (h2 : ¬ (mIn zs n ls q H V M D k = 0 ∧ mOut zs n ls q H V M D k = 0)) : plcB zs n ls q H V M D k = true := by
  have : ¬ (decide (mIn zs n ls q H V M D k = 0) && decide (mOut zs n ls q H V M D k = 0)) = true := by simpa using h2
  simp only [plcB, h, Bool.true_and, Bool.not_eq_true'] at *
  simpa using this
theorem plc_f (h : plcB zs n ls q H V M D k = false) : plcN zs n ls q H V M D k = 0 ∧ plcD zs n ls q H V M D k = 0 := by simp [plcN, plcD, h]
theorem plc_t (h : plcB zs n ls q H V M D k = true) : plcN zs n ls q H V M D k = Int.tdiv (-mIn zs n ls q H V M D k) (plcG zs n ls q H V M D k) ∧ plcD zs n ls q H V M D k = Int.tdiv (mOut zs n ls q H V M D k - mIn zs n ls q H V M D k) (plcG zs n ls q H V M D k) := by simp [plcN, plcD, h]
theorem plcG_pos (h2 : ¬ (mIn zs n ls q H V M D k = 0 ∧ mOut zs n ls q H V M D k = 0)) : 0 < plcG zs n ls q H V M D k := by
  refine Nat.pos_of_ne_zero fun e => ?_
  have h := Nat.gcd_eq_zero_iff.1 e
  omega
theorem tdiv_ok {x : Int} {g : Nat} (h : okG x) (hg : 0 < g) : IntKind.i64.wrap (Int.tdiv x (g : Int)) = Int.tdiv x (g : Int) := by
  unfold okG at h
  exact IntWalk.i64_quo' x g (by omega)
end
def PlcPost (w : World) (b : Bool) (N D : Int) (e : Ending) (w' : World) : Prop := e = .returned (.tuple #[.int .i64 N, .int .i64 D, .bool b]) ∧ Below w.heap.size w w'


set_option maxRecDepth 100000 in
set_option maxHeartbeats 3200000 in
theorem iIsInside_any (A : Option Addr) (n c : Nat) (zs : List Int) (B : Option Addr) (q d : Nat) (ls : List Int) (H V M D k : Int) (w : World) (h : RecsAt w w.heap.size 4 A n zs) (hn : n ≤ 1048576) (hl : RecsAt w w.heap.size 3 B q ls) (hq : q ≤ 1048576) :
    Calls Try.prog 94 #[.agg #[.slice A n c], .slice B q d, .agg #[.int .i64 H, .int .i64 V, .int .i64 M, .int .i64 D], .int .i64 k] w fun e w' => e = .returned (.bool (insB zs n ls q H V M D k)) ∧ Below w.heap.size w w' := by
  have at0 := AT.start w (.slice A n c) H V M D 41 46
  have b0 := at_below w (.slice A n c) H V M D 41 46
  have h1 := h.after b0
  have l1 := hl.after b0
  have HAT := Lib.hid at0
  clear at0 b0 h hl
  have HI1 : Hid (pushB zs n ls q H V M D k = false → insB zs n ls q H V M D k = false) := insB_1
  have HI2 : Hid (pushB zs n ls q H V M D k = true → insB zs n ls q H V M D k = (decide (mIn zs n ls q H V M D k ≤ 0) && decide (0 ≤ mOut zs n ls q H V M D k))) := insB_t
  go_enter Try.func94, Try.ntmps94
  go_wp2_with fail
  refine (iMomentsAt_any _ _ _ zs _ _ _ ls _ _ _ _ _ _ h1 hn l1 hq).mono ?_
  rintro e w1 ⟨rfl, hb1⟩
  have HA1 := Lib.hid (HAT.out.after hb1)
  have h2 := h1.after hb1
  have l2 := l1.after hb1
  have a1 := HA1.out.arch.1
  have t10 := HA1.out.thr.1.1
  have t11 := HA1.out.thr.1.2.1
  have t12 := HA1.out.thr.1.2.2.1
  have t13 := HA1.out.thr.1.2.2.2
  clear hb1 h1 l1
  generalize mIn zs n ls q H V M D k = x at *
  generalize mOut zs n ls q H V M D k = y at *
  cases hP : pushB zs n ls q H V M D k
  · have HF := Lib.hid (HI1.out hP)
    go_wp2_with fail
    refine (pushOk_any _ _ _ zs _ _ _ ls _ _ _ _ _ _ h2 hn l2 hq).mono ?_
    rw [hP]
    rintro e w2 ⟨rfl, hb2⟩
    have HB2 := Lib.hid (HA1.out.after hb2).below
    clear hb2
    go_wp2
    go_ret
    exact ⟨ret_bool HF.out.symm, HB2.out⟩
  · have HF := Lib.hid (HI2.out hP)
    by_cases hx : x ≤ 0
    · go_wp2_with fail
      refine (pushOk_any _ _ _ zs _ _ _ ls _ _ _ _ _ _ h2 hn l2 hq).mono ?_
      rw [hP]
      rintro e w2 ⟨rfl, hb2⟩
      have HB2 := Lib.hid (HA1.out.after hb2).below
      have HG : Hid (insB zs n ls q H V M D k = decide (0 ≤ y)) := by show _ = _; rw [HF.out]; simp [hx]
      clear hb2
      go_wp2
      go_ret
      exact ⟨ret_bool HG.out.symm, HB2.out⟩
    · go_wp2_with fail
      refine (pushOk_any _ _ _ zs _ _ _ ls _ _ _ _ _ _ h2 hn l2 hq).mono ?_
      rw [hP]
      rintro e w2 ⟨rfl, hb2⟩
      have HB2 := Lib.hid (HA1.out.after hb2).below
      have HG : Hid (insB zs n ls q H V M D k = false) := by show _ = _; rw [HF.out, decide_eq_false (show ¬ x ≤ 0 by omega)]; rfl
      clear hb2
      go_wp2
      go_ret
      exact ⟨ret_bool HG.out.symm, HB2.out⟩

set_option maxRecDepth 100000 in
set_option maxHeartbeats 3200000 in
theorem iPlaceAt_any (A : Option Addr) (n c : Nat) (zs : List Int) (B : Option Addr) (q d : Nat) (ls : List Int) (H V M D k : Int) (w : World) (h : RecsAt w w.heap.size 4 A n zs) (hn : n ≤ 1048576) (hl : RecsAt w w.heap.size 3 B q ls) (hq : q ≤ 1048576) :
    Calls Try.prog 73 #[.agg #[.slice A n c], .slice B q d, .agg #[.int .i64 H, .int .i64 V, .int .i64 M, .int .i64 D], .int .i64 k] w (PlcPost w (plcB zs n ls q H V M D k) (plcN zs n ls q H V M D k) (plcD zs n ls q H V M D k)) := by
  have at0 := AT.start w (.slice A n c) H V M D 41 46
  have b0 := at_below w (.slice A n c) H V M D 41 46
  have h1 := h.after b0
  have l1 := hl.after b0
  have HAT := Lib.hid at0
  clear at0 b0 h hl
  have HP1 : Hid (insB zs n ls q H V M D k = false → plcB zs n ls q H V M D k = false) := plcB_1
  have HP2 : Hid (mIn zs n ls q H V M D k = 0 → mOut zs n ls q H V M D k = 0 → plcB zs n ls q H V M D k = false) := plcB_2
  have HP3 : Hid (insB zs n ls q H V M D k = true → ¬ (mIn zs n ls q H V M D k = 0 ∧ mOut zs n ls q H V M D k = 0) → plcB zs n ls q H V M D k = true) := plcB_t
  have HPF : Hid (plcB zs n ls q H V M D k = false → plcN zs n ls q H V M D k = 0 ∧ plcD zs n ls q H V M D k = 0) := plc_f
  have HPT : Hid (plcB zs n ls q H V M D k = true → plcN zs n ls q H V M D k = Int.tdiv (-mIn zs n ls q H V M D k) (plcG zs n ls q H V M D k) ∧ plcD zs n ls q H V M D k = Int.tdiv (mOut zs n ls q H V M D k - mIn zs n ls q H V M D k) (plcG zs n ls q H V M D k)) := plc_t
  have HPG : Hid (¬ (mIn zs n ls q H V M D k = 0 ∧ mOut zs n ls q H V M D k = 0) → 0 < plcG zs n ls q H V M D k) := plcG_pos
  have HGE : Hid (plcG zs n ls q H V M D k = Nat.gcd (mIn zs n ls q H V M D k).natAbs (mOut zs n ls q H V M D k - mIn zs n ls q H V M D k).natAbs) := rfl
  have HOK := Lib.hid (m_ok zs n ls q H V M D k)
  go_enter Try.func73, Try.ntmps73
  go_wp2_with fail
  refine (iIsInside_any _ _ _ zs _ _ _ ls _ _ _ _ _ _ h1 hn l1 hq).mono ?_
  rintro e w1 ⟨rfl, hb1⟩
  have HA1 := Lib.hid (HAT.out.after hb1)
  have h2 := h1.after hb1
  have l2 := l1.after hb1
  have a1 := HA1.out.arch.1
  have t10 := HA1.out.thr.1.1
  have t11 := HA1.out.thr.1.2.1
  have t12 := HA1.out.thr.1.2.2.1
  have t13 := HA1.out.thr.1.2.2.2
  clear hb1 h1 l1
  cases hI : insB zs n ls q H V M D k
  · have HF := Lib.hid (HP1.out hI)
    have HB1 := Lib.hid HA1.out.below
    clear hI
    go_wp2
    go_ret3
    exact ⟨by rw [HF.out, (HPF.out HF.out).1, (HPF.out HF.out).2]; rfl, HB1.out⟩
  · have HI := Lib.hid hI
    clear hI
    go_wp2_with fail
    refine (iMomentsAt_any _ _ _ zs _ _ _ ls _ _ _ _ _ _ h2 hn l2 hq).mono ?_
    rintro e w2 ⟨rfl, hb2⟩
    have HB2 := Lib.hid (HA1.out.after hb2).below
    clear hb2 h2 l2 a1 t10 t11 t12 t13
    generalize mIn zs n ls q H V M D k = x at *
    generalize mOut zs n ls q H V M D k = y at *
    generalize plcG zs n ls q H V M D k = g at *
    by_cases hz : x = 0 ∧ y = 0
    · obtain ⟨rfl, rfl⟩ := hz
      have HF := Lib.hid (HP2.out rfl rfl)
      go_wp2
      go_ret3
      exact ⟨by rw [HF.out, (HPF.out HF.out).1, (HPF.out HF.out).2]; rfl, HB2.out⟩
    · have HF := Lib.hid (HP3.out HI.out hz)
      have hg := HPG.out hz
      obtain ⟨nx, hnx⟩ : ∃ nx, nx = -x := ⟨_, rfl⟩
      obtain ⟨yx, hyx⟩ : ∃ yx, yx = y - x := ⟨_, rfl⟩
      have e1 : IntKind.i64.wrap (-x) = nx := by rw [hnx]; exact (okM_neg HOK.out.1).2
      have e2 : IntKind.i64.wrap (y - x) = yx := by rw [hyx]; exact (okM_sub HOK.out.1 HOK.out.2).2
      have o1 : okG nx := by rw [hnx]; exact (okM_neg HOK.out.1).1
      have o2 : okG yx := by rw [hyx]; exact (okM_sub HOK.out.1 HOK.out.2).1
      have ox : okG x := okM_G HOK.out.1
      have e3 : gcdTo [x, yx] 2 = g := by rw [gcdTo_2, hyx, HGE.out]
      have e4 := tdiv_ok o1 hg
      have e5 := tdiv_ok o2 hg
      have g0 : ((g : Int) == 0) = false := by simp; omega
      have g1 : ¬ (g : Int) = 0 := by omega
      have g2 : ¬ g = 0 := by omega
      have HN := Lib.hid hnx
      have HY := Lib.hid hyx
      have HGL : Hid (∀ j, okG (nth [x, yx] j)) := fun j => match j with | 0 => ox | 1 => o2 | j + 2 => by simp [nth, List.getD, okG]
      have hix : IntsAt (w2.alloc (.cells #[.int .i64 x, .int .i64 yx] 3)) (w2.alloc (.cells #[.int .i64 x, .int .i64 yx] 3)).heap.size (some ⟨w2.heap.size, 0, none⟩) 2 [x, yx] :=
        intsAt_row (World.rowIs_alloc w2 #[.int .i64 x, .int .i64 yx] 3 (ints [x, yx]) (fun j hj => by simp at hj; match j, hj with | 0, _ => rfl | 1, _ => rfl)) (by simp) (fun k _ => rfl)
      have HBA := Lib.hid (HB2.out.alloc HB2.out.size (.cells #[.int .i64 x, .int .i64 yx] 3))
      clear hnx hyx hg
      by_cases hx0 : x = 0
      · have hy0 : ¬ y = 0 := fun e => hz ⟨hx0, e⟩
        have d1 : (x == 0) = true := by simp [hx0]
        have d2 : (y == 0) = false := by simp [hy0]
        clear hz hx0
        go_wp2_with fail
        refine (commonDivisor_any _ _ _ [x, yx] _ hix (by omega) HGL.out).mono ?_
        rw [e3]
        rintro e w3 ⟨rfl, m3, rfl⟩
        clear hix
        go_wp2
        go_quiet (fail)
        go_wp2
        go_ret3
        exact ⟨by rw [HF.out, (HPT.out HF.out).1, (HPT.out HF.out).2, ← HN.out, ← HY.out]; rfl, below_drewN (below_drewN HBA.out _) _⟩
      · have d1 : (x == 0) = false := by simp [hx0]
        clear hz
        go_wp2_with fail
        refine (commonDivisor_any _ _ _ [x, yx] _ hix (by omega) HGL.out).mono ?_
        rw [e3]
        rintro e w3 ⟨rfl, m3, rfl⟩
        clear hix
        go_wp2
        go_quiet (fail)
        go_wp2
        go_ret3
        exact ⟨by rw [HF.out, (HPT.out HF.out).1, (HPT.out HF.out).2, ← HN.out, ← HY.out]; rfl, below_drewN (below_drewN HBA.out _) _⟩
end Go.Proofs.Ytdjhiegolojoaaa
