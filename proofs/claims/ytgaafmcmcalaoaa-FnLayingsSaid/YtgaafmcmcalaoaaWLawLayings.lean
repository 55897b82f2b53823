/-
  The walk of the law FnLayings.
-/
import Derived.Test.YtgaafmcmcalaoaaWDrawLay
import Derived.Test.YtgaafmcmcalaoaaWLay
import Derived.Test.YtgaafmcmcalaoaaWImb
import Derived.BigQuiet
namespace Go.Proofs.Ytgaafmcmcalaoaa
open Go.RowKit
set_option linter.unusedSimpArgs false

theorem OwnV.cap {w : World} {base : Nat} {E : TypeId} {A : Option Addr} {n c : Nat} {xs : List Int} (h : OwnV w base E (.slice A n c) xs) : n ≤ c := by
  rcases h.2 with ⟨h1, h2⟩ | ⟨g, cap, cur, h1, hb, hg, hc, _⟩
  · simp at h1; omega
  · simp at h1
    obtain ⟨_, hn, rfl⟩ := h1
    rw [hn]
    exact hc
theorem quiet_sm {P : Program} {f : FuncId} {args : Array Value} {w : World} {n : Nat} {v : Value}
    (h : Calls P f args (w.drewN n) fun e w' => e = .returned v ∧ w.drewN n = w') : Calls P f args (w.drewN n) fun e w'' => e = .returned v ∧ ∃ m, w'' = w.drewN m :=
  h.mono fun _ _ ⟨he, hm⟩ => ⟨he, n, hm.symm⟩
theorem tmod_bd {r : Int} {P : Nat} (h0 : 0 ≤ r) (hP : 0 < P) : ∃ x : Nat, Int.tmod r (P : Int) = (x : Int) ∧ x < P := by
  have hp : (0 : Int) < (P : Int) := by omega
  rw [Int.tmod_eq_emod_of_nonneg h0]
  have h1 := Int.emod_nonneg r (show (P : Int) ≠ 0 by omega)
  have h2 := Int.emod_lt_of_pos r hp
  obtain ⟨x, hx⟩ := Int.eq_ofNat_of_zero_le h1
  exact ⟨x, hx, by omega⟩

set_option maxRecDepth 100000 in
set_option maxHeartbeats 12800000 in
theorem layings_walk (A : Option Addr) (n c : Nat) (zs : List Int) (w : World) (h : BytesAt w w.heap.size A n zs) :
    Calls Try.prog 6 #[.slice A n c] w fun e w' => e = .returned (.bool true) ∧ Below w.heap.size w w' := by
  by_cases hbig : (1048576 : Int) < (n : Int)
  · have hB : decide ((1048576 : Int) < (n : Int)) = true := by simp [hbig]
    have HB := Lib.hid hB
    clear hB h
    go_enter Try.func6, Try.ntmps6
    go_wp2_with fail
    refine (big_any _ _ _ _).mono ?_
    rw [HB.out]
    rintro e w1 ⟨rfl, rfl⟩
    go_wp2
    go_ret
    exact ⟨rfl, Below.refl _ _⟩
  · have hn : n ≤ 1048576 := by omega
    have HB := Lib.hid (show decide ((1048576 : Int) < (n : Int)) = false by simp [hbig])
    have HAT : Hid (∀ (i : Int) (w' : World), Below w.heap.size w w' → (0 ≤ i ∧ i ≤ 1000) → Calls Try.prog 21 #[.slice A n c, .int .i64 i] w' fun e w'' => e = .returned (.int .i64 (atV zs n i)) ∧ w' = w'') :=
      Lib.hid fun i w' hb hi => at_any A n c zs i w' ((h.below hb).mono hb.size) hn hi
    have r0 := atV_bd h.1.2 n 0
    have r1 := atV_bd h.1.2 n 1
    have HBY := Lib.hid h
    clear hbig h
    go_enter Try.func6, Try.ntmps6
    go_wp2_with fail
    refine (big_any _ _ _ _).mono ?_
    rw [HB.out]
    rintro e w1 ⟨rfl, rfl⟩
    go_wp2_with fail
    refine (drawLaying_any A n c zs _ HBY.out hn).mono ?_
    rintro e w2 ⟨m, x, Ao, ko, co, rfl, hm, hx, hown, hb2⟩
    have hko : ko = m + 1 := by rw [hown.len, (lay_facts hm hx).len]
    subst hko
    have HO := Lib.hid hown
    have HB2 := Lib.hid hb2
    have HX := Lib.hid hx
    clear hown hb2 hx
    have ew2 : IntKind.i64.wrap ((m : Int) + 1 - 1) = (m : Int) := by rw [Int.add_sub_cancel]; exact IntWalk.i64_in _ (by omega)
    have hp : ∃ P : Nat, 2 ^ m = P ∧ wrap64 ((2 : Int) ^ m) = (P : Int) ∧ 0 < P ∧ P ≤ 128 := by
      have h : m = 0 ∨ m = 1 ∨ m = 2 ∨ m = 3 ∨ m = 4 ∨ m = 5 ∨ m = 6 ∨ m = 7 := by omega
      rcases h with rfl | rfl | rfl | rfl | rfl | rfl | rfl | rfl <;> exact ⟨_, rfl, by simp [wrap64], by decide, by decide⟩
    obtain ⟨P, hP, hW, hP0, hP1⟩ := hp
    obtain ⟨i, hi, hiP⟩ := tmod_bd r0.1 hP0
    obtain ⟨j, hj, hjP⟩ := tmod_bd r1.1 hP0
    have HIP := Lib.hid (show i < 2 ^ m by omega)
    have HJP := Lib.hid (show j < 2 ^ m by omega)
    have HLY := Lib.hid (show layings ((m : Int) + 1) = (P : Int) by
      rw [layings_t (by omega), ← hW]
      congr 2)
    clear hP
    go_wp2_with (go_at_call 20; refine (iCountLayings_any _ _ (by omega) (by omega)).mono ?_; rw [HLY.out]; rintro e w' ⟨rfl, rfl⟩)
    go_quiet ((go_at_call 21; exact quiet_sm (HAT.out 0 _ (below_drewN HB2.out _) (by omega))))
    have HBa := Lib.hid (below_drewN HB2.out nq)
    have HOa := Lib.hid (HO.out.drewN nq)
    generalize w2.drewN nq = w3 at HBa HOa ⊢
    clear HO HB2
    go_wp2
    go_quiet ((go_at_call 21; exact quiet_sm (HAT.out 1 _ (below_drewN HBa.out _) (by omega))))
    have HBb := Lib.hid (below_drewN HBa.out nq)
    have HOb := Lib.hid (HOa.out.drewN nq)
    generalize w3.drewN nq = w4 at HBb HOb ⊢
    clear HOa HBa hi hj
    have HI := Lib.hid (lay_facts hm HIP.out)
    have HJ := Lib.hid (lay_facts hm HJP.out)
    have HXX := Lib.hid (lay_facts hm HX.out)
    go_wp2_with fail
    refine (iLayingAt_any _ _ _ (by omega) (by omega)).mono ?_
    rintro e w5 ⟨Ai, ki, ci, rfl, hoi, hb5⟩
    rw [layOk_of hm HIP.out] at hoi ⊢
    rw [if_pos rfl] at hoi
    have hki : ki = m + 1 := by rw [hoi.len, HI.out.len]
    subst hki
    have HOI := Lib.hid hoi
    have HBc := Lib.hid (HBb.out.trans (hb5.mono HBb.out.size))
    have HOc := Lib.hid (HOb.out.below hb5)
    clear hoi hb5 HBb HOb
    go_wp2_with fail
    refine (iLayingAt_any _ _ _ (by omega) (by omega)).mono ?_
    rintro e w6 ⟨Aj, kj, cj, rfl, hoj, hb6⟩
    rw [layOk_of hm HJP.out] at hoj ⊢
    rw [if_pos rfl] at hoj
    have hkj : kj = m + 1 := by rw [hoj.len, HJ.out.len]
    subst hkj
    have HOJ := Lib.hid hoj
    have HBd := Lib.hid (HBc.out.trans (hb6.mono HBc.out.size))
    have HOd := Lib.hid (HOc.out.below hb6)
    have HOId := Lib.hid (HOI.out.below hb6)
    clear hoj hb6 HBc HOc HOI
    go_wp2_with fail
    refine (iImbalance_any _ _ _ _ _ _ HOd.out.intsAt HOd.out.cap).mono ?_
    rintro e w7 ⟨rfl, hb7⟩
    have HBe := Lib.hid (HBd.out.trans (hb7.mono HBd.out.size))
    have HOe := Lib.hid (HOd.out.below hb7)
    have HOIe := Lib.hid (HOId.out.below hb7)
    have HOJe := Lib.hid (HOJ.out.below hb7)
    clear hb7 HBd HOd HOId HOJ
    obtain ⟨q, hq, hq1, hq2⟩ : ∃ q : Int, imbI ((m : Int) + 1) (layL ((m : Int) + 1) (x : Int)) (m + 1) = q ∧ 0 ≤ q ∧ q ≤ (m : Int) := ⟨_, rfl, HXX.out.imb0, HXX.out.imb1⟩
    have HQ3 := Lib.hid (show m = 0 ∨ 1 ≤ q by rw [← hq]; exact HXX.out.imb2)
    rw [hq]
    clear hq
    go_wp2
    have HIo := Lib.hid HOe.out.intsAt
    have HIi := Lib.hid HOIe.out.intsAt
    have HIj := Lib.hid HOJe.out.intsAt
    have HKY := Lib.hid HXX.out.key
    generalize hL : layL ((m : Int) + 1) (x : Int) = L at HIo HKY
    have HL := Lib.hid hL
    clear hL HOe HOIe HOJe
    go_loopw [13, 14] (fun l i wr => ∃ k : Nat, k ≤ m ∧ l = .int .i64 (leftN L k) ∧ i = .int .i64 k ∧ Below w.heap.size w wr ∧ Below w7.heap.size w7 wr) (fun _ i _ => m - (intOf i).toNat)
    case atStart => exact ⟨0, Nat.zero_le _, rfl, rfl, HBe.out, Below.refl _ _⟩
    case round =>
      obtain ⟨k, hk, rfl, rfl, hb, hb'⟩ := hrel
      have HBf := Lib.hid hb
      have HBg := Lib.hid hb'
      have HIr := Lib.hid (show IntsAt wr wr.heap.size Ao (m + 1) L from HIo.out.after hb')
      clear hb hb'
      by_cases hlt : k < m
      · obtain ⟨b, off, rfl, hbB, hcc⟩ := HIr.out.2 (by omega)
        have x0 := hcc k (by omega)
        have i1 : (k : Int) < (m : Int) := by omega
        have i2 : (k : Int) < (m : Int) + 1 := by omega
        have i0 : (0 : Int) ≤ (k : Int) := by omega
        clear hcc
        have HS := Lib.hid (leftN_bd L k)
        by_cases hc : nth L k < keyL L
        · have HC := Lib.hid (show leftN L (k + 1) = leftN L k + 1 by simp only [leftN, if_pos hc])
          go_wp2
          go_quiet (first | (go_at_call 24; exact quiet_sm (iKeyOf_any _ _ _ L _ (HIr.out.after (below_drewN (Below.refl _ _) _)) (by omega))) | (go_at_call 23; exact quiet_sm (btoi_any _ _)))
          go_wp2
          go_roundw
          case rel => exact ⟨k + 1, by omega, by rw [HC.out]; exact congrArg (Value.int .i64) (IntWalk.wrap64_in _ (by have := HS.out; omega)), by go_num, below_drewN HBf.out _, below_drewN HBg.out _⟩
          case measure => simp [intOf]; omega
        · have HC := Lib.hid (show leftN L (k + 1) = leftN L k by simp only [leftN, if_neg hc]; omega)
          go_wp2
          go_quiet (first | (go_at_call 24; exact quiet_sm (iKeyOf_any _ _ _ L _ (HIr.out.after (below_drewN (Below.refl _ _) _)) (by omega))) | (go_at_call 23; exact quiet_sm (btoi_any _ _)))
          go_wp2
          go_roundw
          case rel => exact ⟨k + 1, by omega, by rw [HC.out]; exact congrArg (Value.int .i64) (IntWalk.wrap64_in _ (by have := HS.out; omega)), by go_num, below_drewN HBf.out _, below_drewN HBg.out _⟩
          case measure => simp [intOf]; omega
      · have hkm : k = m := by omega
        subst hkm
        have HIi2 := Lib.hid (show IntsAt wr wr.heap.size Ai (k + 1) _ from HIi.out.after HBg.out)
        have HIj2 := Lib.hid (show IntsAt wr wr.heap.size Aj (k + 1) _ from HIj.out.after HBg.out)
        have HLI := Lib.hid (HI.out.lay)
        have HLX := Lib.hid (show layB ((k : Int) + 1) L (k + 1) = true by rw [← HL.out]; exact HXX.out.lay)
        obtain ⟨be, hbe, HEQ⟩ : ∃ be : Bool, ((i : Int) == (j : Int)) = be ∧ Hid (eqL (layL ((k : Int) + 1) (i : Int)) (layL ((k : Int) + 1) (j : Int)) = be) := by
          by_cases hij : i = j
          · exact ⟨true, by simp [hij], Lib.hid (by simp [eqL, hij])⟩
          · exact ⟨false, by simp; omega, Lib.hid (by simp only [eqL, decide_eq_false_iff_not]; exact fun e => hij (lay_inj hm HIP.out HJP.out e))⟩
        generalize hkl : leftN L k = lf at HKY
        clear hkl
        go_wp2_with fail
        refine (iIsLaying_any _ _ _ _ _ _ HIi2.out).mono ?_
        rw [HLI.out]
        rintro e w8 ⟨rfl, hb8⟩
        have HBh := Lib.hid (HBf.out.trans (hb8.mono HBf.out.size))
        have HI8 := Lib.hid (HIr.out.after hb8)
        have HI8i := Lib.hid (HIi2.out.after hb8)
        have HI8j := Lib.hid (HIj2.out.after hb8)
        clear hb8 HBf HBg HIi2 HIj2 HIi HIj HIr
        go_wp2_with fail
        refine (iIsLaying_any _ _ _ _ _ _ HI8.out).mono ?_
        rw [HLX.out]
        rintro e w9 ⟨rfl, hb9⟩
        have HBi := Lib.hid (HBh.out.trans (hb9.mono HBh.out.size))
        have HI9 := Lib.hid (HI8.out.after hb9)
        have HI9i := Lib.hid (HI8i.out.after hb9)
        have HI9j := Lib.hid (HI8j.out.after hb9)
        clear hb9 HBh HI8 HI8i HI8j
        go_wp2_with fail
        refine (sameInts_any _ _ _ _ _ _ _ _ _ HI9i.out HI9j.out (by omega) (by omega)).mono ?_
        rw [HEQ.out]
        rintro e w10 ⟨rfl, hb10⟩
        have HBj := Lib.hid (HBi.out.trans (hb10.mono HBi.out.size))
        have HI10 := Lib.hid (HI9.out.after hb10)
        clear hb10 HBi HI9 HI9i HI9j
        go_wp2_with fail
        refine (iKeyOf_any _ _ _ L _ HI10.out (by omega)).mono ?_
        rw [HKY.out]
        rintro e w11 ⟨rfl, rfl⟩
        have HKN := Lib.hid (show keyL [] = -1 by rfl)
        by_cases hk0 : k = 0
        · subst hk0
          go_wp2_with fail
          refine (iKeyOf_any none 0 0 [] _ IntsAt.nil (by omega)).mono ?_
          rw [HKN.out]
          rintro e w12 ⟨rfl, rfl⟩
          go_wp2
          go_ret
          exact ⟨rfl, HBj.out⟩
        · have hq1' : 1 ≤ q := HQ3.out.resolve_left hk0
          have hk1 : ((k : Int) + 1 == 1) = false := by simp; omega
          go_wp2_with fail
          refine (iKeyOf_any none 0 0 [] _ IntsAt.nil (by omega)).mono ?_
          rw [HKN.out]
          rintro e w12 ⟨rfl, rfl⟩
          go_wp2
          go_ret
          exact ⟨rfl, HBj.out⟩
end Go.Proofs.Ytgaafmcmcalaoaa
