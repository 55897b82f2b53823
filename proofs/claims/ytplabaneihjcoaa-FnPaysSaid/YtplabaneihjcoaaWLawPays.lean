/-
  The walk of the law FnPays.
-/
import Derived.Test.YtplabaneihjcoaaPPays
import Derived.Test.YtplabaneihjcoaaWBusyI
import Derived.Test.YtplabaneihjcoaaWDrawStones
import Derived.Test.YtplabaneihjcoaaWDrawWts
import Derived.Test.YtplabaneihjcoaaWFairK
import Derived.Test.YtplabaneihjcoaaWBigAt
import Derived.Test.YtplabaneihjcoaaHeld
import Derived.Deep.RegionHeld3
import Derived.BigRegion
import Derived.OneCell
import Derived.Deep.DeepCutAuto
namespace Go.Proofs.Ytplabaneihjcoaa
open Go.RowKit
set_option linter.unusedSimpArgs false
set_option linter.unusedVariables false

theorem own_zero4 (w : World) : OwnI (w.alloc (.cells #[.int .i64 0, .int .i64 0, .int .i64 0, .int .i64 0] 3)) w.heap.size 3 w.heap.size 4 [0, 0, 0, 0] := by
  have h := OwnI.zeros w 3 4 (by simp [maxLen])
  have e : madeCells #[Value.int .i64 0] 4 = #[.int .i64 0, .int .i64 0, .int .i64 0, .int .i64 0] := by rw [madeCells, show Array.range 4 = #[0, 1, 2, 3] from rfl]; simp [Nat.mod_one]
  rw [e] at h
  exact h

theorem OwnI.other {w : World} {base g cap : Nat} {E : TypeId} {xs : List Int} (h : OwnI w base E g cap xs) {a : Addr} (ha : a.block ≠ g) (u : Value) : OwnI (w.setCell a u) base E g cap xs :=
  ownsRow_setCell_other h (by simp [Value.ownBlock]; omega) u

set_option maxRecDepth 100000 in
set_option maxHeartbeats 12800000 in
theorem pays_walk (A : Option Addr) (n c : Nat) (zs : List Int) (w : World) (h : BytesAt w w.heap.size A n zs) :
    Calls Try.prog 3 #[.slice A n c] w fun e w' => e = .returned (.bool true) ∧ Below w.heap.size w w' := by
  by_cases hbig : (1048576 : Int) < (n : Int)
  · have HB := Lib.hid (show decide ((1048576 : Int) < (n : Int)) = true by simp [hbig])
    clear h
    go_enter Try.func3, Try.ntmps3
    go_wp2_with fail
    refine (big_any _ _ _ _).mono ?_
    rw [HB.out]
    rintro e w1 ⟨rfl, rfl⟩
    go_wp2
    go_ret
    exact ⟨rfl, Below.refl _ _⟩
  · have hn : n ≤ 1048576 := by omega
    have HB := Lib.hid (show decide ((1048576 : Int) < (n : Int)) = false by simp [hbig])
    have HBY := Lib.hid h
    obtain ⟨rate, er⟩ : ∃ r, atV zs n 0 = r := ⟨_, rfl⟩
    have hrb : 0 ≤ rate ∧ rate ≤ 255 := by rw [← er]; exact atV_bd h.1.2 n 0
    have HAT := Lib.hid er
    clear hbig h er
    go_enter Try.func3, Try.ntmps3
    go_wp2_with fail
    refine (big_any _ _ _ _).mono ?_
    rw [HB.out]
    rintro e w1 ⟨rfl, rfl⟩
    go_wp2_with fail
    refine (drawMarked_any A n c zs _ HBY.out hn).mono ?_
    rintro e w2 ⟨S, M, m, c2, d2, L, ms, rfl, hm5, hN, hst, hI, hmk, hb2⟩
    have hlaw := pay_law (rate := rate) hm5 hst hmk (by omega)
    have HN2 := Lib.hid hN
    have HI2 := Lib.hid hI
    have HB2 := Lib.hid hb2
    have HBY2 := Lib.hid (HBY.out.after hb2)
    have HL := Lib.hid hlaw
    have HRN : Hid (∀ i, i < m → rowN L i ≤ 1048576) := Lib.hid fun i hi => by have := (stoneB_out (hst i hi)).1; omega
    clear hN hI hb2 hst hmk HBY
    go_wp2_with fail
    refine (at_any _ _ _ zs 0 _ HBY2.out hn (by omega)).mono ?_
    rw [HAT.out]
    rintro e w3 ⟨rfl, rfl⟩
    go_wp2_with fail
    refine (iPayAll_any _ _ _ L _ _ _ ms rate _ HN2.out HI2.out (by omega) (by omega)).mono ?_
    rintro e w4 ⟨A4, k4, c4, rfl, ho4, hb4⟩
    rw [HL.out.all] at ho4
    have hl4 := ho4.len
    rw [payAllTo_len] at hl4
    subst hl4
    have HA4 := Lib.hid ho4.intsAt
    have HN4 := Lib.hid (HN2.out.after hb4)
    have HI4 := Lib.hid (HI2.out.after hb4)
    have HB4 := Lib.hid (below_then HB2.out hb4)
    have HBY4 := Lib.hid (HBY2.out.after hb4)
    clear ho4 hb4 HN2 HI2 HB2 HBY2
    go_wp2_with fail
    refine (iBusiest_any _ _ _ L _ _ _ ms _ HN4.out HI4.out (by omega) (by omega)).mono ?_
    rintro e w5 ⟨rfl, hb5⟩
    obtain ⟨bz, eb⟩ : ∃ b, busyI L m ms m = b := ⟨_, rfl⟩
    have hbz : 0 < bz ↔ 0 < m := by rw [← eb]; exact HL.out.busy
    rw [eb]
    have HBZ := Lib.hid hbz
    have HA5 := Lib.hid (HA4.out.after hb5)
    have HN5 := Lib.hid (HN4.out.after hb5)
    have HI5 := Lib.hid (HI4.out.after hb5)
    have HB5 := Lib.hid (below_then HB4.out hb5)
    have HBY5 := Lib.hid (HBY4.out.after hb5)
    clear hb5 HN4 HI4 HB4 HBY4 HA4 eb hbz hlaw
    have n9 : ((9 : Nat) : Int) = 9 := rfl
    go_wp2_with fail
    refine (iMarksOk_any _ _ _ L _ _ _ ms _ HN5.out HI5.out (by omega) (by omega)).mono ?_
    rw [HL.out.marks]
    rintro e w6 ⟨rfl, hb6⟩
    have HA6 := Lib.hid (HA5.out.after hb6)
    have HN6 := Lib.hid (HN5.out.after hb6)
    have HI6 := Lib.hid (HI5.out.after hb6)
    have HB6 := Lib.hid (below_then HB5.out hb6)
    have HBY6 := Lib.hid (HBY5.out.after hb6)
    clear hb6 HN5 HI5 HB5 HBY5 HA5
    have HP0 := Lib.hid (show nineTo L ms rate m 0 = 0 from rfl)
    go_wp2
    go_loopw [8, 9] (fun v8 v9 wr => ∃ k : Nat, k ≤ 9 ∧ v9 = .int .i64 k ∧ v8 = .int .i64 (nineTo L ms rate m k) ∧ Hid (Below w6.heap.size w6 wr)) (fun _ v9 _ => 9 - (intOf v9).toNat)
    case atStart => exact ⟨0, by omega, rfl, by rw [HP0.out], Lib.hid (Below.refl _ _)⟩
    case round =>
      obtain ⟨k, hk, rfl, rfl, HBW⟩ := hrel
      have hs := nineTo_bd L ms m (rate := rate) (by omega) (by omega) k
      by_cases hlt : k < 9
      · have HAw := Lib.hid (HA6.out.after HBW.out)
        have HNw := Lib.hid (HN6.out.after HBW.out)
        have HIw := Lib.hid (HI6.out.after HBW.out)
        obtain ⟨b, off, rfl, hbB, hc⟩ := HAw.out.2 (by omega)
        have hcx := hc k hlt
        have hone := HL.out.one k hlt
        rw [hone.1] at hcx
        have hpb := payTo_bd L ms ((k : Int) + 1) (rate := rate) (by omega) m
        have HST : Hid (nineTo L ms rate m (k + 1) = nineTo L ms rate m k + payTo L ms ((k : Int) + 1) rate m) := rfl
        obtain ⟨u, eu⟩ : ∃ u, payTo L ms ((k : Int) + 1) rate m = u := ⟨_, rfl⟩
        obtain ⟨z, ez⟩ : ∃ z, nineTo L ms rate m k = z := ⟨_, rfl⟩
        rw [eu] at hcx HST hpb hone
        rw [ez] at HST hs
        rw [ez]
        have HU := Lib.hid hone.2
        have ki : (k : Int) < 9 := by omega
        have e1 : IntKind.i64.wrap (z + u) = z + u := IntWalk.i64_in _ (by omega)
        have e2 : IntKind.i64.wrap ((k : Int) + 1) = (k : Int) + 1 := IntWalk.i64_in _ (by omega)
        have HBB := Lib.hid hbB
        have HNd : Hid (NestAt wr.drew wr.drew.heap.size 2 S m L) := HNw
        have HId : Hid (IntsAt wr.drew wr.drew.heap.size M m ms) := HIw
        have n0 : ((u : Int) != u) = false := by simp
        clear hc hone eu ez hlt hs hpb
        go_wp2
        refine wp_region_held_drew (S := fun w' => w'.cell? ⟨b, off + k, none⟩ = some (.int .i64 u)) (by kernel_rfl) (by first | exact hcx | exact dcx) (fun hHeld => ?_)
        refine take_heldS (i := 0) (d := 56) rfl rfl (by kernel_rfl) (by kernel_rfl) (by kernel_rfl) (fun _ _ _ h => h) (by kernel_rfl) (fun w hSw => by (try dsimp only at hSw); go_simp; try rfl) (by assumption) ?_
        try simp only [Act.put, List.setIfInBounds_toArray, List.set_cons_zero, List.set_cons_succ]
        refine take_heldS (i := 1) (d := 57) rfl rfl (by kernel_rfl) (by kernel_rfl) (by kernel_rfl) (fun _ _ _ h => h) (by kernel_rfl) (fun w hSw => by (try dsimp only at hSw); go_simp; try rfl) (by assumption) ?_
        try simp only [Act.put, List.setIfInBounds_toArray, List.set_cons_zero, List.set_cons_succ]
        refine take_heldS (i := 2) (d := 58) rfl rfl (by kernel_rfl) (by kernel_rfl) (by kernel_rfl) (fun _ _ _ h => h) (by kernel_rfl) (fun w hSw => by (try dsimp only at hSw); go_simp; try rfl) (by assumption) ?_
        try simp only [Act.put, List.setIfInBounds_toArray, List.set_cons_zero, List.set_cons_succ]
        refine take_heldS (i := 3) (d := 59) rfl rfl (by kernel_rfl) (by kernel_rfl) (by kernel_rfl) (fun _ _ _ h => h) (by kernel_rfl) (fun w hSw => by (try dsimp only at hSw); go_simp; try rfl) (by assumption) ?_
        try simp only [Act.put, List.setIfInBounds_toArray, List.set_cons_zero, List.set_cons_succ]
        refine take_heldS (i := 4) (d := 60) rfl rfl (by kernel_rfl) (by kernel_rfl) (by kernel_rfl) (fun _ _ _ h => h) (by kernel_rfl) (fun w hSw => by (try dsimp only at hSw); go_simp; try rfl) (by assumption) ?_
        try simp only [Act.put, List.setIfInBounds_toArray, List.set_cons_zero, List.set_cons_succ]
        refine take_heldS (i := 5) (d := 61) rfl rfl (by kernel_rfl) (by kernel_rfl) (by kernel_rfl) (fun _ _ _ h => h) (by kernel_rfl) (fun w hSw => by (try dsimp only at hSw); go_simp; try rfl) (by assumption) ?_
        try simp only [Act.put, List.setIfInBounds_toArray, List.set_cons_zero, List.set_cons_succ]
        refine take_heldS (i := 6) (d := 62) rfl rfl (by kernel_rfl) (by kernel_rfl) (by kernel_rfl) (fun _ _ _ h => h) (by kernel_rfl) (fun w hSw => by (try dsimp only at hSw); go_simp; try rfl) (by assumption) ?_
        try simp only [Act.put, List.setIfInBounds_toArray, List.set_cons_zero, List.set_cons_succ]
        refine take_heldS (i := 7) (d := 63) rfl rfl (by kernel_rfl) (by kernel_rfl) (by kernel_rfl) (fun _ _ _ h => h) (by kernel_rfl) (fun w hSw => by (try dsimp only at hSw); go_simp; try rfl) (by assumption) ?_
        try simp only [Act.put, List.setIfInBounds_toArray, List.set_cons_zero, List.set_cons_succ]
        refine take_heldS (i := 8) (d := 64) rfl rfl (by kernel_rfl) (by kernel_rfl) (by kernel_rfl) (fun _ _ _ h => h) (by kernel_rfl) (fun w hSw => by (try dsimp only at hSw); go_simp; try rfl) (by assumption) ?_
        try simp only [Act.put, List.setIfInBounds_toArray, List.set_cons_zero, List.set_cons_succ]
        refine wpAnyH_ready (rs := [9]) (by kernel_rfl) (by simp) ?_
        refine AllReadyH.cons rfl (fun K hK => ?_) AllReadyH.nil
        go_simp
        (with_reducible refine (iPayOf_any _ _ _ L _ _ _ ms _ rate _ (by exact HNd.out) (by exact HId.out) (by omega) (by omega)).mono ?_); rw [HU.out]; rintro e w8 ⟨rfl, hb8⟩; have dcx := (hb8.cell (p := ⟨b, off + k, none⟩) (by exact HBB.out)).trans hcx
        refine hK.out _ _ (by first | exact hcx | exact dcx) (fun hHeld => ?_)
        clear hK K
        try simp only [Act.put, List.setIfInBounds_toArray, List.set_cons_zero, List.set_cons_succ]
        refine take_heldS (i := 10) (d := 66) rfl rfl (by kernel_rfl) (by kernel_rfl) (by kernel_rfl) (fun _ _ _ h => h) (by kernel_rfl) (fun w hSw => by (try dsimp only at hSw); go_simp; try rfl) (by assumption) ?_
        try simp only [Act.put, List.setIfInBounds_toArray, List.set_cons_zero, List.set_cons_succ]
        refine wpAnyH_done (by kernel_rfl) ?_ _
        have HBN := Lib.hid (below_then HBW.out (below_undrew hb8))
        clear dcx hcx hb8 hHeld HBW HAw HNw HIw HNd HId HBB
        go_wp2
        go_roundw
        case rel => exact ⟨k + 1, by omega, by go_num, by rw [HST.out], HBN⟩
        case measure => simp [intOf]; omega
      · obtain rfl : k = 9 := by omega
        rw [HL.out.sum]
        have hs9 := totTo_bd L (rate := rate) (by omega) m
        obtain ⟨tot, et⟩ : ∃ t, totTo L rate m = t := ⟨_, rfl⟩
        rw [et]
        have HT := Lib.hid et
        have HBx := Lib.hid (below_then HB6.out HBW.out)
        have HNx := Lib.hid (HN6.out.after HBW.out)
        have HBYx := Lib.hid (HBY6.out.after HBW.out)
        have i9 : ¬ (9 : Int) < 9 := by omega
        clear hlt hk hs HBW HA6 HN6 HI6 HB6 HBY6 et hs9
        go_wp2
        go_loopw [10, 11] (fun v10 v11 wr' => ∃ k : Nat, k ≤ m ∧ v11 = .int .i64 k ∧ v10 = .int .i64 (totTo L rate k) ∧ Hid (Below wr.heap.size wr wr')) (fun _ v11 _ => m - (intOf v11).toNat)
        case atStart => exact ⟨0, by omega, rfl, rfl, Lib.hid (Below.refl _ _)⟩
        case round =>
          obtain ⟨k, hk, rfl, rfl, HBW⟩ := hrel
          have hs := totTo_bd L (rate := rate) (by omega) k
          by_cases hlt : k < m
          · have HNw := Lib.hid (HNx.out.after HBW.out)
            obtain ⟨b, off, rfl, hbB, hc⟩ := HNw.out.2 (by omega)
            obtain ⟨Ai, ci, hcx, hrec, hr1, hr2⟩ := hc k hlt
            have hpb := payAt_bd L (rate := rate) k (by omega)
            have HST : Hid (totTo L rate (k + 1) = totTo L rate k + payAt L rate k) := rfl
            have HPA : Hid (payAt L rate k = Int.tdiv (rate * weightI (rowZ L k) (rowN L k)) 100) := rfl
            unfold payAt at HST hpb
            have hrk := HRN.out k hlt
            have ki : (k : Int) < (m : Int) := by omega
            have hp1 := hpb.1
            have hp2 := hpb.2
            have e2 : IntKind.i64.wrap ((k : Int) + 1) = (k : Int) + 1 := IntWalk.i64_in _ (by omega)
            have e3 : IntKind.i64.wrap (rate * weightI (rowZ L k) (rowN L k)) = rate * weightI (rowZ L k) (rowN L k) := IntWalk.i64_in _ (by omega)
            have HR := Lib.hid hrec
            clear hc hrec hr1 hr2 hlt hpb HNw
            go_wp2_with fail
            refine (sWeightOf_any _ _ _ (rowZ L k) _ HR.out hrk).mono ?_
            rintro e w9 ⟨rfl, hb9⟩
            have HB9 := Lib.hid (below_then HBW.out hb9)
            clear hb9 HBW
            go_wp2
            go_roundw
            case rel => exact ⟨k + 1, by omega, by go_num, by rw [HST.out], HB9⟩
            case measure => simp [intOf]; omega
          · obtain rfl : m = k := by omega
            rw [HT.out]
            have im : ¬ (m : Int) < (m : Int) := by omega
            have HBz := Lib.hid (below_then HBx.out HBW.out)
            have HBYz := Lib.hid (HBYx.out.after HBW.out)
            clear hs hlt hk HBW HNx HBYx HBx
            go_wp2_with fail
            refine (drawWeights_any _ _ _ zs _ HBYz.out hn).mono ?_
            rintro e w10 ⟨G, q, cq, ws, rfl, hq6, hql, hwt, hqi, hqc, hb10⟩
            obtain rfl := hql
            have hfl := fair_law (ws := ws) hwt hq6
            obtain ⟨F, eF⟩ : ∃ F, fairL ws 2 = F := ⟨_, rfl⟩
            obtain ⟨Gm, eG⟩ : ∃ F, fairL ws 3 = F := ⟨_, rfl⟩
            rw [eF, eG] at hfl
            have HF := Lib.hid hfl
            have EF := Lib.hid (show fairL ws (2 : Int).toNat = F from eF)
            have EG := Lib.hid (show fairL ws (3 : Int).toNat = Gm from eG)
            have HQ10 := Lib.hid hqi
            have HB10 := Lib.hid (below_then HBz.out hb10)
            have HWT := Lib.hid hwt
            clear hqi hb10 hfl hwt HBz HBYz hqc eF eG HT
            go_wp2_with fail
            refine (iFair_any _ _ _ ws 2 _ HQ10.out (by omega)).mono ?_
            rintro e w11 ⟨A11, k11, c11, rfl, ho11, hb11⟩
            rw [HF.out.okF] at ho11 ⊢
            rw [if_pos rfl, EF.out] at ho11
            obtain rfl : k11 = ws.length := by rw [ho11.len, HF.out.lenF]
            have HQ11 := Lib.hid (HQ10.out.after hb11)
            have HB11 := Lib.hid (below_then HB10.out hb11)
            have HF11 := Lib.hid ho11.intsAt
            clear HQ10 HB10 hb11 ho11
            go_wp2_with fail
            refine (iFair_any _ _ _ ws 3 _ HQ11.out (by omega)).mono ?_
            rintro e w12 ⟨A12, k12, c12, rfl, ho12, hb12⟩
            rw [HF.out.okG] at ho12 ⊢
            rw [if_pos rfl, EG.out] at ho12
            obtain rfl : k12 = ws.length := by rw [ho12.len, HF.out.lenG]
            have HQ12 := Lib.hid (HQ11.out.after hb12)
            have HB12 := Lib.hid (below_then HB11.out hb12)
            have HF12 := Lib.hid (HF11.out.after hb12)
            have HG12 := Lib.hid ho12.intsAt
            clear HQ11 HB11 HF11 hb12 ho12
            have nq : (((ws.length : Nat) : Int) != ((ws.length : Nat) : Int)) = false := by simp
            have HX0 := Lib.hid (show OwnI (w12.alloc (.cells #[.int .i64 0, .int .i64 0, .int .i64 0, .int .i64 0] 3)) w12.heap.size 3 w12.heap.size 4 [0, 0, 0, 0] from own_zero4 w12)
            have HB0 := Lib.hid ((Below.refl w12.heap.size w12).alloc (Nat.le_refl _) (.cells #[.int .i64 0, .int .i64 0, .int .i64 0, .int .i64 0] 3))
            have HY0 : Hid (OwnI ((w12.alloc (.cells #[.int .i64 0, .int .i64 0, .int .i64 0, .int .i64 0] 3)).alloc (.cells #[.int .i64 0, .int .i64 0, .int .i64 0, .int .i64 0] 3)) w12.heap.size 3 (w12.heap.size + 1) 4 [0, 0, 0, 0]) := by
              have h := own_zero4 (w12.alloc (.cells #[.int .i64 0, .int .i64 0, .int .i64 0, .int .i64 0] 3))
              simp only [World.size_alloc] at h
              exact Lib.hid (h.mono (by omega))
            have HX1 := Lib.hid (HX0.out.alloc (.cells #[.int .i64 0, .int .i64 0, .int .i64 0, .int .i64 0] 3))
            have HB1 := Lib.hid (HB0.out.alloc (by simp) (.cells #[.int .i64 0, .int .i64 0, .int .i64 0, .int .i64 0] 3))
            clear HX0 HB0
            go_wp2
            go_loopw [19, 20] (fun v19 v20 wr' => ∃ k : Nat, k ≤ ws.length ∧ v20 = .int .i64 k ∧ v19 = .int .i64 (wsTo ws k) ∧ Hid (OwnI wr' w12.heap.size 3 w12.heap.size 4 (sumsGo ws F k)) ∧ Hid (OwnI wr' w12.heap.size 3 (w12.heap.size + 1) 4 (sumsGo ws Gm k)) ∧ Hid (Below w12.heap.size w12 wr')) (fun _ v20 _ => ws.length - (intOf v20).toNat)
            case atStart => exact ⟨0, by omega, rfl, rfl, HX1, HY0, HB1⟩
            case round =>
              obtain ⟨k, hk, rfl, rfl, HX, HY, HBW⟩ := hrel
              clear HX1 HY0 HB1
              by_cases hlt : k < ws.length
              · obtain ⟨bF, oF, rfl, hbF, hcF⟩ := HF12.out.2 (by omega)
                obtain ⟨bG, oG, rfl, hbG, hcG⟩ := HG12.out.2 (by omega)
                obtain ⟨bQ, oQ, eQ, hbQ, hcQ⟩ := HQ12.out.2 (by omega)
                simp only [Option.some.injEq, Addr.mk.injEq, and_true] at eQ
                obtain ⟨rfl, rfl⟩ := eQ
                have xF := (HBW.out.cell (p := ⟨bF, oF + k, none⟩) (by exact hbF)).trans (hcF k hlt)
                have xG := (HBW.out.cell (p := ⟨bG, oG + k, none⟩) (by exact hbG)).trans (hcG k hlt)
                have xQ := (HBW.out.cell (p := ⟨G, 0 + k, none⟩) (by exact hbQ)).trans (hcQ k hlt)
                rw [Nat.zero_add] at xQ
                have bdF := HF.out.bdF k hlt
                have bdG := HF.out.bdG k hlt
                obtain ⟨v, hv⟩ := Int.eq_ofNat_of_zero_le (show 0 ≤ nth F k by omega)
                obtain ⟨u, hu⟩ := Int.eq_ofNat_of_zero_le (show 0 ≤ nth Gm k by omega)
                have stF : sumsGo ws F (k + 1) = (sumsGo ws F k).set v (nth (sumsGo ws F k) v + nth ws k) := by rw [sumsGo, hv, Int.toNat_natCast]
                have stG : sumsGo ws Gm (k + 1) = (sumsGo ws Gm k).set u (nth (sumsGo ws Gm k) u + nth ws k) := by rw [sumsGo, hu, Int.toNat_natCast]
                have sF := HF.out.sumF k hk v
                have sG := HF.out.sumG k hk u
                have hwk := HWT.out k hlt
                rw [hv] at xF bdF
                rw [hu] at xG bdG
                have cF := HX.out.cell (j := v) (by rw [sumsGo_length]; omega)
                have cG := HY.out.cell (j := u) (by rw [sumsGo_length]; omega)
                have zF := HX.out.frozen v
                have zG := HY.out.frozen u
                obtain ⟨x, hx⟩ : ∃ x, nth (sumsGo ws F k) v = x := ⟨_, rfl⟩
                obtain ⟨y, hy⟩ : ∃ x, nth (sumsGo ws Gm k) u = x := ⟨_, rfl⟩
                have HWS : Hid (wsTo ws (k + 1) = wsTo ws k + nth ws k) := rfl
                have hwb := wsTo_bd (ws := ws) (fairOk_t HF.out.okF).1 k
                obtain ⟨t, ht⟩ : ∃ x, nth ws k = x := ⟨_, rfl⟩
                obtain ⟨z, hz⟩ : ∃ x, wsTo ws k = x := ⟨_, rfl⟩
                rw [hx] at stF sF cF
                rw [hy] at stG sG cG
                rw [ht] at stF stG xQ HWS hwk
                rw [hz] at HWS hwb ⊢
                have HYY := Lib.hid hy
                have HSF := Lib.hid stF
                have HSG := Lib.hid stG
                have gG := hcG k hlt
                have gQ := hcQ k hlt
                rw [hu] at gG
                rw [Nat.zero_add, ht] at gQ
                have HG0 := Lib.hid gG
                have HQ0 := Lib.hid gQ
                have HBD := Lib.hid (And.intro hbG hbQ)
                clear stF stG hcF hcG hcQ hx hy hz ht hv hu gG gQ
                have ki : (k : Int) < (ws.length : Int) := by omega
                have c1 : ¬ (v : Int) < 1 := by omega
                have c2' : ¬ (2 : Int) < (v : Int) := by omega
                have c3 : ¬ (u : Int) < 1 := by omega
                have c4' : ¬ (3 : Int) < (u : Int) := by omega
                have v4 : (v : Int) < 4 := by omega
                have u4 : (u : Int) < 4 := by omega
                have e1 : IntKind.i64.wrap (x + t) = x + t := IntWalk.i64_in _ (by omega)
                have e2 : IntKind.i64.wrap (y + t) = y + t := IntWalk.i64_in _ (by omega)
                have e3 : IntKind.i64.wrap (z + t) = z + t := IntWalk.i64_in _ (by omega)
                have e4 : IntKind.i64.wrap ((k : Int) + 1) = (k : Int) + 1 := IntWalk.i64_in _ (by omega)
                clear hlt bdF bdG sF sG hwk hwb
                go_wp2
                go_cut [] (fun wx => Hid (OwnI wx w12.heap.size 3 w12.heap.size 4 (sumsGo ws F (k + 1))) ∧ Hid (OwnI wx w12.heap.size 3 (w12.heap.size + 1) 4 (sumsGo ws Gm k)) ∧ Hid (Below w12.heap.size w12 wx))
                case first =>
                  have HX1 : Hid (OwnI (wr.setCell ⟨w12.heap.size, v, none⟩ (.int .i64 (x + t))).drew w12.heap.size 3 w12.heap.size 4 (sumsGo ws F (k + 1))) := by rw [HSF.out]; exact Lib.hid (HX.out.set v (x + t)).drew
                  have HY1 : Hid (OwnI (wr.setCell ⟨w12.heap.size, v, none⟩ (.int .i64 (x + t))).drew w12.heap.size 3 (w12.heap.size + 1) 4 (sumsGo ws Gm k)) := Lib.hid (HY.out.other (by simp) _).drew
                  have HBW1 : Hid (Below w12.heap.size w12 (wr.setCell ⟨w12.heap.size, v, none⟩ (.int .i64 (x + t))).drew) := Lib.hid (below_drew (HBW.out.setCell (Nat.le_refl _) _))
                  go_region
                  go_wp2_with fail
                  go_meet
                  exact ⟨HX1, HY1, HBW1⟩
                case rest =>
                obtain ⟨HX1, HY1, HBW1⟩ := hcut
                clear cF zF HX HY HBW cG zG xF xG xQ HSF
                have xG := (HBW1.out.cell (p := ⟨bG, oG + k, none⟩) (by exact HBD.out.1)).trans HG0.out
                have xQ := (HBW1.out.cell (p := ⟨G, k, none⟩) (by exact HBD.out.2)).trans HQ0.out
                have cG := HY1.out.cell (j := u) (by rw [sumsGo_length]; omega)
                rw [HYY.out] at cG
                have zG := HY1.out.frozen u
                go_wp2
                go_cut [] (fun wx => Hid (OwnI wx w12.heap.size 3 w12.heap.size 4 (sumsGo ws F (k + 1))) ∧ Hid (OwnI wx w12.heap.size 3 (w12.heap.size + 1) 4 (sumsGo ws Gm (k + 1))) ∧ Hid (Below w12.heap.size w12 wx))
                case first =>
                  have HX2 : Hid (OwnI (wc.setCell ⟨w12.heap.size + 1, u, none⟩ (.int .i64 (y + t))).drew w12.heap.size 3 w12.heap.size 4 (sumsGo ws F (k + 1))) := Lib.hid (HX1.out.other (by simp) _).drew
                  have HY2 : Hid (OwnI (wc.setCell ⟨w12.heap.size + 1, u, none⟩ (.int .i64 (y + t))).drew w12.heap.size 3 (w12.heap.size + 1) 4 (sumsGo ws Gm (k + 1))) := by rw [HSG.out]; exact Lib.hid (HY1.out.set u (y + t)).drew
                  have HBW2 : Hid (Below w12.heap.size w12 (wc.setCell ⟨w12.heap.size + 1, u, none⟩ (.int .i64 (y + t))).drew) := Lib.hid (below_drew (HBW1.out.setCell (by simp) _))
                  go_region
                  go_wp2_with fail
                  go_meet
                  exact ⟨HX2, HY2, HBW2⟩
                case rest =>
                obtain ⟨HX2, HY2, HBW2⟩ := hcut
                clear cG zG HX1 HY1 HBW1 xG xQ HSG
                have xQ := (HBW2.out.cell (p := ⟨G, k, none⟩) (by exact HBD.out.2)).trans HQ0.out
                go_wp2
                go_roundw
                case rel => exact ⟨k + 1, by omega, by go_num, by rw [HWS.out], HX2, HY2, HBW2⟩
                case measure => simp [intOf]; omega
              · obtain rfl : k = ws.length := by omega
                have iq : ¬ ((ws.length : Nat) : Int) < ((ws.length : Nat) : Int) := by omega
                have x1c := HX.out.cell (j := 1) (by rw [sumsGo_length]; omega)
                have x2c := HX.out.cell (j := 2) (by rw [sumsGo_length]; omega)
                have y1c := HY.out.cell (j := 1) (by rw [sumsGo_length]; omega)
                have y2c := HY.out.cell (j := 2) (by rw [sumsGo_length]; omega)
                have y3c := HY.out.cell (j := 3) (by rw [sumsGo_length]; omega)
                have b1 := HF.out.sumF ws.length (Nat.le_refl _) 1
                have b2 := HF.out.sumF ws.length (Nat.le_refl _) 2
                have d1 := HF.out.sumG ws.length (Nat.le_refl _) 1
                have d2 := HF.out.sumG ws.length (Nat.le_refl _) 2
                have d3 := HF.out.sumG ws.length (Nat.le_refl _) 3
                have two := HF.out.two
                have less := HF.out.less
                have three := HF.out.three
                have hwb := wsTo_bd (ws := ws) (fairOk_t HF.out.okF).1 ws.length
                obtain ⟨x1, ex1⟩ : ∃ x, nth (sumsGo ws F ws.length) 1 = x := ⟨_, rfl⟩
                obtain ⟨x2, ex2⟩ : ∃ x, nth (sumsGo ws F ws.length) 2 = x := ⟨_, rfl⟩
                obtain ⟨y1, ey1⟩ : ∃ x, nth (sumsGo ws Gm ws.length) 1 = x := ⟨_, rfl⟩
                obtain ⟨y2, ey2⟩ : ∃ x, nth (sumsGo ws Gm ws.length) 2 = x := ⟨_, rfl⟩
                obtain ⟨y3, ey3⟩ : ∃ x, nth (sumsGo ws Gm ws.length) 3 = x := ⟨_, rfl⟩
                obtain ⟨z, ez⟩ : ∃ x, wsTo ws ws.length = x := ⟨_, rfl⟩
                rw [ex1] at x1c b1 two less
                rw [ex2] at x2c b2 two less
                rw [ey1] at y1c d1 less three
                rw [ey2] at y2c d2 less three
                rw [ey3] at y3c d3 less three
                rw [ez] at two three hwb ⊢
                clear ex1 ex2 ey1 ey2 ey3 ez
                obtain ⟨X, eX⟩ : ∃ X, max x1 x2 = X := ⟨_, rfl⟩
                obtain ⟨Y, hY⟩ : ∃ X, (if y1 < y2 then y2 else y1) = X := ⟨_, rfl⟩
                obtain ⟨Z, hZ⟩ : ∃ X, (if Y < y3 then y3 else Y) = X := ⟨_, rfl⟩
                have eY : max y1 y2 = Y := by rw [← hY]; split <;> omega
                have eZ : max Y y3 = Z := by rw [← hZ]; split <;> omega
                rw [eX] at two
                rw [eY, eZ, eX] at less
                rw [eY, eZ] at three
                have w1' : IntKind.i64.wrap (2 * X) = 2 * X := IntWalk.i64_in _ (by omega)
                have w2' : IntKind.i64.wrap (3 * Z) = 3 * Z := IntWalk.i64_in _ (by omega)
                have hbm : 0 < bz ↔ 0 < m := HBZ.out
                have HBF := Lib.hid (below_then HB12.out HBW.out)
                clear b1 b2 d1 d2 d3 hwb HX HY HBW HF12 HG12 HQ12 HB12 HBZ hk hlt eY eZ
                go_wp2
                refine wp_region_held_drew (S := fun w' => (w'.cell? ⟨w12.heap.size, 1, none⟩ = some (.int .i64 x1) ∧ w'.cell? ⟨w12.heap.size, 2, none⟩ = some (.int .i64 x2)) ∧ (w'.cell? ⟨w12.heap.size + 1, 1, none⟩ = some (.int .i64 y1) ∧ w'.cell? ⟨w12.heap.size + 1, 2, none⟩ = some (.int .i64 y2)) ∧ w'.cell? ⟨w12.heap.size + 1, 3, none⟩ = some (.int .i64 y3)) (by kernel_rfl) (by exact ⟨⟨x1c, x2c⟩, ⟨y1c, y2c⟩, y3c⟩) (fun hHeld => ?_)
                refine take_heldS (i := 0) (d := 191) rfl rfl (by kernel_rfl) (by kernel_rfl) (by kernel_rfl) (fun _ _ _ h => h) (by kernel_rfl) (fun w hSw => by (try dsimp only at hSw); go_simp; try rfl) (by assumption) ?_
                try simp only [Act.put, List.setIfInBounds_toArray, List.set_cons_zero, List.set_cons_succ]
                refine take_heldS (i := 1) (d := 192) rfl rfl (by kernel_rfl) (by kernel_rfl) (by kernel_rfl) (fun _ _ _ h => h) (by kernel_rfl) (fun w hSw => by (try dsimp only at hSw); go_simp; try rfl) (by assumption) ?_
                try simp only [Act.put, List.setIfInBounds_toArray, List.set_cons_zero, List.set_cons_succ]
                refine take_heldS (i := 2) (d := 193) rfl rfl (by kernel_rfl) (by kernel_rfl) (by kernel_rfl) (fun _ _ _ h => h) (by kernel_rfl) (fun w hSw => by (try dsimp only at hSw); go_simp; try rfl) (by assumption) ?_
                try simp only [Act.put, List.setIfInBounds_toArray, List.set_cons_zero, List.set_cons_succ]
                refine take_heldS (i := 3) (d := 194) rfl rfl (by kernel_rfl) (by kernel_rfl) (by kernel_rfl) (fun _ _ _ h => h) (by kernel_rfl) (fun w hSw => by (try dsimp only at hSw); go_simp; try rfl) (by assumption) ?_
                try simp only [Act.put, List.setIfInBounds_toArray, List.set_cons_zero, List.set_cons_succ]
                refine take_heldS (i := 4) (d := 195) rfl rfl (by kernel_rfl) (by kernel_rfl) (by kernel_rfl) (fun _ _ _ h => h) (by kernel_rfl) (fun w hSw => by (try dsimp only at hSw); go_simp; try rfl) (by assumption) ?_
                try simp only [Act.put, List.setIfInBounds_toArray, List.set_cons_zero, List.set_cons_succ]
                refine take_heldS (i := 5) (d := 196) rfl rfl (by kernel_rfl) (by kernel_rfl) (by kernel_rfl) (fun _ _ _ h => h) (by kernel_rfl) (fun w hSw => by (try dsimp only at hSw); go_simp; try rfl) (by assumption) ?_
                try simp only [Act.put, List.setIfInBounds_toArray, List.set_cons_zero, List.set_cons_succ]
                refine take_heldS (i := 6) (d := 197) rfl rfl (by kernel_rfl) (by kernel_rfl) (by kernel_rfl) (fun _ _ _ h => h) (by kernel_rfl) (fun w hSw => by (try dsimp only at hSw); go_simp; try rfl) (by assumption) ?_
                try simp only [Act.put, List.setIfInBounds_toArray, List.set_cons_zero, List.set_cons_succ]
                refine take_heldS (i := 7) (d := 198) rfl rfl (by kernel_rfl) (by kernel_rfl) (by kernel_rfl) (fun _ _ _ h => h) (by kernel_rfl) (fun w hSw => by (try dsimp only at hSw); go_simp; try rfl) (by assumption) ?_
                try simp only [Act.put, List.setIfInBounds_toArray, List.set_cons_zero, List.set_cons_succ]
                refine take_heldS (i := 8) (d := 199) rfl rfl (by kernel_rfl) (by kernel_rfl) (by kernel_rfl) (fun _ _ _ h => h) (by kernel_rfl) (fun w hSw => by (try dsimp only at hSw); go_simp; try rfl) (by assumption) ?_
                try simp only [Act.put, List.setIfInBounds_toArray, List.set_cons_zero, List.set_cons_succ]
                refine take_heldS (i := 9) (d := 200) rfl rfl (by kernel_rfl) (by kernel_rfl) (by kernel_rfl) (fun _ _ _ h => h) (by kernel_rfl) (fun w hSw => by (try dsimp only at hSw); go_simp; try rfl) (by assumption) ?_
                try simp only [Act.put, List.setIfInBounds_toArray, List.set_cons_zero, List.set_cons_succ]
                refine take_heldS (i := 10) (d := 201) rfl rfl (by kernel_rfl) (by kernel_rfl) (by kernel_rfl) (fun _ _ _ h => h) (by kernel_rfl) (fun w hSw => by (try dsimp only at hSw); go_simp; try rfl) (by assumption) ?_
                try simp only [Act.put, List.setIfInBounds_toArray, List.set_cons_zero, List.set_cons_succ]
                refine take_heldS (i := 11) (d := 202) rfl rfl (by kernel_rfl) (by kernel_rfl) (by kernel_rfl) (fun _ _ _ h => h) (by kernel_rfl) (fun w hSw => by (try dsimp only at hSw); go_simp; try rfl) (by assumption) ?_
                try simp only [Act.put, List.setIfInBounds_toArray, List.set_cons_zero, List.set_cons_succ]
                refine take_heldS (i := 12) (d := 203) rfl rfl (by kernel_rfl) (by kernel_rfl) (by kernel_rfl) (fun _ _ _ h => h) (by kernel_rfl) (fun w hSw => by (try dsimp only at hSw); go_simp; try rfl) (by assumption) ?_
                try simp only [Act.put, List.setIfInBounds_toArray, List.set_cons_zero, List.set_cons_succ]
                refine take_heldS (i := 13) (d := 204) rfl rfl (by kernel_rfl) (by kernel_rfl) (by kernel_rfl) (fun _ _ _ h => h) (by kernel_rfl) (fun w hSw => by (try dsimp only at hSw); go_simp; try rfl) (by assumption) ?_
                try simp only [Act.put, List.setIfInBounds_toArray, List.set_cons_zero, List.set_cons_succ]
                refine take_heldS (i := 14) (d := 205) rfl rfl (by kernel_rfl) (by kernel_rfl) (by kernel_rfl) (fun _ _ _ h => h) (by kernel_rfl) (fun w hSw => by (try dsimp only at hSw); go_simp; try rfl) (by assumption) ?_
                try simp only [Act.put, List.setIfInBounds_toArray, List.set_cons_zero, List.set_cons_succ]
                refine take_heldS (i := 15) (d := 206) rfl rfl (by kernel_rfl) (by kernel_rfl) (by kernel_rfl) (fun _ _ _ h => h) (by kernel_rfl) (fun w hSw => by (try dsimp only at hSw); go_simp; try rfl) (by assumption) ?_
                try simp only [Act.put, List.setIfInBounds_toArray, List.set_cons_zero, List.set_cons_succ]
                refine take_heldS (i := 16) (d := 207) rfl rfl (by kernel_rfl) (by kernel_rfl) (by kernel_rfl) (fun _ _ _ h => h) (by kernel_rfl) (fun w hSw => by (try dsimp only at hSw); go_simp; try rfl) (by assumption) ?_
                try simp only [Act.put, List.setIfInBounds_toArray, List.set_cons_zero, List.set_cons_succ]
                refine take_heldS (i := 17) (d := 208) rfl rfl (by kernel_rfl) (by kernel_rfl) (by kernel_rfl) (fun _ _ _ h => h) (by kernel_rfl) (fun w hSw => by (try dsimp only at hSw); go_simp; try rfl) (by assumption) ?_
                try simp only [Act.put, List.setIfInBounds_toArray, List.set_cons_zero, List.set_cons_succ]
                refine take_heldS (i := 18) (d := 209) rfl rfl (by kernel_rfl) (by kernel_rfl) (by kernel_rfl) (fun _ _ _ h => h) (by kernel_rfl) (fun w hSw => by (try dsimp only at hSw); go_simp; try rfl) (by assumption) ?_
                try simp only [Act.put, List.setIfInBounds_toArray, List.set_cons_zero, List.set_cons_succ]
                refine take_heldS (i := 19) (d := 210) rfl rfl (by kernel_rfl) (by kernel_rfl) (by kernel_rfl) (fun _ _ _ h => h) (by kernel_rfl) (fun w hSw => by (try dsimp only at hSw); go_simp; try rfl) (by assumption) ?_
                try simp only [Act.put, List.setIfInBounds_toArray, List.set_cons_zero, List.set_cons_succ]
                refine take_heldS (i := 20) (d := 211) rfl rfl (by kernel_rfl) (by kernel_rfl) (by kernel_rfl) (fun _ _ _ h => h) (by kernel_rfl) (fun w hSw => by (try dsimp only at hSw); go_simp; try rfl) (by assumption) ?_
                try simp only [Act.put, List.setIfInBounds_toArray, List.set_cons_zero, List.set_cons_succ]
                refine take_heldS (i := 21) (d := 212) rfl rfl (by kernel_rfl) (by kernel_rfl) (by kernel_rfl) (fun _ _ _ h => h) (by kernel_rfl) (fun w hSw => by (try dsimp only at hSw); go_simp; try rfl) (by assumption) ?_
                try simp only [Act.put, List.setIfInBounds_toArray, List.set_cons_zero, List.set_cons_succ]
                refine take_heldS (i := 22) (d := 213) rfl rfl (by kernel_rfl) (by kernel_rfl) (by kernel_rfl) (fun _ _ _ h => h) (by kernel_rfl) (fun w hSw => by (try dsimp only at hSw); go_simp; try rfl) (by assumption) ?_
                try simp only [Act.put, List.setIfInBounds_toArray, List.set_cons_zero, List.set_cons_succ]
                refine take_heldS (i := 23) (d := 214) rfl rfl (by kernel_rfl) (by kernel_rfl) (by kernel_rfl) (fun _ _ _ h => h) (by kernel_rfl) (fun w hSw => by (try dsimp only at hSw); go_simp; try rfl) (by assumption) ?_
                try simp only [Act.put, List.setIfInBounds_toArray, List.set_cons_zero, List.set_cons_succ]
                refine take_heldS (i := 24) (d := 215) rfl rfl (by kernel_rfl) (by kernel_rfl) (by kernel_rfl) (fun _ _ _ h => h) (by kernel_rfl) (fun w hSw => by (try dsimp only at hSw); go_simp; try rfl) (by assumption) ?_
                try simp only [Act.put, List.setIfInBounds_toArray, List.set_cons_zero, List.set_cons_succ]
                refine take_heldS (i := 25) (d := 216) rfl rfl (by kernel_rfl) (by kernel_rfl) (by kernel_rfl) (fun _ _ _ h => h) (by kernel_rfl) (fun w hSw => by (try dsimp only at hSw); go_simp; try rfl) (by assumption) ?_
                try simp only [Act.put, List.setIfInBounds_toArray, List.set_cons_zero, List.set_cons_succ]
                refine take_heldS (i := 26) (d := 217) rfl rfl (by kernel_rfl) (by kernel_rfl) (by kernel_rfl) (fun _ _ _ h => h) (by kernel_rfl) (fun w hSw => by (try dsimp only at hSw); go_simp; try rfl) (by assumption) ?_
                try simp only [Act.put, List.setIfInBounds_toArray, List.set_cons_zero, List.set_cons_succ]
                refine take_heldS (i := 27) (d := 218) rfl rfl (by kernel_rfl) (by kernel_rfl) (by kernel_rfl) (fun _ _ _ h => h) (by kernel_rfl) (fun w hSw => by (try dsimp only at hSw); go_simp; try rfl) (by assumption) ?_
                try simp only [Act.put, List.setIfInBounds_toArray, List.set_cons_zero, List.set_cons_succ]
                refine take_heldS (i := 28) (d := 219) rfl rfl (by kernel_rfl) (by kernel_rfl) (by kernel_rfl) (fun _ _ _ h => h) (by kernel_rfl) (fun w hSw => by (try dsimp only at hSw); go_simp; try rfl) (by assumption) ?_
                try simp only [Act.put, List.setIfInBounds_toArray, List.set_cons_zero, List.set_cons_succ]
                refine take_heldS (i := 29) (d := 220) rfl rfl (by kernel_rfl) (by kernel_rfl) (by kernel_rfl) (fun _ _ _ h => h) (by kernel_rfl) (fun w hSw => by (try dsimp only at hSw); go_simp; try rfl) (by assumption) ?_
                try simp only [Act.put, List.setIfInBounds_toArray, List.set_cons_zero, List.set_cons_succ]
                refine take_heldS (i := 30) (d := 221) rfl rfl (by kernel_rfl) (by kernel_rfl) (by kernel_rfl) (fun _ _ _ h => h) (by kernel_rfl) (fun w hSw => by (try dsimp only at hSw); go_simp; try rfl) (by assumption) ?_
                try simp only [Act.put, List.setIfInBounds_toArray, List.set_cons_zero, List.set_cons_succ]
                refine take_heldS (i := 31) (d := 222) rfl rfl (by kernel_rfl) (by kernel_rfl) (by kernel_rfl) (fun _ _ _ h => h) (by kernel_rfl) (fun w hSw => by (try dsimp only at hSw); go_simp; try rfl) (by assumption) ?_
                try simp only [Act.put, List.setIfInBounds_toArray, List.set_cons_zero, List.set_cons_succ]
                refine take_heldS (i := 32) (d := 223) rfl rfl (by kernel_rfl) (by kernel_rfl) (by kernel_rfl) (fun _ _ _ h => h) (by kernel_rfl) (fun w hSw => by (try dsimp only at hSw); go_simp; try rfl) (by assumption) ?_
                try simp only [Act.put, List.setIfInBounds_toArray, List.set_cons_zero, List.set_cons_succ]
                refine take_heldS (i := 33) (d := 224) rfl rfl (by kernel_rfl) (by kernel_rfl) (by kernel_rfl) (fun _ _ _ h => h) (by kernel_rfl) (fun w hSw => by (try dsimp only at hSw); go_simp; try rfl) (by assumption) ?_
                try simp only [Act.put, List.setIfInBounds_toArray, List.set_cons_zero, List.set_cons_succ]
                refine take_heldS (i := 34) (d := 225) rfl rfl (by kernel_rfl) (by kernel_rfl) (by kernel_rfl) (fun _ _ _ h => h) (by kernel_rfl) (fun w hSw => by (try dsimp only at hSw); go_simp; try rfl) (by assumption) ?_
                try simp only [Act.put, List.setIfInBounds_toArray, List.set_cons_zero, List.set_cons_succ]
                refine take_heldS (i := 35) (d := 226) rfl rfl (by kernel_rfl) (by kernel_rfl) (by kernel_rfl) (fun _ _ _ h => h) (by kernel_rfl) (fun w hSw => by (try dsimp only at hSw); go_simp; try rfl) (by assumption) ?_
                try simp only [Act.put, List.setIfInBounds_toArray, List.set_cons_zero, List.set_cons_succ]
                refine take_heldS (i := 36) (d := 227) rfl rfl (by kernel_rfl) (by kernel_rfl) (by kernel_rfl) (fun _ _ _ h => h) (by kernel_rfl) (fun w hSw => by (try dsimp only at hSw); go_simp; try rfl) (by assumption) ?_
                try simp only [Act.put, List.setIfInBounds_toArray, List.set_cons_zero, List.set_cons_succ]
                refine take_heldS (i := 37) (d := 228) rfl rfl (by kernel_rfl) (by kernel_rfl) (by kernel_rfl) (fun _ _ _ h => h) (by kernel_rfl) (fun w hSw => by (try dsimp only at hSw); go_simp; try rfl) (by assumption) ?_
                try simp only [Act.put, List.setIfInBounds_toArray, List.set_cons_zero, List.set_cons_succ]
                refine take_heldS (i := 38) (d := 229) rfl rfl (by kernel_rfl) (by kernel_rfl) (by kernel_rfl) (fun _ _ _ h => h) (by kernel_rfl) (fun w hSw => by (try dsimp only at hSw); go_simp; try rfl) (by assumption) ?_
                try simp only [Act.put, List.setIfInBounds_toArray, List.set_cons_zero, List.set_cons_succ]
                refine take_heldS (i := 39) (d := 230) rfl rfl (by kernel_rfl) (by kernel_rfl) (by kernel_rfl) (fun _ _ _ h => h) (by kernel_rfl) (fun w hSw => by (try dsimp only at hSw); go_simp; try rfl) (by assumption) ?_
                try simp only [Act.put, List.setIfInBounds_toArray, List.set_cons_zero, List.set_cons_succ]
                refine take_heldS (i := 40) (d := 231) rfl rfl (by kernel_rfl) (by kernel_rfl) (by kernel_rfl) (fun _ _ _ h => h) (by kernel_rfl) (fun w hSw => by (try dsimp only at hSw); go_simp; try rfl) (by assumption) ?_
                try simp only [Act.put, List.setIfInBounds_toArray, List.set_cons_zero, List.set_cons_succ]
                refine take_heldS (i := 41) (d := 232) rfl rfl (by kernel_rfl) (by kernel_rfl) (by kernel_rfl) (fun _ _ _ h => h) (by kernel_rfl) (fun w hSw => by (try dsimp only at hSw); go_simp; try rfl) (by assumption) ?_
                try simp only [Act.put, List.setIfInBounds_toArray, List.set_cons_zero, List.set_cons_succ]
                refine take_heldS (i := 42) (d := 233) rfl rfl (by kernel_rfl) (by kernel_rfl) (by kernel_rfl) (fun _ _ _ h => h) (by kernel_rfl) (fun w hSw => by (try dsimp only at hSw); go_simp; try rfl) (by assumption) ?_
                try simp only [Act.put, List.setIfInBounds_toArray, List.set_cons_zero, List.set_cons_succ]
                refine take_heldS (i := 43) (d := 234) rfl rfl (by kernel_rfl) (by kernel_rfl) (by kernel_rfl) (fun _ _ _ h => h) (by kernel_rfl) (fun w hSw => by (try dsimp only at hSw); go_simp; try rfl) (by assumption) ?_
                try simp only [Act.put, List.setIfInBounds_toArray, List.set_cons_zero, List.set_cons_succ]
                refine take_heldS (i := 44) (d := 235) rfl rfl (by kernel_rfl) (by kernel_rfl) (by kernel_rfl) (fun _ _ _ h => h) (by kernel_rfl) (fun w hSw => by (try dsimp only at hSw); go_simp; try rfl) (by assumption) ?_
                try simp only [Act.put, List.setIfInBounds_toArray, List.set_cons_zero, List.set_cons_succ]
                refine take_heldS (i := 45) (d := 236) rfl rfl (by kernel_rfl) (by kernel_rfl) (by kernel_rfl) (fun _ _ _ h => h) (by kernel_rfl) (fun w hSw => by (try dsimp only at hSw); go_simp; try rfl) (by assumption) ?_
                try simp only [Act.put, List.setIfInBounds_toArray, List.set_cons_zero, List.set_cons_succ]
                refine take_heldS (i := 46) (d := 237) rfl rfl (by kernel_rfl) (by kernel_rfl) (by kernel_rfl) (fun _ _ _ h => h) (by kernel_rfl) (fun w hSw => by (try dsimp only at hSw); go_simp; try rfl) (by assumption) ?_
                try simp only [Act.put, List.setIfInBounds_toArray, List.set_cons_zero, List.set_cons_succ]
                refine take_heldS (i := 47) (d := 238) rfl rfl (by kernel_rfl) (by kernel_rfl) (by kernel_rfl) (fun _ _ _ h => h) (by kernel_rfl) (fun w hSw => by (try dsimp only at hSw); go_simp; try rfl) (by assumption) ?_
                try simp only [Act.put, List.setIfInBounds_toArray, List.set_cons_zero, List.set_cons_succ]
                refine take_heldS (i := 48) (d := 239) rfl rfl (by kernel_rfl) (by kernel_rfl) (by kernel_rfl) (fun _ _ _ h => h) (by kernel_rfl) (fun w hSw => by (try dsimp only at hSw); go_simp; try rfl) (by assumption) ?_
                try simp only [Act.put, List.setIfInBounds_toArray, List.set_cons_zero, List.set_cons_succ]
                refine take_heldS (i := 49) (d := 240) rfl rfl (by kernel_rfl) (by kernel_rfl) (by kernel_rfl) (fun _ _ _ h => h) (by kernel_rfl) (fun w hSw => by (try dsimp only at hSw); go_simp; try rfl) (by assumption) ?_
                try simp only [Act.put, List.setIfInBounds_toArray, List.set_cons_zero, List.set_cons_succ]
                refine take_heldS (i := 50) (d := 241) rfl rfl (by kernel_rfl) (by kernel_rfl) (by kernel_rfl) (fun _ _ _ h => h) (by kernel_rfl) (fun w hSw => by (try dsimp only at hSw); go_simp; try rfl) (by assumption) ?_
                try simp only [Act.put, List.setIfInBounds_toArray, List.set_cons_zero, List.set_cons_succ]
                refine take_heldS (i := 51) (d := 242) rfl rfl (by kernel_rfl) (by kernel_rfl) (by kernel_rfl) (fun _ _ _ h => h) (by kernel_rfl) (fun w hSw => by (try dsimp only at hSw); go_simp; try rfl) (by assumption) ?_
                try simp only [Act.put, List.setIfInBounds_toArray, List.set_cons_zero, List.set_cons_succ]
                refine take_heldS (i := 52) (d := 243) rfl rfl (by kernel_rfl) (by kernel_rfl) (by kernel_rfl) (fun _ _ _ h => h) (by kernel_rfl) (fun w hSw => by (try dsimp only at hSw); go_simp; try rfl) (by assumption) ?_
                try simp only [Act.put, List.setIfInBounds_toArray, List.set_cons_zero, List.set_cons_succ]
                refine take_heldS (i := 53) (d := 244) rfl rfl (by kernel_rfl) (by kernel_rfl) (by kernel_rfl) (fun _ _ _ h => h) (by kernel_rfl) (fun w hSw => by (try dsimp only at hSw); go_simp; try rfl) (by assumption) ?_
                try simp only [Act.put, List.setIfInBounds_toArray, List.set_cons_zero, List.set_cons_succ]
                refine take_heldS (i := 54) (d := 245) rfl rfl (by kernel_rfl) (by kernel_rfl) (by kernel_rfl) (fun _ _ _ h => h) (by kernel_rfl) (fun w hSw => by (try dsimp only at hSw); go_simp; try rfl) (by assumption) ?_
                try simp only [Act.put, List.setIfInBounds_toArray, List.set_cons_zero, List.set_cons_succ]
                refine take_heldS (i := 55) (d := 246) rfl rfl (by kernel_rfl) (by kernel_rfl) (by kernel_rfl) (fun _ _ _ h => h) (by kernel_rfl) (fun w hSw => by (try dsimp only at hSw); go_simp; try rfl) (by assumption) ?_
                try simp only [Act.put, List.setIfInBounds_toArray, List.set_cons_zero, List.set_cons_succ]
                refine take_heldS (i := 56) (d := 247) rfl rfl (by kernel_rfl) (by kernel_rfl) (by kernel_rfl) (fun _ _ _ h => h) (by kernel_rfl) (fun w hSw => by (try dsimp only at hSw); go_simp; try rfl) (by assumption) ?_
                try simp only [Act.put, List.setIfInBounds_toArray, List.set_cons_zero, List.set_cons_succ]
                refine take_heldS (i := 57) (d := 248) rfl rfl (by kernel_rfl) (by kernel_rfl) (by kernel_rfl) (fun _ _ _ h => h) (by kernel_rfl) (fun w hSw => by (try dsimp only at hSw); go_simp; try rfl) (by assumption) ?_
                try simp only [Act.put, List.setIfInBounds_toArray, List.set_cons_zero, List.set_cons_succ]
                refine take_heldS (i := 58) (d := 2) rfl rfl (by kernel_rfl) (by kernel_rfl) (by kernel_rfl) (fun _ _ _ h => h) (by kernel_rfl) (fun w hSw => by (try dsimp only at hSw); go_simp; try rfl) (by assumption) ?_
                try simp only [Act.put, List.setIfInBounds_toArray, List.set_cons_zero, List.set_cons_succ]
                refine wpAnyH_done (by kernel_rfl) ?_ _
                go_wp2
                go_ret
                exact ⟨rfl, below_drew HBF.out⟩
end Go.Proofs.Ytplabaneihjcoaa
