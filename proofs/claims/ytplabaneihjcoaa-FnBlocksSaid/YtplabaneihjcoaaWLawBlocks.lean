/-
  The walk of the law FnBlocks.
-/
import Derived.Test.YtplabaneihjcoaaPBlocks
import Derived.Test.YtplabaneihjcoaaWDrawArch
import Derived.Test.YtplabaneihjcoaaWBigAt
import Derived.Test.YtplabaneihjcoaaHeld
import Derived.Deep.RegionHeld3
namespace Go.Proofs.Ytplabaneihjcoaa
open Go.RowKit
set_option linter.unusedSimpArgs false
set_option linter.unusedVariables false

theorem wpList_wanted {P : Program} {ops : Array Oper} {rest : List Oper} {o : Oper} {a : Act} {w : World} {Q : Exit → Act → World → Prop} (hw : Region.wanted o (yielded ops a.tmps) = true)
    (h : wpList P ops Q ({ o with guard := none } :: rest) a w) : wpList P ops Q (o :: rest) a w := by
  unfold wpList at h ⊢
  rw [if_pos hw]
  rw [if_pos (by simp [Region.wanted])] at h
  exact h

theorem wpList_append_row' {P : Program} (w : World) {ops : Array Oper} {rest : List Oper} {o : Oper} {a : Act} {Q : Exit → Act → World → Prop} (hgd : o.guard = none) (s x : Operand) (t : TypeId)
    (ho : o.op = .call { callee := .builtin .append, args := #[s, x], argTypes := #[t, t] })
    (base : Nat) (E : TypeId) (ht : P.underlying t = some (.slice E)) (hinfo : (P.info? E).map (fun i => (i.zero, i.size, i.bytes)) = some (some (.int .i64 0), 1, 8))
    (v : Value) (hs : a.eval s = v) (hown : OwnV w base E v []) (g n c : Nat) (zs : List Int) (hx : a.eval x = .slice (some ⟨g, 0, none⟩) n c)
    (hl : zs.length = n) (hg : ∀ j, j < n → w.cell? ⟨g, j, none⟩ = some (.int .i64 (nth zs j))) (B : Nat) (w0 : World) (hb : Below B w0 w) (hB : B ≤ base) (hbase : base ≤ w.heap.size) (hk2 : n ≤ 1099511627776)
    (h : ∀ A k c w', OwnV w' base E (.slice A k c) zs → Below B w0 w' → wpList P ops Q rest (a.put o.dst (.slice A k c)) w') : wpList P ops Q (o :: rest) a w := by
  obtain ⟨i0, hi0, hz0, hz1, hz2⟩ := info_parts hinfo
  refine wpList_append_own (P := P) w hgd s x t ho base E i0 (.int .i64 0) 1 8 ht hi0 hz0 hz1 hz2 rfl (by decide) v 0 _ hs hown ⟨g, 0, none⟩ n c (zs.map (Value.int .i64)) hx (by simp [hl]) ?_ ?_ (by unfold maxLen; omega) (by omega) hbase ?_
  · intro j u hj
    rw [List.getElem?_map] at hj
    by_cases hjn : j < n
    · have e := hg j hjn
      rw [nth_get _ _ (by omega)] at e
      rw [List.getElem?_eq_getElem (by omega)] at hj
      simp at hj
      rw [← hj]
      by_cases hj0 : j = 0
      · subst hj0
        simpa [Addr.add] using e
      · simpa [Addr.add, hj0] using e
    · rw [List.getElem?_eq_none (by omega)] at hj
      simp at hj
  · intro u hu
    simp at hu
    obtain ⟨z, _, rfl⟩ := hu
    rfl
  · intro v' w' hown' hgr _
    have h' : OwnV w' base E v' zs := by
      unfold OwnV
      have e : 0 + n = zs.length := by omega
      rw [e] at hown'
      exact hown'
    obtain ⟨A, k, c', rfl⟩ := h'.slice
    exact h A k c' w' h' (hb.grown hgr (by omega) (fun k hk => by have := hown.ownLt k hk; omega))

set_option maxRecDepth 100000 in
set_option maxHeartbeats 12800000 in
theorem blocks_walk (A : Option Addr) (n c : Nat) (zs : List Int) (w : World) (h : BytesAt w w.heap.size A n zs) :
    Calls Try.prog 5 #[.slice A n c] w fun e w' => e = .returned (.bool true) ∧ Below w.heap.size w w' := by
  by_cases hbig : (1048576 : Int) < (n : Int)
  · have HB := Lib.hid (show decide ((1048576 : Int) < (n : Int)) = true by simp [hbig])
    clear h
    go_enter Try.func5, Try.ntmps5
    go_wp2_with fail
    refine (big_any _ _ _ _).mono ?_
    rw [HB.out]
    rintro e w1 ⟨rfl, rfl⟩
    go_wp2
    go_ret
    exact ⟨rfl, Below.refl _ _⟩
  · have hn : n ≤ 1048576 := by omega
    have HB := Lib.hid (show decide ((1048576 : Int) < (n : Int)) = false by simp [hbig])
    have HBY := Lib.hid h
    clear hbig h
    go_enter Try.func5, Try.ntmps5
    go_wp2_with fail
    refine (big_any _ _ _ _).mono ?_
    rw [HB.out]
    rintro e w1 ⟨rfl, rfl⟩
    go_wp2_with fail
    refine (drawSizes_any A n c zs _ HBY.out hn).mono ?_
    rintro e w2 ⟨S, m, c2, L, N, rfl, hN, hm, hl, hu, hi, hb2⟩
    have hlaw := blocks_law hN hl hm hu
    have HI2 := Lib.hid hi
    have HB2 := Lib.hid hb2
    have HSM : Hid (∀ k, k ≤ m → 0 ≤ sumTo L k ∧ sumTo L k ≤ 1000 * k) := Lib.hid (fun k hk => sumTo_bd hlaw.1 k (by omega))
    have HU := Lib.hid hu
    obtain ⟨hok, hF, hC, hW, hW0, hFm, hFa⟩ := hlaw
    obtain ⟨F, eF⟩ : ∃ F, fewI L N = F := ⟨_, rfl⟩
    obtain ⟨C, eC⟩ : ∃ C, cutN L N = C := ⟨_, rfl⟩
    obtain ⟨sm, eS⟩ : ∃ x, sumTo L m = x := ⟨_, rfl⟩
    obtain ⟨Pr, eP⟩ : ∃ x, F * N = x := ⟨_, rfl⟩
    rw [eF] at hF hC hW hW0 hFm hFa
    rw [eC] at hC
    rw [eS, eP] at hW hW0
    have hsm := HSM.out m (Nat.le_refl _)
    rw [eS] at hsm
    have hPr : Pr ≤ 29 * 8 := by
      rw [← eP]
      have h1 : F * N ≤ 8 * N := Int.mul_le_mul_of_nonneg_right (by omega) (by omega)
      omega
    have HE := Lib.hid (show fewI L N = F ∧ cutN L N = C ∧ wasteL L N = Pr - sm ∧ fewI (L ++ [N]) N = F + 1 ∧ sumTo L m = sm from ⟨eF, eC, hW, hFa, eS⟩)
    have HP := Lib.hid eP
    clear hu hi hb2 eF eC hW hFa eS eP hok
    go_wp2_with fail
    refine (iFewestBlocks_any _ _ _ L N _ HI2.out (by omega)).mono ?_
    rw [HE.out.1]
    rintro e w3 ⟨rfl, hb3⟩
    have HI3 := Lib.hid (HI2.out.after hb3)
    have HB3 := Lib.hid (below_then HB2.out hb3)
    clear hb3 HI2 HB2
    go_wp2_with fail
    refine (iCutInOrder_any _ _ _ L N _ HI3.out (by omega)).mono ?_
    rw [HE.out.2.1]
    rintro e w4 ⟨rfl, hb4⟩
    have HI4 := Lib.hid (HI3.out.after hb4)
    have HB4 := Lib.hid (below_then HB3.out hb4)
    clear hb4 HI3 HB3
    go_wp2_with fail
    refine (iWasteOf_any _ _ _ L N _ HI4.out (by omega)).mono ?_
    rw [HE.out.2.2.1]
    rintro e w5 ⟨rfl, hb5⟩
    have HI5 := Lib.hid (HI4.out.after hb5)
    have HB5 := Lib.hid (below_then HB4.out hb5)
    clear hb5 HI4 HB4
    go_wp2
    go_loop [8, 9] (fun v8 v9 => ∃ k : Nat, k ≤ m ∧ v9 = .int .i64 k ∧ v8 = .int .i64 (sumTo L k)) (fun _ v9 => m - (intOf v9).toNat)
    case atStart => exact ⟨0, Nat.zero_le _, rfl, by simp [sumTo]⟩
    case round =>
      obtain ⟨k, hk, rfl, rfl⟩ := hrel
      have hs := HSM.out k hk
      by_cases hlt : k < m
      · obtain ⟨b, off, e, hbB, hc⟩ := HI5.out.2 (by omega)
        simp only [Option.some.injEq, Addr.mk.injEq, and_true] at e
        obtain ⟨rfl, rfl⟩ := e
        have hcx : w5.cell? ⟨S, 0 + k, none⟩ = some (.int .i64 (nth L k)) := hc k hlt
        rw [Nat.zero_add] at hcx
        have hzk := HU.out k hlt
        have HSS : Hid (sumTo L (k + 1) = sumTo L k + nth L k) := rfl
        have ki : (k : Int) < (m : Int) := by omega
        clear hc
        go_wp2
        go_round
        case rel => exact ⟨k + 1, by omega, by go_num, by first | (rw [HSS.out]; done) | (rw [HSS.out]; go_num)⟩
        case measure => simp [intOf]; omega
      · obtain rfl : k = m := by omega
        have i2 : ¬ (k : Int) < (k : Int) := by omega
        rw [HE.out.2.2.2.2] at hs ⊢
        have HBY5 := Lib.hid (HBY.out.after HB5.out)
        go_wp2_with fail
        refine (drawArch_any A n c zs _ HBY5.out hn).mono ?_
        rintro e w6 ⟨b, mj, d, Z, rfl, hbg, hmd, hrow, hzl, hza, hb6⟩
        obtain ⟨mk, rfl⟩ : ∃ mk, mj = mk + 1 := ⟨mj - 1, by have := (archB_out hza).1; omega⟩
        have hmk := (archB_out hza).1
        have HB6 := Lib.hid (below_then HB5.out hb6)
        have HI6 := Lib.hid (HI5.out.after hb6)
        have HZ6 := Lib.hid ((hrow.alloc (.cells #[.slice (some ⟨b, 0, none⟩) (mk + 1) d] 48)).recs hzl)
        have HX6 := Lib.hid (rowF_new1S w6 (.slice (some ⟨b, 0, none⟩) (mk + 1) d) 48)
        have HBA6 := Lib.hid (HB6.out.alloc HB6.out.size (.cells #[.slice (some ⟨b, 0, none⟩) (mk + 1) d] 48))
        have HIA6 := Lib.hid (HI6.out.after ((Below.refl _ _).alloc (Nat.le_refl _) (.cells #[.slice (some ⟨b, 0, none⟩) (mk + 1) d] 48)))
        have HND : Hid (ndN Z (mk + 1) = mk) := Lib.hid (by simp [ndN, hza])
        have HBD : Hid (∀ k, k < mk → (1 ≤ ndF Z (k * 2) ∧ ndF Z (k * 2) ≤ 120) ∧ (1 ≤ ndF Z (k * 2 + 1) ∧ ndF Z (k * 2 + 1) ≤ 120)) := Lib.hid (fun k hk => nd_bd hza (by omega))
        have hsm0 : 0 ≤ sm := hs.1
        clear hb6 hrow hbg hzl hza HB6 HI6 HBY5 HBY HI5 HB5 HSM HU hs hsm hk hlt HB
        go_wp2_with fail
        refine (iNeedsOf_any _ (mk + 1) _ Z _ HZ6.out (by omega)).mono ?_
        rintro e w7 ⟨v7, rfl, ho7, hb7⟩
        rw [HND.out] at ho7
        obtain ⟨A7, c7, rfl, _⟩ := ho7.slice
        have HN7 := Lib.hid ho7.recs
        have HB7 := Lib.hid (below_then HBA6.out hb7)
        have HI7 := Lib.hid (HIA6.out.after hb7)
        have HX7 := Lib.hid (HX6.out.after hb7)
        have x7 : w7.cell? ⟨w6.heap.size, 0, none⟩ = some (.slice (some ⟨b, 0, none⟩) (mk + 1) d) := HX7.out.cell (i := 0) (by omega)
        have e7 : IntKind.i64.wrap ((mk : Int) + 1 - 1) = (mk : Int) := by rw [Int.add_sub_cancel]; exact IntWalk.i64_in _ (by omega)
        have n7 : ((mk : Int) != (mk : Int)) = false := by simp
        clear hb7 ho7 HX6 HZ6 HBA6 HIA6 HND
        go_wp2
        go_loopw [12] (fun v12 wr => ∃ q : Nat, q ≤ mk ∧ v12 = .int .i64 q ∧ Hid (Below w7.heap.size w7 wr)) (fun v12 _ => mk - (intOf v12).toNat)
        case atStart => exact ⟨0, Nat.zero_le _, rfl, Lib.hid (Below.refl _ _)⟩
        case round =>
          obtain ⟨q, hq, rfl, HBW⟩ := hrel
          by_cases hlt : q < mk
          · obtain ⟨b7, off, rfl, hb7, hc7⟩ := HN7.out (by omega)
            obtain ⟨gq, hx0, hgq, hx1, hx2⟩ := hc7 q hlt
            have hbd := HBD.out q hlt
            obtain ⟨a1, e1⟩ : ∃ x, ndF Z (q * 2) = x := ⟨_, rfl⟩
            obtain ⟨a2, e2⟩ : ∃ x, ndF Z (q * 2 + 1) = x := ⟨_, rfl⟩
            rw [e1] at hx1 hbd
            rw [e2] at hx2 hbd
            have hft := fits_turn hbd.1 hbd.2
            have HFT := Lib.hid hft
            have cx0 : wr.cell? ⟨b7, off + q, none⟩ = some (.slice (some ⟨gq, 0, none⟩) 2 2) := (HBW.out.cell (p := ⟨b7, off + q, none⟩) hb7).trans hx0
            have cx1 : wr.cell? ⟨gq, 0, none⟩ = some (.int .i64 a1) := (HBW.out.cell (p := ⟨gq, 0, none⟩) hgq).trans hx1
            have cx2 : wr.cell? ⟨gq, 1, none⟩ = some (.int .i64 a2) := (HBW.out.cell (p := ⟨gq, 1, none⟩) hgq).trans hx2
            have hz := HBW.out.size
            have HZ : Hid (b7 < wr.heap.size ∧ gq < wr.heap.size) := Lib.hid ⟨by omega, by omega⟩
            have q0 : (0 : Int) ≤ (q : Int) := by omega
            have q1 : (q : Int) < (mk : Int) := by omega
            have ew : IntKind.i64.wrap (a1 + a2) = a1 + a2 := IntWalk.i64_in _ (by omega)
            clear hx0 hx1 hx2 hc7 hz e1 e2 hft hbd x7
            go_wp2_with fail
            refine wp_region_held_drew (S := fun w' => w'.cell? ⟨b7, off + q, none⟩ = some (.slice (some ⟨gq, 0, none⟩) 2 2) ∧ (w'.cell? ⟨gq, 0, none⟩ = some (.int .i64 a1) ∧ w'.cell? ⟨gq, 1, none⟩ = some (.int .i64 a2))) (by kernel_rfl) (by first | exact ⟨cx0, cx1, cx2⟩ | exact ⟨dx0, dx1, dx2⟩) (fun hHeld => ?_)
            refine take_heldS (i := 0) (d := 58) rfl rfl (by kernel_rfl) (by kernel_rfl) (by kernel_rfl) (fun _ _ _ h => h) (by kernel_rfl) (fun w hSw => by (try dsimp only at hSw); go_simp; try rfl) (by assumption) ?_
            try simp only [Act.put, List.setIfInBounds_toArray, List.set_cons_zero, List.set_cons_succ]
            refine take_heldS (i := 1) (d := 59) rfl rfl (by kernel_rfl) (by kernel_rfl) (by kernel_rfl) (fun _ _ _ h => h) (by kernel_rfl) (fun w hSw => by (try dsimp only at hSw); go_simp; try rfl) (by assumption) ?_
            try simp only [Act.put, List.setIfInBounds_toArray, List.set_cons_zero, List.set_cons_succ]
            refine take_heldS (i := 2) (d := 60) rfl rfl (by kernel_rfl) (by kernel_rfl) (by kernel_rfl) (fun _ _ _ h => h) (by kernel_rfl) (fun w hSw => by (try dsimp only at hSw); go_simp; try rfl) (by assumption) ?_
            try simp only [Act.put, List.setIfInBounds_toArray, List.set_cons_zero, List.set_cons_succ]
            refine take_heldS (i := 3) (d := 61) rfl rfl (by kernel_rfl) (by kernel_rfl) (by kernel_rfl) (fun _ _ _ h => h) (by kernel_rfl) (fun w hSw => by (try dsimp only at hSw); go_simp; try rfl) (by assumption) ?_
            try simp only [Act.put, List.setIfInBounds_toArray, List.set_cons_zero, List.set_cons_succ]
            refine take_heldS (i := 4) (d := 62) rfl rfl (by kernel_rfl) (by kernel_rfl) (by kernel_rfl) (fun _ _ _ h => h) (by kernel_rfl) (fun w hSw => by (try dsimp only at hSw); go_simp; try rfl) (by assumption) ?_
            try simp only [Act.put, List.setIfInBounds_toArray, List.set_cons_zero, List.set_cons_succ]
            refine take_heldS (i := 5) (d := 63) (v := (.bool false)) rfl rfl (by kernel_rfl) (by kernel_rfl) (by kernel_rfl) (fun _ _ _ h => h) (by kernel_rfl) (fun w hSw => by (try dsimp only at hSw); go_simp; try rfl) (by assumption) ?_
            try simp only [Act.put, List.setIfInBounds_toArray, List.set_cons_zero, List.set_cons_succ]
            refine take_heldS (i := 6) (d := 64) (v := (.bool false)) rfl rfl (by kernel_rfl) (by kernel_rfl) (by kernel_rfl) (fun _ _ _ h => h) (by kernel_rfl) (fun w hSw => by (try dsimp only at hSw); go_simp; try rfl) (by assumption) ?_
            try simp only [Act.put, List.setIfInBounds_toArray, List.set_cons_zero, List.set_cons_succ]
            refine take_heldS (i := 7) (d := 65) rfl rfl (by kernel_rfl) (by kernel_rfl) (by kernel_rfl) (fun _ _ _ h => h) (by kernel_rfl) (fun w hSw => by (try dsimp only at hSw); go_simp; try rfl) (by assumption) ?_
            try simp only [Act.put, List.setIfInBounds_toArray, List.set_cons_zero, List.set_cons_succ]
            refine take_heldS (i := 8) (d := 66) rfl rfl (by kernel_rfl) (by kernel_rfl) (by kernel_rfl) (fun _ _ _ h => h) (by kernel_rfl) (fun w hSw => by (try dsimp only at hSw); go_simp; try rfl) (by assumption) ?_
            try simp only [Act.put, List.setIfInBounds_toArray, List.set_cons_zero, List.set_cons_succ]
            refine take_heldS (i := 9) (d := 67) rfl rfl (by kernel_rfl) (by kernel_rfl) (by kernel_rfl) (fun _ _ _ h => h) (by kernel_rfl) (fun w hSw => by (try dsimp only at hSw); go_simp; try rfl) (by assumption) ?_
            try simp only [Act.put, List.setIfInBounds_toArray, List.set_cons_zero, List.set_cons_succ]
            refine take_heldS (i := 10) (d := 68) rfl rfl (by kernel_rfl) (by kernel_rfl) (by kernel_rfl) (fun _ _ _ h => h) (by kernel_rfl) (fun w hSw => by (try dsimp only at hSw); go_simp; try rfl) (by assumption) ?_
            try simp only [Act.put, List.setIfInBounds_toArray, List.set_cons_zero, List.set_cons_succ]
            refine take_heldS (i := 11) (d := 69) rfl rfl (by kernel_rfl) (by kernel_rfl) (by kernel_rfl) (fun _ _ _ h => h) (by kernel_rfl) (fun w hSw => by (try dsimp only at hSw); go_simp; try rfl) (by assumption) ?_
            try simp only [Act.put, List.setIfInBounds_toArray, List.set_cons_zero, List.set_cons_succ]
            refine take_heldS (i := 12) (d := 70) rfl rfl (by kernel_rfl) (by kernel_rfl) (by kernel_rfl) (fun _ _ _ h => h) (by kernel_rfl) (fun w hSw => by (try dsimp only at hSw); go_simp; try rfl) (by assumption) ?_
            try simp only [Act.put, List.setIfInBounds_toArray, List.set_cons_zero, List.set_cons_succ]
            refine take_heldS (i := 13) (d := 71) rfl rfl (by kernel_rfl) (by kernel_rfl) (by kernel_rfl) (fun _ _ _ h => h) (by kernel_rfl) (fun w hSw => by (try dsimp only at hSw); go_simp; try rfl) (by assumption) ?_
            try simp only [Act.put, List.setIfInBounds_toArray, List.set_cons_zero, List.set_cons_succ]
            refine take_heldS (i := 14) (d := 72) rfl rfl (by kernel_rfl) (by kernel_rfl) (by kernel_rfl) (fun _ _ _ h => h) (by kernel_rfl) (fun w hSw => by (try dsimp only at hSw); go_simp; try rfl) (by assumption) ?_
            try simp only [Act.put, List.setIfInBounds_toArray, List.set_cons_zero, List.set_cons_succ]
            refine take_heldS (i := 15) (d := 73) rfl rfl (by kernel_rfl) (by kernel_rfl) (by kernel_rfl) (fun _ _ _ h => h) (by kernel_rfl) (fun w hSw => by (try dsimp only at hSw); go_simp; try rfl) (by assumption) ?_
            try simp only [Act.put, List.setIfInBounds_toArray, List.set_cons_zero, List.set_cons_succ]
            refine take_heldS (i := 16) (d := 74) rfl rfl (by kernel_rfl) (by kernel_rfl) (by kernel_rfl) (fun _ _ _ h => h) (by kernel_rfl) (fun w hSw => by (try dsimp only at hSw); go_simp; try rfl) (by assumption) ?_
            try simp only [Act.put, List.setIfInBounds_toArray, List.set_cons_zero, List.set_cons_succ]
            refine take_heldS (i := 17) (d := 75) rfl rfl (by kernel_rfl) (by kernel_rfl) (by kernel_rfl) (fun _ _ _ h => h) (by kernel_rfl) (fun w hSw => by (try dsimp only at hSw); go_simp; try rfl) (by assumption) ?_
            try simp only [Act.put, List.setIfInBounds_toArray, List.set_cons_zero, List.set_cons_succ]
            refine take_heldS (i := 18) (d := 76) rfl rfl (by kernel_rfl) (by kernel_rfl) (by kernel_rfl) (fun _ _ _ h => h) (by kernel_rfl) (fun w hSw => by (try dsimp only at hSw); go_simp; try rfl) (by assumption) ?_
            try simp only [Act.put, List.setIfInBounds_toArray, List.set_cons_zero, List.set_cons_succ]
            refine take_heldS (i := 19) (d := 77) rfl rfl (by kernel_rfl) (by kernel_rfl) (by kernel_rfl) (fun _ _ _ h => h) (by kernel_rfl) (fun w hSw => by (try dsimp only at hSw); go_simp; try rfl) (by assumption) ?_
            try simp only [Act.put, List.setIfInBounds_toArray, List.set_cons_zero, List.set_cons_succ]
            refine take_heldS (i := 20) (d := 78) rfl rfl (by kernel_rfl) (by kernel_rfl) (by kernel_rfl) (fun _ _ _ h => h) (by kernel_rfl) (fun w hSw => by (try dsimp only at hSw); go_simp; try rfl) (by assumption) ?_
            try simp only [Act.put, List.setIfInBounds_toArray, List.set_cons_zero, List.set_cons_succ]
            refine take_heldS (i := 21) (d := 79) rfl rfl (by kernel_rfl) (by kernel_rfl) (by kernel_rfl) (fun _ _ _ h => h) (by kernel_rfl) (fun w hSw => by (try dsimp only at hSw); go_simp; try rfl) (by assumption) ?_
            try simp only [Act.put, List.setIfInBounds_toArray, List.set_cons_zero, List.set_cons_succ]
            refine take_heldS (i := 22) (d := 80) rfl rfl (by kernel_rfl) (by kernel_rfl) (by kernel_rfl) (fun _ _ _ h => h) (by kernel_rfl) (fun w hSw => by (try dsimp only at hSw); go_simp; try rfl) (by assumption) ?_
            try simp only [Act.put, List.setIfInBounds_toArray, List.set_cons_zero, List.set_cons_succ]
            refine take_heldS (i := 23) (d := 81) rfl rfl (by kernel_rfl) (by kernel_rfl) (by kernel_rfl) (fun _ _ _ h => h) (by kernel_rfl) (fun w hSw => by (try dsimp only at hSw); go_simp; try rfl) (by assumption) ?_
            try simp only [Act.put, List.setIfInBounds_toArray, List.set_cons_zero, List.set_cons_succ]
            refine take_heldS (i := 24) (d := 82) rfl rfl (by kernel_rfl) (by kernel_rfl) (by kernel_rfl) (fun _ _ _ h => h) (by kernel_rfl) (fun w hSw => by (try dsimp only at hSw); go_simp; try rfl) (by assumption) ?_
            try simp only [Act.put, List.setIfInBounds_toArray, List.set_cons_zero, List.set_cons_succ]
            refine take_heldS (i := 25) (d := 83) rfl rfl (by kernel_rfl) (by kernel_rfl) (by kernel_rfl) (fun _ _ _ h => h) (by kernel_rfl) (fun w hSw => by (try dsimp only at hSw); go_simp; try rfl) (by assumption) ?_
            try simp only [Act.put, List.setIfInBounds_toArray, List.set_cons_zero, List.set_cons_succ]
            refine take_heldS (i := 26) (d := 84) rfl rfl (by kernel_rfl) (by kernel_rfl) (by kernel_rfl) (fun _ _ _ h => h) (by kernel_rfl) (fun w hSw => by (try dsimp only at hSw); go_simp; try rfl) (by assumption) ?_
            try simp only [Act.put, List.setIfInBounds_toArray, List.set_cons_zero, List.set_cons_succ]
            refine take_heldS (i := 27) (d := 85) rfl rfl (by kernel_rfl) (by kernel_rfl) (by kernel_rfl) (fun _ _ _ h => h) (by kernel_rfl) (fun w hSw => by (try dsimp only at hSw); go_simp; try rfl) (by assumption) ?_
            try simp only [Act.put, List.setIfInBounds_toArray, List.set_cons_zero, List.set_cons_succ]
            refine take_heldS (i := 28) (d := 86) rfl rfl (by kernel_rfl) (by kernel_rfl) (by kernel_rfl) (fun _ _ _ h => h) (by kernel_rfl) (fun w hSw => by (try dsimp only at hSw); go_simp; try rfl) (by assumption) ?_
            try simp only [Act.put, List.setIfInBounds_toArray, List.set_cons_zero, List.set_cons_succ]
            refine take_heldS (i := 29) (d := 87) rfl rfl (by kernel_rfl) (by kernel_rfl) (by kernel_rfl) (fun _ _ _ h => h) (by kernel_rfl) (fun w hSw => by (try dsimp only at hSw); go_simp; try rfl) (by assumption) ?_
            try simp only [Act.put, List.setIfInBounds_toArray, List.set_cons_zero, List.set_cons_succ]
            refine take_heldS (i := 30) (d := 88) rfl rfl (by kernel_rfl) (by kernel_rfl) (by kernel_rfl) (fun _ _ _ h => h) (by kernel_rfl) (fun w hSw => by (try dsimp only at hSw); go_simp; try rfl) (by assumption) ?_
            try simp only [Act.put, List.setIfInBounds_toArray, List.set_cons_zero, List.set_cons_succ]
            refine wpAnyH_ready (rs := [31]) (by kernel_rfl) (by simp) ?_
            refine AllReadyH.cons rfl (fun K hK => ?_) AllReadyH.nil
            go_simp
            (with_reducible refine (iFitsBlock_any a1 a2 a2 a1 _).mono ?_); rw [HFT.out.1]; rintro e w8 ⟨rfl, hb8⟩; have dx0 := (hb8.cell (p := ⟨b7, off + q, none⟩) (by exact HZ.out.1)).trans cx0; have dx1 := (hb8.cell (p := ⟨gq, 0, none⟩) (by exact HZ.out.2)).trans cx1; have dx2 := (hb8.cell (p := ⟨gq, 1, none⟩) (by exact HZ.out.2)).trans cx2
            refine hK.out _ _ (by first | exact ⟨cx0, cx1, cx2⟩ | exact ⟨dx0, dx1, dx2⟩) (fun hHeld => ?_)
            clear hK K
            try simp only [Act.put, List.setIfInBounds_toArray, List.set_cons_zero, List.set_cons_succ]
            refine take_heldS (i := 32) (d := 90) (v := (.bool false)) rfl rfl (by kernel_rfl) (by kernel_rfl) (by kernel_rfl) (fun _ _ _ h => h) (by kernel_rfl) (fun w hSw => by (try dsimp only at hSw); go_simp; try rfl) (by assumption) ?_
            try simp only [Act.put, List.setIfInBounds_toArray, List.set_cons_zero, List.set_cons_succ]
            refine take_heldS (i := 33) (d := 91) (v := (.bool false)) rfl rfl (by kernel_rfl) (by kernel_rfl) (by kernel_rfl) (fun _ _ _ h => h) (by kernel_rfl) (fun w hSw => by (try dsimp only at hSw); go_simp; try rfl) (by assumption) ?_
            try simp only [Act.put, List.setIfInBounds_toArray, List.set_cons_zero, List.set_cons_succ]
            refine take_heldS (i := 34) (d := 92) (v := (.bool false)) rfl rfl (by kernel_rfl) (by kernel_rfl) (by kernel_rfl) (fun _ _ _ h => h) (by kernel_rfl) (fun w hSw => by (try dsimp only at hSw); go_simp; try rfl) (by assumption) ?_
            try simp only [Act.put, List.setIfInBounds_toArray, List.set_cons_zero, List.set_cons_succ]
            refine take_heldS (i := 35) (d := 93) rfl rfl (by kernel_rfl) (by kernel_rfl) (by kernel_rfl) (fun _ _ _ h => h) (by kernel_rfl) (fun w hSw => by (try dsimp only at hSw); go_simp; try rfl) (by assumption) ?_
            try simp only [Act.put, List.setIfInBounds_toArray, List.set_cons_zero, List.set_cons_succ]
            refine take_heldS (i := 36) (d := 94) rfl rfl (by kernel_rfl) (by kernel_rfl) (by kernel_rfl) (fun _ _ _ h => h) (by kernel_rfl) (fun w hSw => by (try dsimp only at hSw); go_simp; try rfl) (by assumption) ?_
            try simp only [Act.put, List.setIfInBounds_toArray, List.set_cons_zero, List.set_cons_succ]
            refine take_heldS (i := 37) (d := 95) rfl rfl (by kernel_rfl) (by kernel_rfl) (by kernel_rfl) (fun _ _ _ h => h) (by kernel_rfl) (fun w hSw => by (try dsimp only at hSw); go_simp; try rfl) (by assumption) ?_
            try simp only [Act.put, List.setIfInBounds_toArray, List.set_cons_zero, List.set_cons_succ]
            refine take_heldS (i := 38) (d := 96) rfl rfl (by kernel_rfl) (by kernel_rfl) (by kernel_rfl) (fun _ _ _ h => h) (by kernel_rfl) (fun w hSw => by (try dsimp only at hSw); go_simp; try rfl) (by assumption) ?_
            try simp only [Act.put, List.setIfInBounds_toArray, List.set_cons_zero, List.set_cons_succ]
            refine take_heldS (i := 39) (d := 97) rfl rfl (by kernel_rfl) (by kernel_rfl) (by kernel_rfl) (fun _ _ _ h => h) (by kernel_rfl) (fun w hSw => by (try dsimp only at hSw); go_simp; try rfl) (by assumption) ?_
            try simp only [Act.put, List.setIfInBounds_toArray, List.set_cons_zero, List.set_cons_succ]
            refine take_heldS (i := 40) (d := 98) rfl rfl (by kernel_rfl) (by kernel_rfl) (by kernel_rfl) (fun _ _ _ h => h) (by kernel_rfl) (fun w hSw => by (try dsimp only at hSw); go_simp; try rfl) (by assumption) ?_
            try simp only [Act.put, List.setIfInBounds_toArray, List.set_cons_zero, List.set_cons_succ]
            refine take_heldS (i := 41) (d := 99) rfl rfl (by kernel_rfl) (by kernel_rfl) (by kernel_rfl) (fun _ _ _ h => h) (by kernel_rfl) (fun w hSw => by (try dsimp only at hSw); go_simp; try rfl) (by assumption) ?_
            try simp only [Act.put, List.setIfInBounds_toArray, List.set_cons_zero, List.set_cons_succ]
            refine take_heldS (i := 42) (d := 100) rfl rfl (by kernel_rfl) (by kernel_rfl) (by kernel_rfl) (fun _ _ _ h => h) (by kernel_rfl) (fun w hSw => by (try dsimp only at hSw); go_simp; try rfl) (by assumption) ?_
            try simp only [Act.put, List.setIfInBounds_toArray, List.set_cons_zero, List.set_cons_succ]
            refine take_heldS (i := 43) (d := 101) rfl rfl (by kernel_rfl) (by kernel_rfl) (by kernel_rfl) (fun _ _ _ h => h) (by kernel_rfl) (fun w hSw => by (try dsimp only at hSw); go_simp; try rfl) (by assumption) ?_
            try simp only [Act.put, List.setIfInBounds_toArray, List.set_cons_zero, List.set_cons_succ]
            refine take_heldS (i := 44) (d := 102) rfl rfl (by kernel_rfl) (by kernel_rfl) (by kernel_rfl) (fun _ _ _ h => h) (by kernel_rfl) (fun w hSw => by (try dsimp only at hSw); go_simp; try rfl) (by assumption) ?_
            try simp only [Act.put, List.setIfInBounds_toArray, List.set_cons_zero, List.set_cons_succ]
            refine take_heldS (i := 45) (d := 103) rfl rfl (by kernel_rfl) (by kernel_rfl) (by kernel_rfl) (fun _ _ _ h => h) (by kernel_rfl) (fun w hSw => by (try dsimp only at hSw); go_simp; try rfl) (by assumption) ?_
            try simp only [Act.put, List.setIfInBounds_toArray, List.set_cons_zero, List.set_cons_succ]
            refine take_heldS (i := 46) (d := 104) rfl rfl (by kernel_rfl) (by kernel_rfl) (by kernel_rfl) (fun _ _ _ h => h) (by kernel_rfl) (fun w hSw => by (try dsimp only at hSw); go_simp; try rfl) (by assumption) ?_
            try simp only [Act.put, List.setIfInBounds_toArray, List.set_cons_zero, List.set_cons_succ]
            refine take_heldS (i := 47) (d := 105) rfl rfl (by kernel_rfl) (by kernel_rfl) (by kernel_rfl) (fun _ _ _ h => h) (by kernel_rfl) (fun w hSw => by (try dsimp only at hSw); go_simp; try rfl) (by assumption) ?_
            try simp only [Act.put, List.setIfInBounds_toArray, List.set_cons_zero, List.set_cons_succ]
            refine take_heldS (i := 48) (d := 106) rfl rfl (by kernel_rfl) (by kernel_rfl) (by kernel_rfl) (fun _ _ _ h => h) (by kernel_rfl) (fun w hSw => by (try dsimp only at hSw); go_simp; try rfl) (by assumption) ?_
            try simp only [Act.put, List.setIfInBounds_toArray, List.set_cons_zero, List.set_cons_succ]
            refine take_heldS (i := 49) (d := 107) rfl rfl (by kernel_rfl) (by kernel_rfl) (by kernel_rfl) (fun _ _ _ h => h) (by kernel_rfl) (fun w hSw => by (try dsimp only at hSw); go_simp; try rfl) (by assumption) ?_
            try simp only [Act.put, List.setIfInBounds_toArray, List.set_cons_zero, List.set_cons_succ]
            refine take_heldS (i := 50) (d := 108) rfl rfl (by kernel_rfl) (by kernel_rfl) (by kernel_rfl) (fun _ _ _ h => h) (by kernel_rfl) (fun w hSw => by (try dsimp only at hSw); go_simp; try rfl) (by assumption) ?_
            try simp only [Act.put, List.setIfInBounds_toArray, List.set_cons_zero, List.set_cons_succ]
            refine take_heldS (i := 51) (d := 109) rfl rfl (by kernel_rfl) (by kernel_rfl) (by kernel_rfl) (fun _ _ _ h => h) (by kernel_rfl) (fun w hSw => by (try dsimp only at hSw); go_simp; try rfl) (by assumption) ?_
            try simp only [Act.put, List.setIfInBounds_toArray, List.set_cons_zero, List.set_cons_succ]
            refine take_heldS (i := 52) (d := 110) rfl rfl (by kernel_rfl) (by kernel_rfl) (by kernel_rfl) (fun _ _ _ h => h) (by kernel_rfl) (fun w hSw => by (try dsimp only at hSw); go_simp; try rfl) (by assumption) ?_
            try simp only [Act.put, List.setIfInBounds_toArray, List.set_cons_zero, List.set_cons_succ]
            refine take_heldS (i := 53) (d := 111) rfl rfl (by kernel_rfl) (by kernel_rfl) (by kernel_rfl) (fun _ _ _ h => h) (by kernel_rfl) (fun w hSw => by (try dsimp only at hSw); go_simp; try rfl) (by assumption) ?_
            try simp only [Act.put, List.setIfInBounds_toArray, List.set_cons_zero, List.set_cons_succ]
            refine take_heldS (i := 54) (d := 112) rfl rfl (by kernel_rfl) (by kernel_rfl) (by kernel_rfl) (fun _ _ _ h => h) (by kernel_rfl) (fun w hSw => by (try dsimp only at hSw); go_simp; try rfl) (by assumption) ?_
            try simp only [Act.put, List.setIfInBounds_toArray, List.set_cons_zero, List.set_cons_succ]
            refine take_heldS (i := 55) (d := 113) rfl rfl (by kernel_rfl) (by kernel_rfl) (by kernel_rfl) (fun _ _ _ h => h) (by kernel_rfl) (fun w hSw => by (try dsimp only at hSw); go_simp; try rfl) (by assumption) ?_
            try simp only [Act.put, List.setIfInBounds_toArray, List.set_cons_zero, List.set_cons_succ]
            refine take_heldS (i := 56) (d := 114) rfl rfl (by kernel_rfl) (by kernel_rfl) (by kernel_rfl) (fun _ _ _ h => h) (by kernel_rfl) (fun w hSw => by (try dsimp only at hSw); go_simp; try rfl) (by assumption) ?_
            try simp only [Act.put, List.setIfInBounds_toArray, List.set_cons_zero, List.set_cons_succ]
            refine take_heldS (i := 57) (d := 115) rfl rfl (by kernel_rfl) (by kernel_rfl) (by kernel_rfl) (fun _ _ _ h => h) (by kernel_rfl) (fun w hSw => by (try dsimp only at hSw); go_simp; try rfl) (by assumption) ?_
            try simp only [Act.put, List.setIfInBounds_toArray, List.set_cons_zero, List.set_cons_succ]
            refine take_heldS (i := 58) (d := 116) rfl rfl (by kernel_rfl) (by kernel_rfl) (by kernel_rfl) (fun _ _ _ h => h) (by kernel_rfl) (fun w hSw => by (try dsimp only at hSw); go_simp; try rfl) (by assumption) ?_
            try simp only [Act.put, List.setIfInBounds_toArray, List.set_cons_zero, List.set_cons_succ]
            refine take_heldS (i := 59) (d := 117) rfl rfl (by kernel_rfl) (by kernel_rfl) (by kernel_rfl) (fun _ _ _ h => h) (by kernel_rfl) (fun w hSw => by (try dsimp only at hSw); go_simp; try rfl) (by assumption) ?_
            try simp only [Act.put, List.setIfInBounds_toArray, List.set_cons_zero, List.set_cons_succ]
            refine wpAnyH_ready (rs := [60]) (by kernel_rfl) (by simp) ?_
            refine AllReadyH.cons rfl (fun K hK => ?_) AllReadyH.nil
            go_simp
            (with_reducible refine (iFitsBlock_any a1 a2 (a1 + a2) 1 _).mono ?_); rw [HFT.out.2]; rintro e w9 ⟨rfl, hb9⟩
            refine hK.out _ _ (by exact ⟨(hb9.cell (p := ⟨b7, off + q, none⟩) (by have h1 := hb8.size; have h2 := HZ.out.1; simp at h1 ⊢; omega)).trans dx0, (hb9.cell (p := ⟨gq, 0, none⟩) (by have h1 := hb8.size; have h2 := HZ.out.2; simp at h1 ⊢; omega)).trans dx1, (hb9.cell (p := ⟨gq, 1, none⟩) (by have h1 := hb8.size; have h2 := HZ.out.2; simp at h1 ⊢; omega)).trans dx2⟩) (fun hHeld => ?_)
            clear hK K
            try simp only [Act.put, List.setIfInBounds_toArray, List.set_cons_zero, List.set_cons_succ]
            refine take_heldS (i := 61) (d := 119) (v := (.bool false)) rfl rfl (by kernel_rfl) (by kernel_rfl) (by kernel_rfl) (fun _ _ _ h => h) (by kernel_rfl) (fun w hSw => by (try dsimp only at hSw); go_simp; try rfl) (by assumption) ?_
            try simp only [Act.put, List.setIfInBounds_toArray, List.set_cons_zero, List.set_cons_succ]
            refine wpAnyH_done (by kernel_rfl) ?_ _
            have HBN := Lib.hid (HBW.out.trans ((below_then (by first | exact below_undrew hb8 | exact below_undrewN hb8) hb9).mono HBW.out.size))
            clear dx0 dx1 dx2 cx0 cx1 cx2 hb8 hb9 hHeld HBW
            go_wp2
            go_roundw
            case rel => exact ⟨q + 1, by omega, by go_num, HBN⟩
            case measure => simp [intOf]; omega
          · obtain rfl : q = mk := by omega
            have i3 : ¬ (q : Int) < (q : Int) := by omega
            have HBF := Lib.hid (below_then HB7.out HBW.out)
            have HIF := Lib.hid (HI7.out.after HBW.out)
            clear HB7 HI7 HBW HX7 x7 HBD HN7 hlt hq
            have u1 : IntKind.i64.wrap (2 * F) = 2 * F := IntWalk.i64_in _ (by omega)
            have u2 : IntKind.i64.wrap (F * N) = Pr := by rw [HP.out]; exact IntWalk.i64_in _ (by omega)
            have u3 : IntKind.i64.wrap (Pr - sm) = Pr - sm := IntWalk.i64_in _ (by omega)
            have u4 : IntKind.i64.wrap (F + 1) = F + 1 := IntWalk.i64_in _ (by omega)
            have c1 : F ≤ C := hC.1
            have c2' : C ≤ 2 * F := hC.2
            have c3 : F ≤ (k : Int) := hF.2
            have c5 : ¬ (9 : Int) < (k : Int) := by omega
            have HAL := Lib.hid ((Below.refl wr.heap.size wr).alloc (Nat.le_refl _) (.cells #[] 3))
            have HCL : Hid (∀ j, j < k → (wr.alloc (.cells #[] 3)).cell? ⟨S, j, none⟩ = some (.int .i64 (nth L j))) := Lib.hid fun j hj => by
              obtain ⟨b, off, e, hbB, hc⟩ := HIF.out.2 (by omega)
              simp only [Option.some.injEq, Addr.mk.injEq, and_true] at e
              obtain ⟨rfl, rfl⟩ := e
              have := hc j hj
              rw [Nat.zero_add] at this
              exact (HAL.out.cell (p := ⟨S, j, none⟩) hbB).trans this
            have HL := Lib.hid hl
            have hm9 : k ≤ 8 := hm
            have e11 : (0 < F ∧ (0 : Int) < (k : Int)) ∨ (¬ 0 < F ∧ ¬ (0 : Int) < (k : Int)) := by
              by_cases h : 0 < F
              · exact .inl ⟨h, by have := hFm.1 h; omega⟩
              · exact .inr ⟨h, fun h' => h (hFm.2 (by omega))⟩
            clear hFm hF hC hl
            rcases e11 with ⟨g1, g2⟩ | ⟨g1, g2⟩
            · skip
              go_wp2_with (first
                | (at_builtin; refine wpList_wanted (by rfl) ?_; refine wpList_append_row' _ rfl (.tmp 161) (.tmp 162) 25 rfl wr.heap.size 3 Try.underlying25 infoInt _ rfl (by exact (OwnI.new wr _).toV) S _ _ L rfl HL.out (by exact HCL.out) wr.heap.size wr (by exact HAL.out) (Nat.le_refl _) (by simp) (by omega) ?_; intro A10 k10 c10 w10 hown10 hb10)
                | (at_builtin; refine wpList_wanted (by rfl) ?_; refine wpList_app _ rfl (.tmp 163) (.tmp 165) 25 rfl wr.heap.size 3 Try.underlying25 infoInt _ L rfl (by exact hown10.alloc _) w10.heap.size 1 N rfl (by exact cell_new1 _ _ _) wr.heap.size wr (by exact hb10.alloc hb10.size _) (Nat.le_refl _) (by have := hb10.size; simp; omega) _ HL.out (by omega) _ rfl ?_; intro g' cap' w11 hown11 hb11)
                | (go_at_call 26; refine (iFewestBlocks_any _ _ _ (L ++ [N]) N _ hown11.intsAt (by omega)).mono ?_; rw [HE.out.2.2.2.1]; rintro e w12 ⟨rfl, hb12⟩))
              go_ret
              exact ⟨rfl, below_then HBF.out (below_then hb11 hb12)⟩
            · obtain rfl : k = 0 := by omega
              go_wp2_with (first
                | (at_builtin; refine wpList_wanted (by rfl) ?_; refine wpList_append_row' _ rfl (.tmp 161) (.tmp 162) 25 rfl wr.heap.size 3 Try.underlying25 infoInt _ rfl (by exact (OwnI.new wr _).toV) S _ _ L rfl HL.out (by exact HCL.out) wr.heap.size wr (by exact HAL.out) (Nat.le_refl _) (by simp) (by omega) ?_; intro A10 k10 c10 w10 hown10 hb10)
                | (at_builtin; refine wpList_wanted (by rfl) ?_; refine wpList_app _ rfl (.tmp 163) (.tmp 165) 25 rfl wr.heap.size 3 Try.underlying25 infoInt _ L rfl (by exact hown10.alloc _) w10.heap.size 1 N rfl (by exact cell_new1 _ _ _) wr.heap.size wr (by exact hb10.alloc hb10.size _) (Nat.le_refl _) (by have := hb10.size; simp; omega) _ HL.out (by omega) _ rfl ?_; intro g' cap' w11 hown11 hb11)
                | (go_at_call 26; refine (iFewestBlocks_any _ _ _ (L ++ [N]) N _ hown11.intsAt (by omega)).mono ?_; rw [HE.out.2.2.2.1]; rintro e w12 ⟨rfl, hb12⟩))
              go_ret
              exact ⟨rfl, below_then HBF.out (below_then hb11 hb12)⟩
end Go.Proofs.Ytplabaneihjcoaa
