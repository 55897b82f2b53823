/-
  Contracts: fair marks in the program.
-/
import Derived.Test.YtplabaneihjcoaaWFairJ
import Derived.Test.YtplabaneihjcoaaApp
import Derived.Lib.SliceRun
namespace Go.Proofs.Ytplabaneihjcoaa
open Go.RowKit
set_option linter.unusedSimpArgs false

theorem wpList_append_row {P : Program} (w : World) {ops : Array Oper} {rest : List Oper} {o : Oper} {a : Act} {Q : Exit → Act → World → Prop} (hgd : o.guard = none) (s x : Operand) (t : TypeId)
    (ho : o.op = .call { callee := .builtin .append, args := #[s, x], argTypes := #[t, t] })
    (base : Nat) (E : TypeId) (ht : P.underlying t = some (.slice E)) (hinfo : (P.info? E).map (fun i => (i.zero, i.size, i.bytes)) = some (some (.int .i64 0), 1, 8))
    (v : Value) (hs : a.eval s = v) (hown : OwnV w base E v []) (g n c : Nat) (zs : List Int) (hx : a.eval x = .slice (some ⟨g, 0, none⟩) n c)
    (hl : zs.length = n) (hg : ∀ j, j < n → w.cell? ⟨g, j, none⟩ = some (.int .i64 (nth zs j))) (B : Nat) (w0 : World) (hb : Below B w0 w) (hB : B ≤ base) (hbase : base ≤ w.heap.size) (hk2 : n ≤ 1099511627776)
    (h : ∀ A k c w', OwnV w' base E (.slice A k c) zs → Below B w0 w' → wpList P ops Q rest (a.put o.dst (.slice A k c)) w') : wpList P ops Q (o :: rest) a w := by
  obtain ⟨i0, hi0, hz0, hz1, hz2⟩ := info_parts hinfo
  refine wpList_append_own (P := P) w hgd s x t ho base E i0 (.int .i64 0) 1 8 ht hi0 hz0 hz1 hz2 rfl (by decide) v 0 _ hs hown ⟨g, 0, none⟩ n c (zs.map (Value.int .i64)) hx (by simp [hl]) ?_ ?_ (by unfold maxLen; omega) (by omega) hbase ?_
  · intro j u hj
    rw [List.getElem?_map] at hj
    by_cases hjn : j < n
    · have e := hg j hjn
      rw [nth_get _ _ (by omega)] at e
      rw [List.getElem?_eq_getElem (by omega)] at hj
      simp at hj
      rw [← hj]
      by_cases hj0 : j = 0
      · subst hj0
        simpa [Addr.add] using e
      · simpa [Addr.add, hj0] using e
    · rw [List.getElem?_eq_none (by omega)] at hj
      simp at hj
  · intro u hu
    simp at hu
    obtain ⟨z, _, rfl⟩ := hu
    rfl
  · intro v' w' hown' hgr _
    have h' : OwnV w' base E v' zs := by
      unfold OwnV
      have e : 0 + n = zs.length := by omega
      rw [e] at hown'
      exact hown'
    obtain ⟨A, k, c', rfl⟩ := h'.slice
    exact h A k c' w' h' (hb.grown hgr (by omega) (fun k hk => by have := hown.ownLt k hk; omega))
set_option maxRecDepth 100000 in
set_option maxHeartbeats 800000 in
theorem clone_any (g n c : Nat) (zs : List Int) (w : World) (hg : g < w.heap.size) (hc : ∀ j, j < n → w.cell? ⟨g, j, none⟩ = some (.int .i64 (nth zs j))) (hl : zs.length = n) (hn : n ≤ 1048576) :
    Calls Try.prog 41 #[.slice (some ⟨g, 0, none⟩) n c] w (IntsPost w zs) := by
  have HC := Lib.hid (fun j hj => (World.cell?_alloc_lt w (.cells #[] 3) ⟨g, j, none⟩ hg).trans (hc j hj))
  clear hc
  have hnil := Lib.run_eql_slice_nil (P := Try.prog) w 25 3 (some ⟨g, 0, none⟩) n c 0 0 Try.underlying25
  go_enter Try.func41, Try.ntmps41
  go_wp2_with (at_builtin; refine wpList_append_row _ rfl (.tmp 5) (.tmp 6) 25 rfl w.heap.size 3 Try.underlying25 infoInt _ rfl (by exact (OwnI.new w _).toV) g n c zs rfl hl (by exact HC.out) w.heap.size w (by exact (Below.refl _ _).alloc (Nat.le_refl _) _) (Nat.le_refl _) (by simp) (by omega) ?_; intro A k c' w3 hown3 hb3)
  go_ret
  exact intsPost hown3 hb3
/-- The number that the marks in block g stand for. -/
def decW (q g : Nat) (w : World) (n : Nat) : Nat := dec q (fun j => intOf ((w.cell? ⟨g, j, none⟩).getD (.bool false))) n
theorem decW_own {q g n cap base : Nat} {E : TypeId} {w : World} {L : List Int} (h : OwnI w base E g cap L) (hl : L.length = n) : decW q g w n = dec q (nth L) n :=
  dec_congr fun j hj => by rw [h.cell (by omega)]; rfl
theorem wgtB_iff {ws : List Int} {n : Nat} (h : wgtB ws n = false) (k : Nat) (hk : k < n) : inB (nth ws k) 0 10000 = true := by
  simp only [wgtB, Bool.not_eq_false', List.all_eq_true] at h
  exact h k (by simpa using hk)
theorem wgtB_bad {ws : List Int} {n : Nat} {q : Int} (h : wgtB ws n = true) : fairOk ws q = false := by
  simp only [wgtB, Bool.not_eq_true'] at h
  rw [List.all_eq_false] at h
  obtain ⟨k, _, hk⟩ := h
  exact fairOk_f1 (k := k) (by simpa using hk)
set_option maxRecDepth 100000 in
set_option maxHeartbeats 6400000 in
theorem iFair_any (A : Option Addr) (n c : Nat) (ws : List Int) (q : Int) (w : World) (h : IntsAt w w.heap.size A n ws) (hn : n ≤ 1048576) :
    Calls Try.prog 15 #[.slice A n c, .int .i64 q] w (FairPost w ws q) := by
  have HX := Lib.hid h
  have HL := Lib.hid h.1
  have hmk := run_make_row' (P := Try.prog) 25 3 (.int .i64 0) 8 Try.underlying25 infoInt rfl .i64 .i64 n (by omega) (by omega)
  have HMK := Lib.hid hmk
  clear h hmk
  cases hq : inB q 1 3
  · have HF := Lib.hid (fairOk_f2 (ws := ws) (inB_iff_f.1 hq))
    go_enter Try.func15, Try.ntmps15
    go_wp2_with (go_at_call 36; refine (within_any _ _ _ _).mono ?_; rw [hq]; rintro e w' ⟨rfl, rfl⟩)
    go_ret2
    exact fairPost_f HF.out (OwnV.nil _ _ _) (Below.refl _ _)
  by_cases h7 : (7 : Int) < (n : Int)
  · have HF := Lib.hid (fairOk_f3 (ws := ws) (q := q) (by rw [HL.out]; omega))
    go_enter Try.func15, Try.ntmps15
    go_wp2_with (go_at_call 36; refine (within_any _ _ _ _).mono ?_; rw [hq]; rintro e w' ⟨rfl, rfl⟩)
    go_ret2
    exact fairPost_f HF.out (OwnV.nil _ _ _) (Below.refl _ _)
  cases hw : wgtB ws n
  case neg.true =>
    have HF := Lib.hid (wgtB_bad (q := q) hw)
    go_enter Try.func15, Try.ntmps15
    go_wp2_with (first
      | (go_at_call 36; refine (within_any _ _ _ _).mono ?_; rw [hq]; rintro e w' ⟨rfl, rfl⟩)
      | (go_at_call 40; refine (containsWgt_any _ _ _ ws _ HX.out hn).mono ?_; rw [hw]; rintro e w' ⟨rfl, rfl⟩))
    go_ret2
    exact fairPost_f HF.out (OwnV.nil _ _ _) (Below.refl _ _)
  have hq13 := inB_iff.1 hq
  have HOK := Lib.hid (fairOk_mk (ws := ws) (q := q) (by rw [HL.out]; exact wgtB_iff hw) hq13 (by rw [HL.out]; omega))
  obtain ⟨p, rfl⟩ := Int.eq_ofNat_of_zero_le (show 0 ≤ q by omega)
  have hk7 : n ≤ 7 := by omega
  have hp1 : 1 ≤ p := by omega
  have hp3 : p ≤ 3 := by omega
  have HDF : Hid (∀ s, s < p ^ n → DigFacts p n s) := Lib.hid fun s hs => dig_facts hp1 hp3 hk7 hs
  have HMH : Hid (∀ s, s < p ^ n → MarkHyp n ws (digs p n s)) := Lib.hid fun s hs => by
    have hok := fairOk_t HOK.out
    have hf := HDF.out s hs
    refine ⟨hk7, HL.out, hf.len, hok.1, fun k hk => ?_⟩
    have := hf.bd (nth (digs p n s) k) (by rw [nth_get _ _ hk]; exact List.getElem_mem hk)
    omega
  have HD0 := Lib.hid (digs_0 hp1 hp3 hk7)
  have HPP := Lib.hid (show 0 < p ^ n from Nat.pow_pos (by omega))
  have hmk := HMK.out
  clear hq13
  go_enter Try.func15, Try.ntmps15
  go_wp2_with (first
    | (go_at_call 36; refine (within_any _ _ _ _).mono ?_; rw [hq]; rintro e w' ⟨rfl, rfl⟩)
    | (go_at_call 40; refine (containsWgt_any _ _ _ ws _ HX.out hn).mono ?_; rw [hw]; rintro e w' ⟨rfl, rfl⟩))
  clear hmk hq hw h7
  go_loopw [28] (fun i wr => ∃ (k : Nat) (L : List Int), k ≤ n ∧ i = .int .i64 k ∧ OwnI wr w.heap.size 3 w.heap.size n L ∧ Hid (L.length = n) ∧ Hid (∀ j, j < k → nth L j = 1) ∧ Below w.heap.size w wr) (fun i _ => n - (intOf i).toNat)
  case atStart => exact ⟨0, List.replicate n 0, Nat.zero_le _, rfl, OwnI.zeros w _ n (by simp [maxLen]; omega), Lib.hid (by simp), Lib.hid (fun j hj => absurd hj (by omega)), (Below.refl _ _).alloc (Nat.le_refl _) _⟩
  case round =>
    obtain ⟨k, L, hk, rfl, hown, HLL, HON, hb⟩ := hrel
    have HO := Lib.hid hown
    have HB := Lib.hid hb
    by_cases hlt : k < n
    · have hcx := hown.cell (j := k) (by rw [HLL.out]; exact hlt)
      have hfx := hown.frozen k
      generalize nth L k = u at hcx
      clear hown hb
      go_wp2
      go_roundw
      case rel =>
        refine ⟨k + 1, _, by omega, by go_num, HO.out.set k 1, Lib.hid (by rw [List.length_set]; exact HLL.out), Lib.hid (fun j hj => ?_), HB.out.setCell (Nat.le_refl _) _⟩
        rw [nth_set _ _ _ _ (by rw [HLL.out]; exact hlt)]
        by_cases hjk : j = k
        · rw [if_pos hjk]
        · rw [if_neg hjk]; exact HON.out j (by omega)
      case measure => first | (simp [intOf]; done) | (simp [intOf]; omega)
    · obtain rfl : k = n := by omega
      have hL : L = digs p k 0 := by
        rw [HD0.out]
        refine list_ext_nth (by simp [HLL.out]) (fun j hj => ?_)
        rw [HON.out j (by rw [HLL.out] at hj; exact hj), nth_get _ _ (by simp; rw [HLL.out] at hj; exact hj)]
        simp
      subst hL
      clear hown hb HON
      go_wp2_with fail
      refine (clone_any w.heap.size k k (digs p k 0) _ HO.out.blk.2 (fun j hj => HO.out.cell (by rw [HLL.out]; exact hj)) HLL.out (by omega)).mono ?_
      rintro e w2 ⟨Ab, kb, cb, rfl, hob, hb2⟩
      have HFW : Hid (∀ s, fairW ws p s = worst ws (digs p k s)) := Lib.hid fun s => by rw [fairW, HL.out]
      have HOB := Lib.hid (ownV_base' hob HB.out.size)
      have HNE := Lib.hid (show (Value.slice Ab kb cb).ownBlock ≠ some w.heap.size from fun e => by have := hob.ownLt _ e; have := HO.out.blk.2; omega)
      have HO2 := Lib.hid (HO.out.below hb2 HO.out.blk.2)
      have HB2 := Lib.hid (HB.out.trans (hb2.mono HB.out.size))
      clear hob hb2 HO HB
      go_wp2
      go_loopw [9] (fun bv wq => ∃ (s : Nat) (Ab : Option Addr) (kb cb : Nat), Hid (s < p ^ k) ∧ bv = .slice Ab kb cb ∧ OwnV wq w.heap.size 3 (.slice Ab kb cb) (digs p k (bestS (fairW ws p) s)) ∧ Hid ((Value.slice Ab kb cb).ownBlock ≠ some w.heap.size) ∧ OwnI wq w.heap.size 3 w.heap.size k (digs p k s) ∧ Below w.heap.size w wq) (fun _ wq => p ^ k - decW p w.heap.size wq k)
      case atStart => exact ⟨0, _, _, _, HPP, rfl, HOB.out, HNE, HO2.out, HB2.out⟩
      case round =>
        obtain ⟨s, Ab', kb', cb', HS, rfl, hob, HNE', hown, hb⟩ := hrel
        have HD := Lib.hid (HDF.out s HS.out)
        have hkb : kb' = k := by rw [hob.len]; exact (HDF.out _ (Nat.lt_of_le_of_lt (bestS_le _ s) HS.out)).len
        subst hkb
        have HO := Lib.hid hown
        have HB := Lib.hid hb
        have HBE := Lib.hid hob
        clear hob hown hb
        go_wp2_with fail
        refine (next_any w.heap.size kb' w.heap.size (p : Int) (digs p kb' s) _ HO.out HD.out.len hk7 (fun j => by
          by_cases hj : j < (digs p kb' s).length
          · have := HD.out.bd (nth (digs p kb' s) j) (by rw [nth_get _ _ hj]; exact List.getElem_mem hj)
            omega
          · simp [nth, List.getD, List.getElem?_eq_none (Nat.le_of_not_lt hj)])).mono ?_
        rintro e w3 ⟨rfl, hown3, hl3, ho3⟩
        have HB3 := Lib.hid (HB.out.trans (ho3.below (Nat.le_refl _)))
        have HBE3 := Lib.hid (ho3.own HBE.out HNE'.out)
        by_cases hs1 : s + 1 < p ^ kb'
        · rw [HD.out.nxt hs1] at hown3 hl3 ⊢
          have HS1 := Lib.hid hs1
          have HO3 := Lib.hid (show OwnI w3 w.heap.size 3 w.heap.size kb' (digs p kb' (s + 1)) from hown3)
          have HL3 := Lib.hid (show (digs p kb' (s + 1)).length = kb' from hl3)
          clear hown3 hl3 ho3 hs1
          go_wp2_with fail
          refine (heavy_any A _ kb' c kb' ws (digs p kb' (s + 1)) _ (HX.out.after' HB3.out) (by have := HO3.out.intsAt; rw [HL3.out] at this; exact this) (HMH.out _ HS1.out)).mono ?_
          rw [← HFW.out]
          rintro e w4 ⟨rfl, hb4⟩
          have HB4 := Lib.hid (HB3.out.trans (hb4.mono HB3.out.size))
          have HO4 := Lib.hid (HO3.out.below hb4 HO3.out.blk.2)
          have HBE4 := Lib.hid (HBE3.out.below hb4)
          clear hb4 HO3 HBE3
          go_wp2_with fail
          refine (heavy_any A _ kb' c cb' ws (digs p kb' (bestS (fairW ws p) s)) _ (HX.out.after' HB4.out) HBE4.out.intsAt (HMH.out _ (Nat.lt_of_le_of_lt (bestS_le _ s) HS.out))).mono ?_
          rw [← HFW.out]
          rintro e w5 ⟨rfl, hb5⟩
          have HB5 := Lib.hid (HB4.out.trans (hb5.mono HB4.out.size))
          have HO5 := Lib.hid (HO4.out.below hb5 HO4.out.blk.2)
          have HBE5 := Lib.hid (HBE4.out.below hb5)
          clear hb5 HO4 HBE4
          have HBS := Lib.hid (show bestS (fairW ws p) (s + 1) = if fairW ws p (s + 1) < fairW ws p (bestS (fairW ws p) s) then s + 1 else bestS (fairW ws p) s from rfl)
          by_cases hlt : fairW ws p (s + 1) < fairW ws p (bestS (fairW ws p) s)
          · have HBS2 := Lib.hid (show bestS (fairW ws p) (s + 1) = s + 1 by rw [HBS.out, if_pos hlt])
            go_wp2_with fail
            refine (clone_any w.heap.size kb' kb' (digs p kb' (s + 1)) _ HO5.out.blk.2 (fun j hj => HO5.out.cell (by rw [HL3.out]; exact hj)) HL3.out (by omega)).mono ?_
            rintro e w6 ⟨A6, k6, c6, rfl, ho6, hb6⟩
            have HO6 := Lib.hid (HO5.out.below hb6 HO5.out.blk.2)
            have HN6 := Lib.hid (show (Value.slice A6 k6 c6).ownBlock ≠ some w.heap.size from fun e => by have := ho6.ownLt _ e; have := HO5.out.blk.2; omega)
            have HB6 := Lib.hid (HB5.out.trans (hb6.mono HB5.out.size))
            have HX6 := Lib.hid (ownV_base' ho6 HB5.out.size)
            clear hb6 ho6
            go_wp2
            go_roundw
            case rel => exact ⟨s + 1, _, _, _, HS1, rfl, by rw [HBS2.out]; exact HX6.out, HN6, HO6.out, HB6.out⟩
            case measure =>
              rw [decW_own HO6.out HL3.out, (HDF.out _ HS1.out).dec, decW_own HO.out HD.out.len, HD.out.dec]
              have := HS1.out
              omega
          · have HBS2 := Lib.hid (show bestS (fairW ws p) (s + 1) = bestS (fairW ws p) s by rw [HBS.out, if_neg hlt])
            go_wp2
            go_roundw
            case rel => exact ⟨s + 1, _, _, _, HS1, rfl, by rw [HBS2.out]; exact HBE5.out, HNE', HO5.out, HB5.out⟩
            case measure =>
              rw [decW_own HO5.out HL3.out, (HDF.out _ HS1.out).dec, decW_own HO.out HD.out.len, HD.out.dec]
              have := HS1.out
              omega
        · rw [HD.out.fin hs1]
          have HSE := Lib.hid (show s = p ^ kb' - 1 by have := HS.out; omega)
          clear hown3 hl3 ho3 hs1
          go_wp2
          go_ret2
          refine fairPost_t HOK.out ?_ HB3.out
          have := HBE3.out
          rw [HSE.out] at this
          rw [fairL, HL.out, Int.toNat_natCast]
          exact this
theorem fair_len (ws : List Int) (q : Int) : (if fairOk ws q = true then fairL ws q.toNat else []).length ≤ 7 := by
  split
  · rename_i h
    have hok := fairOk_t h
    have hp : 1 ≤ q.toNat := by omega
    have hlt : bestS (fairW ws q.toNat) (q.toNat ^ ws.length - 1) < q.toNat ^ ws.length := by
      have := bestS_le (fairW ws q.toNat) (q.toNat ^ ws.length - 1)
      have : 0 < q.toNat ^ ws.length := Nat.pow_pos (by omega)
      omega
    rw [fairL, (dig_facts hp (by omega) hok.2.2 hlt).len]
    exact hok.2.2
  · simp
end Go.Proofs.Ytplabaneihjcoaa
