/-
  Contracts: Imbalance, in the reference and in the program.
-/
import Derived.Test.YtgaafmcmcalaoaaWLaying
import Derived.WalkLawsBesides
namespace Go.Proofs.Ytgaafmcmcalaoaa
open Go.RowKit Go.Shelf
set_option linter.unusedSimpArgs false
attribute [local go_sem] Oper.semAt_some

def stepM (a : Int) (x : Int × Int) : Int := max (max a (wrap64 (x.1 - x.2))) (wrap64 (x.2 - x.1))
def imbL (xs : List (Int × Int)) : Int := xs.foldl stepM 0
theorem imbL_snoc (xs : List (Int × Int)) (x : Int × Int) : imbL (xs ++ [x]) = stepM (imbL xs) x := by simp [imbL]
def imbI (m : Int) (zs : List Int) (len : Nat) : Int := if layB m zs len = true then imbL (sidesL m (zs.take (len - 1))) else -1
theorem imbI_t {m : Int} {zs : List Int} {len : Nat} (h : layB m zs len = true) : imbI m zs len = imbL (sidesL m (zs.take (len - 1))) := by simp [imbI, h]
theorem imbI_f {m : Int} {zs : List Int} {len : Nat} (h : layB m zs len = false) : imbI m zs len = -1 := by simp [imbI, h]

theorem some_int {k : IntKind} {a b : Int} (h : a = b) : some (Value.int k a) = some (Value.int k b) := by rw [h]

set_option maxRecDepth 100000 in
set_option maxHeartbeats 2000000 in
theorem imb_in (m : Int) (j : Nat) (hj1 : m ≤ (j : Int) + 1) (hj2 : (j : Int) + 1 ≤ m) (A : Option Addr) (cap : Nat) (zs : List Int) (w : World) (hc : IntsAt w w.heap.size A (j + 1) zs) (hcap : j + 1 ≤ cap) (hL : layB m zs (j + 1) = true) (hj : j < 8) :
    CallsIn Fence.wide 4 Try.prog 13 #[.slice A (j + 1) cap, .int .i64 m] w fun e w' => e = .returned (.int .i64 (imbI m zs (j + 1))) ∧ Below w.heap.size w w' := by
  have HT := Lib.hid (imbI_t hL)
  obtain ⟨b, off, rfl, hbB, hcc⟩ := hc.2 (by omega)
  have hm0 : (m - 1).toNat = j := by omega
  have hm3 : 0 ≤ m - 1 := by omega
  have hm4 : m - 1 ≤ (cap : Int) := by omega
  have HIT : Hid (IntsAt w w.heap.size (some ⟨b, off, none⟩) j (zs.take j)) := by
    refine ⟨by have := hc.1; simp; omega, fun hp => ⟨b, off, rfl, hbB, fun k hk => ?_⟩⟩
    rw [hcc k (by omega)]
    simp [nth, List.getD, hk]
  clear hcc
  refine callsIn_of_wp_marks Try.func13 rfl trivial ?_ rfl
  simp only [Try.ntmps13, List.size_toArray, List.length_cons, List.length_nil, Nat.reduceAdd, Nat.reduceSub, Array.replicate_succ, Array.replicate_zero, List.push_toArray, List.append_toArray, List.nil_append, List.cons_append]
  gi_wp2_with fail
  refine ⟨trivial, ?_⟩
  gi_at_call 10
  refine (callsIn_wide.2 (iIsLaying_any _ _ _ _ zs _ hc)).mono ?_
  rw [hL]
  rintro e w1 ⟨rfl, hb1⟩
  gi_wp2_with (refine ⟨trivial, ?_⟩; gi_at_call 36; refine (sides_in Fence.wide 3 trivial rfl _ _ _ _ _).mono ?_; rintro e w' ⟨rfl, rfl⟩)
  have hz1 := hb1.size
  have bS := Boxed.new w1 3 (.int .i64 0)
  have bN := Boxed.new (w1.alloc (.cells #[.int .i64 0] 3)) 3 (.int .i64 m)
  have bO := Boxed.new ((w1.alloc (.cells #[.int .i64 0] 3)).alloc (.cells #[.int .i64 m] 3)) 22 (.slice (some ⟨b, off, none⟩) j cap)
  have hB0 : Below w.heap.size w (((w1.alloc (.cells #[.int .i64 0] 3)).alloc (.cells #[.int .i64 m] 3)).alloc (.cells #[.slice (some ⟨b, off, none⟩) j cap] 22)) := ((hb1.alloc hz1 _).alloc (by simp; omega) _).alloc (by simp; omega) _
  have bN' := (bN.alloc (.cells #[.slice (some ⟨b, off, none⟩) j cap] 22))
  simp only [World.size_alloc] at bN' bO
  refine wpIn_rangeFunc_ownG rfl (by omega) (gf := 52) (lb := #[.pointer (some ⟨w1.heap.size + 1 + 1, 0, none⟩), .pointer (some ⟨w1.heap.size + 1, 0, none⟩)]) rfl trivial (enters_of Try.func52 (by kernel_rfl) rfl)
    (sides_stops Fence.wide 3 trivial rfl (by omega) (w1.heap.size + 1 + 1) (w1.heap.size + 1) w.heap.size m (some ⟨b, off, none⟩) j cap (zs.take j) (by omega) (by omega) _ (by simp <;> omega) (by simp <;> omega) (by simp <;> omega) bO.cell bN'.cell (HIT.out.below hB0)) KeepB.t (KeepB.b (by simp <;> omega) (by simp <;> omega)) (Below.refl _ _) (fun _ => rfl)
    (fun pre W => (W.cell? ⟨w1.heap.size, 0, none⟩ = some (.int .i64 (imbL pre)) ∧ W.frozen? ⟨w1.heap.size, 0, none⟩ = false) ∧ Below w.heap.size w W)
    (fun _ _ _ => False)
    (OwnFrom.and (Own.from (fun s A B row hs hg hr => ⟨cell_kept hs.1 hg hr, (frozen_kept hs.1 hg hr).trans hs.2⟩) _) (ownFrom_below (Nat.le_refl _) (by simp; omega)))
    (fun _ _ _ _ _ hs _ _ => hs)
    ⟨⟨((bS.alloc _).alloc _).cell, ((bS.alloc _).alloc _).frozen⟩, hB0⟩
    (fun x => { tmps := #[.slice (some ⟨b, off, none⟩) (j + 1) cap, .int .i64 m, undef, undef, .int .i64 0, .pointer (some ⟨w1.heap.size, 0, none⟩), .int .i64 x.1, .int .i64 x.2, .int .i64 m, .slice (some ⟨b, off, none⟩) (j + 1) cap, .bool true, .bool false, .int .i64 m, .slice (some ⟨b, off, none⟩) (j + 1) cap, .int .i64 m, .int .i64 (m - 1), .slice (some ⟨b, off, none⟩) j cap, .func (.func 52) #[] #[.pointer (some ⟨w1.heap.size + 1 + 1, 0, none⟩), .pointer (some ⟨w1.heap.size + 1, 0, none⟩)], .int .i64 x.1, .int .i64 x.2, undef, undef, undef, undef, undef, undef, undef, undef, undef], defers := [] }) ?assign ?body ?done ?stop
  case assign =>
    intro l x W K hK
    gi_wp2
    simpa using hK
  case body =>
    rintro l pre x W ⟨⟨hcc, hff⟩, hB⟩ hpl
    gi_wp2
    all_goals
      refine ⟨(KeepsOthers.setCell _ _ _).from _, ⟨(Below.refl w.heap.size W).setCell (p := ⟨w1.heap.size, 0, none⟩) (by simp; omega) _, Below.heap_setCell _ _ _ _ (by simp)⟩, ⟨?_, by rw [World.frozen?_setCell]; exact hff⟩, hB.setCell (p := ⟨w1.heap.size, 0, none⟩) (by simp; omega) _⟩
      rw [imbL_snoc]
      refine (World.cell?_setCell_same' _ _ _ (by rw [hcc]; rfl)).trans (some_int ?_)
      unfold stepM
      omega
  case done =>
    rintro D ys W hD rfl ⟨⟨hcc, _⟩, hB⟩ hK
    gi_wp2
    refine ⟨by simp, .inl ⟨_, _, rfl, run_takeDeferred hK, ?_⟩⟩
    exact ⟨_, results_tmp rfl _ _ _, by rw [HT.out, Nat.add_sub_cancel]; rfl, hB.trans (belowK_b (w := w) (Nat.le_refl _) W D _ _ (by simp at hD; omega) hK rfl rfl)⟩
  case stop =>
    rintro D c pre W _ _ h _
    exact h.elim

theorem layB_out {m : Int} {zs : List Int} {len : Nat} (h : layB m zs len = true) : (1 ≤ m ∧ m ≤ 8) ∧ (len : Int) = m ∧ ((sidesL m zs).length : Int) = m := by
  simp only [layB, Bool.and_eq_true, decide_eq_true_eq, inB_iff] at h
  exact ⟨h.1, h.2.1, h.2.2⟩
theorem iImbalance_any (m : Int) (A : Option Addr) (len cap : Nat) (zs : List Int) (w : World) (hc : IntsAt w w.heap.size A len zs) (hcap : len ≤ cap) :
    Calls Try.prog 13 #[.slice A len cap, .int .i64 m] w fun e w' => e = .returned (.int .i64 (imbI m zs len)) ∧ Below w.heap.size w w' := by
  cases hL : layB m zs len
  · have HF := Lib.hid (imbI_f hL)
    go_enter Try.func13, Try.ntmps13
    go_wp2_with fail
    refine (iIsLaying_any _ _ _ _ zs _ hc).mono ?_
    rw [hL]
    rintro e w1 ⟨rfl, hb1⟩
    go_wp2
    go_ret
    exact ⟨ret_int HF.out.symm, hb1⟩
  · have ho := layB_out hL
    obtain ⟨j, rfl⟩ : ∃ j, len = j + 1 := ⟨len - 1, by omega⟩
    exact (callsIn_wide (n := 4)).1 (imb_in m j (by omega) (by omega) A cap zs w hc hcap hL (by omega))

theorem stepM_small {a l r : Int} (h1 : 0 ≤ l) (h2 : l ≤ 8) (h3 : 0 ≤ r) (h4 : r ≤ 8) : stepM a (l, r) = max (max a (l - r)) (r - l) := by
  unfold stepM
  rw [IntWalk.wrap64_in _ (by simp; omega), IntWalk.wrap64_in _ (by simp; omega)]
theorem nth_take {zs : List Int} {j k : Nat} (h : k < j) : nth (zs.take j) k = nth zs k := by simp [nth, List.getD, h]

set_option maxHeartbeats 800000 in
theorem sImbalance_any (m : Int) (A : Option Addr) (len cap : Nat) (zs : List Int) (w : World) (hc : IntsAt w w.heap.size A len zs) :
    Calls Try.prog 12 #[.slice A len cap, .int .i64 m] w fun e w' => e = .returned (.int .i64 (imbI m zs len)) ∧ w = w' := by
  cases hL : layB m zs len
  · have HF := Lib.hid (imbI_f hL)
    go_enter Try.func12, Try.ntmps12
    go_wp2_with fail
    refine (sIsLaying_any _ _ _ _ zs _ hc).mono ?_
    rw [hL]
    rintro e w1 ⟨rfl, rfl⟩
    go_wp2
    go_ret
    exact ⟨ret_int HF.out.symm, rfl⟩
  · have HT := Lib.hid (imbI_t hL)
    have ho := layB_out hL
    obtain ⟨j, rfl⟩ : ∃ j, len = j + 1 := ⟨len - 1, by omega⟩
    have hm1 : (j : Int) ≤ m - 1 := by omega
    have hm2 : m - 1 ≤ (j : Int) := by omega
    have hm8 : m ≤ 8 := ho.1.2
    have HO := Lib.hid ho.2.2
    have HC := Lib.hid hc
    have HZ := Lib.hid hc.1
    clear ho
    go_enter Try.func12, Try.ntmps12
    go_wp2_with fail
    refine (sIsLaying_any _ _ _ _ zs _ hc).mono ?_
    rw [hL]
    rintro e w1 ⟨rfl, rfl⟩
    clear hL hc
    go_wp2
    go_loop [5, 6, 7] (fun a b i => ∃ (k : Nat) (lf rt : Int) (pre : List (Int × Int)), k ≤ j ∧ i = .int .i64 k ∧ a = .int .i64 lf ∧ b = .int .i64 (imbL pre) ∧ 0 ≤ lf ∧ 0 ≤ rt ∧ lf ≤ k ∧ rt ≤ k ∧ Hid (lf + rt = k) ∧ Hid (pre ++ layGo m ((zs.take j).drop k) lf rt = sidesL m (zs.take j)) ∧ Hid (((layGo m (zs.drop k) lf rt).length : Int) = m - k)) (fun _ _ i => j - (intOf i).toNat)
    case atStart => exact ⟨0, 0, 0, [], Nat.zero_le _, rfl, rfl, rfl, by omega, by omega, by omega, by omega, rfl, rfl, by have := HO.out; show _ = _; simp only [List.drop_zero]; unfold sidesL at this; omega⟩
    case round =>
      obtain ⟨k, lf, rt, pre, hk, rfl, rfl, rfl, hl0, hr0, hlk, hrk, HS, HP, HQ⟩ := hrel
      by_cases hlt : k < j
      · obtain ⟨b, off, rfl, hbB, hcc⟩ := HC.out.2 (by omega)
        have x0 := hcc k (by omega)
        have hkz : k < zs.length := by have := HZ.out; omega
        have hkt : k < (zs.take j).length := by have := HZ.out; simp; omega
        have e0 : ¬ lf + rt = m := by have := HS.out; omega
        have hki : (k : Int) < m - 1 := by omega
        clear hcc
        by_cases e1 : nth zs k = lf
        · have t3 : (nth zs k == lf) = true := by simp [e1]
          have HF := Lib.hid (layGo_left (r := rt) hkz e0 e1)
          have HG := Lib.hid (layGo_left (r := rt) hkt e0 (by rw [nth_take hlt]; exact e1))
          have HM := Lib.hid (stepM_small (a := imbL pre) (l := lf + 1) (r := rt) (by omega) (by omega) (by omega) (by omega))
          clear e0 e1
          go_wp2
          all_goals
            have hs := HS.out
            have hmm := HM.out
            have hsn := imbL_snoc pre (lf + 1, rt)
            go_round
            case rel => exact ⟨k + 1, lf + 1, rt, pre ++ [(lf + 1, rt)], by omega, by go_num, by go_num, by rw [hsn, hmm]; congr 1; omega, by omega, hr0, by omega, by omega, by show _ = _; omega, by have h := HP.out; rw [HG.out] at h; show _ = _; simpa using h, by have h := HQ.out; rw [HF.out] at h; show _ = _; simp at h; omega⟩
            case measure => simp [intOf]; omega
        · have t3 : (nth zs k == lf) = false := by simp [e1]
          by_cases e2 : nth zs k = m - 1 - rt
          · have HF := Lib.hid (layGo_right (l := lf) hkz e0 e1 e2)
            have HG := Lib.hid (layGo_right (l := lf) hkt e0 (by rw [nth_take hlt]; exact e1) (by rw [nth_take hlt]; exact e2))
            have HM := Lib.hid (stepM_small (a := imbL pre) (l := lf) (r := rt + 1) (by omega) (by omega) (by omega) (by omega))
            clear e0 e1 e2
            go_wp2
            all_goals
              have hs := HS.out
              have hmm := HM.out
              have hsn := imbL_snoc pre (lf, rt + 1)
              go_round
              case rel => exact ⟨k + 1, lf, rt + 1, pre ++ [(lf, rt + 1)], by omega, by go_num, rfl, by rw [hsn, hmm]; congr 1; omega, hl0, by omega, by omega, by omega, by show _ = _; omega, by have h := HP.out; rw [HG.out] at h; show _ = _; simpa using h, by have h := HQ.out; rw [HF.out] at h; show _ = _; simp at h; omega⟩
              case measure => simp [intOf]; omega
          · have HF := layGo_no hkz e0 e1 e2
            have h := HQ.out
            rw [HF] at h
            simp at h
            omega
      · obtain rfl : k = j := by omega
        have HF := Lib.hid (layGo_end (n := m) (l := lf) (r := rt) (zs := zs.take k) (k := k) (by simp; omega))
        have hkn : ¬ (k : Int) < m - 1 := by omega
        go_wp2
        go_ret
        exact ⟨ret_int (by have h := HP.out; rw [HF.out, List.append_nil] at h; rw [HT.out, Nat.add_sub_cancel, h]), rfl⟩
end Go.Proofs.Ytgaafmcmcalaoaa
