/-
  Contracts: fair marks in the program: sums, the next marks, a copy.
-/
import Derived.Test.YtplabaneihjcoaaWFairI
namespace Go.Proofs.Ytplabaneihjcoaa
open Go.RowKit
set_option linter.unusedSimpArgs false

theorem max_sums {ws ms : List Int} (hw : ∀ k, 0 ≤ nth ws k ∧ nth ws k ≤ 10000) (hm : ∀ k, k < ms.length → 1 ≤ nth ms k ∧ nth ms k ≤ 3) (hl : ws.length ≤ ms.length) : maxTo (sumsGo ws ms ws.length) 3 = worst ws ms := by
  have h := sumsGo_bd hw hm ws.length hl
  have h1 := h.2 1
  have e : maxTo (sumsGo ws ms ws.length) 3 = max (max (max (nth (sumsGo ws ms ws.length) 0) (nth (sumsGo ws ms ws.length) 1)) (nth (sumsGo ws ms ws.length) 2)) (nth (sumsGo ws ms ws.length) 3) := rfl
  have h0 := h.1
  rw [e, worst]
  omega
set_option maxRecDepth 100000 in
set_option maxHeartbeats 1600000 in
theorem heavy_any (A A' : Option Addr) (n c c' : Nat) (ws ms : List Int) (w : World) (hx : IntsAt w w.heap.size A n ws) (hy : IntsAt w w.heap.size A' n ms) (hh : MarkHyp n ws ms) :
    Calls Try.prog 43 #[.slice A n c, .slice A' n c'] w fun e w' => e = .returned (.int .i64 (worst ws ms)) ∧ Below w.heap.size w w' := by
  have H := Lib.hid hh
  have HX := Lib.hid hx
  have HY := Lib.hid hy
  have hn := hh.n7
  clear hx hy hh
  go_enter Try.func43, Try.ntmps43
  go_wp2
  go_loopw [10] (fun i wr => ∃ k : Nat, k ≤ n ∧ i = .int .i64 k ∧ wr.rowIs w.heap.size 100 4 (fun j => .int .i64 (nth (sumsGo ws ms k) j)) ∧ Below w.heap.size w wr) (fun i _ => n - (intOf i).toNat)
  case atStart => exact ⟨0, Nat.zero_le _, rfl, World.rowIs_alloc w _ _ _ (fun j hj => by match j, hj with | 0, _ => rfl | 1, _ => rfl | 2, _ => rfl | 3, _ => rfl), (Below.refl _ _).alloc (Nat.le_refl _) _⟩
  case round =>
    obtain ⟨k, hk, rfl, hown, hb⟩ := hrel
    have hS := sumsGo_bd H.out.w H.out.m k (by rw [H.out.ml]; exact hk)
    have hSl := sumsGo_length ws ms k
    have HB := Lib.hid hb
    by_cases hlt : k < n
    · obtain ⟨b, off, rfl, hbB, hc⟩ := HX.out.2 (by omega)
      obtain ⟨b', off', rfl, hbB', hc'⟩ := HY.out.2 (by omega)
      have hcx : wr.cell? ⟨b, off + k, none⟩ = some (.int .i64 (nth ws k)) := (hb.cell (by exact hbB)).trans (hc k hlt)
      have hcy : wr.cell? ⟨b', off' + k, none⟩ = some (.int .i64 (nth ms k)) := (hb.cell (by exact hbB')).trans (hc' k hlt)
      have hm := H.out.m k (by rw [H.out.ml]; exact hlt)
      have hwk := H.out.w k
      obtain ⟨v, hv⟩ := Int.eq_ofNat_of_zero_le (show 0 ≤ nth ms k by omega)
      have hst : sumsGo ws ms (k + 1) = (sumsGo ws ms k).set v (nth (sumsGo ws ms k) v + nth ws k) := by rw [sumsGo, hv, Int.toNat_natCast]
      rw [hv] at hcy hm
      have hv3 : (v : Int) < 4 := by omega
      have hcs := hown.cell (i := v) (by omega)
      have hfs := hown.frozen v
      have hSv := hS.2 v
      have HN := Lib.hid (fun (z : Int) (j : Nat) => nth_set (sumsGo ws ms k) v j z (by rw [hSl]; omega))
      have HO := Lib.hid hown
      have HST := Lib.hid hst
      generalize hz : nth (sumsGo ws ms k) v = z at hcs hSv
      generalize hu : nth ws k = u at hcx hwk
      have HZ := Lib.hid hz
      have HUU := Lib.hid hu
      clear hst hown hb hc hc' hz hu hv hS hSl
      have e1 : IntKind.i64.wrap (z + u) = z + u := IntWalk.i64_in _ (by omega)
      go_wp2
      go_roundw
      case rel =>
        refine ⟨k + 1, by omega, by go_num, (HO.out.set v _).congr (fun j hj => ?_), HB.out.setCell (Nat.le_refl _) _⟩
        rw [HST.out, HN.out, HZ.out, HUU.out]
        by_cases hjv : j = v
        · rw [if_pos hjv, if_pos hjv]
        · rw [if_neg hjv, if_neg hjv]
      case measure => first | (simp [intOf]; done) | (simp [intOf]; omega)
    · obtain rfl : k = n := by omega
      have HI := Lib.hid (intsAt_row (zs := sumsGo ws ms k) hown (sumsGo_length ws ms k) (fun j hj => rfl))
      have HM := Lib.hid (max_sums H.out.w H.out.m (by rw [H.out.wl, H.out.ml]; exact Nat.le_refl _))
      have hwl := H.out.wl
      clear hown hb hS hSl
      go_wp2_with fail
      refine (maxInts_any _ 4 4 (sumsGo ws ms k) _ HI.out (by omega) (by omega)).mono ?_
      rw [show (4 - 1) = 3 from rfl, ← hwl, HM.out]
      rintro e w3 ⟨rfl, rfl⟩
      go_wp2
      go_ret
      exact ⟨rfl, HB.out⟩
set_option maxHeartbeats 800000 in
theorem next_any (g n : Nat) (base : Nat) (q : Int) (L : List Int) (w : World) (h : OwnI w base 3 g n L) (hl : L.length = n) (hn : n ≤ 7) (hb : ∀ k, 0 ≤ nth L k ∧ nth L k ≤ 3) :
    Calls Try.prog 42 #[.slice (some ⟨g, 0, none⟩) n n, .int .i64 q] w fun e w' => e = .returned (.bool (nextGo q L n).2) ∧ OwnI w' base 3 g n (nextGo q L n).1 ∧ (nextGo q L n).1.length = n ∧ Only g w w' := by
  go_enter Try.func42, Try.ntmps42
  go_wp2
  go_loopw [5] (fun i wr => ∃ (m : Nat) (M : List Int), m ≤ n ∧ i = .int .i64 ((m : Int) - 1) ∧ Hid (nextGo q M m = nextGo q L n) ∧ Hid (M.length = n) ∧ Hid (∀ k, 0 ≤ nth M k ∧ nth M k ≤ 3) ∧ OwnI wr base 3 g n M ∧ Only g w wr) (fun i _ => (intOf i + 1).toNat)
  case atStart => exact ⟨n, L, Nat.le_refl _, by go_num, Lib.hid rfl, Lib.hid hl, Lib.hid hb, h, Only.refl _ _⟩
  case round =>
    obtain ⟨m, M, hm, rfl, HM, HML, HMB, hown, ho⟩ := hrel
    have HO := Lib.hid hown
    have HON := Lib.hid ho
    rcases m with _ | m
    · have hz : ((0 : Nat) : Int) - 1 = -1 := rfl
      rw [hz]
      have HR := Lib.hid (show nextGo q L n = (M, false) from HM.out.symm)
      clear h hown ho hz
      go_wp2
      go_ret
      rw [HR.out]
      exact ⟨rfl, HO.out, HML.out, HON.out⟩
    · have e : (((m + 1 : Nat)) : Int) - 1 = (m : Int) := by omega
      rw [e]
      have hcx := hown.cell (j := m) (by rw [HML.out]; omega)
      have hfx := hown.frozen m
      have hm1 : (m : Int) < (n : Int) := by omega
      have hb3 := HMB.out m
      have HU := Lib.hid (show nextGo q M (m + 1) = if nth M m < q then (M.set m (nth M m + 1), true) else nextGo q (M.set m 1) m from rfl)
      by_cases hu : nth M m < q
      · have HR := Lib.hid (show nextGo q L n = (M.set m (nth M m + 1), true) by rw [← HM.out, HU.out, if_pos hu])
        generalize nth M m = u at hcx hu hb3 HR
        clear h hown ho e
        go_wp2
        go_ret
        rw [HR.out]
        exact ⟨rfl, HO.out.set m _, by rw [List.length_set]; exact HML.out, HON.out.setCell _ _⟩
      · have HR := Lib.hid (show nextGo q (M.set m 1) m = nextGo q L n by rw [← HM.out, HU.out, if_neg hu])
        generalize nth M m = u at hcx hu hb3
        clear h hown ho e
        go_wp2
        go_roundw
        case rel =>
          refine ⟨m, _, by omega, by go_num, HR, Lib.hid (by rw [List.length_set]; exact HML.out), Lib.hid (fun k => ?_), HO.out.set m _, HON.out.setCell _ _⟩
          rw [nth_set _ _ _ _ (by rw [HML.out]; omega)]
          have := HMB.out k
          split <;> omega
        case measure => first | (simp [intOf]; done) | (simp [intOf]; omega)
end Go.Proofs.Ytplabaneihjcoaa
