/-
  Contracts: the draw of an order of laying, and the laws' small helpers.
-/
import Derived.Test.YtgaafmcmcalaoaaWDraw
import Derived.Test.YtgaafmcmcalaoaaPLayLaw
namespace Go.Proofs.Ytgaafmcmcalaoaa
open Go.RowKit
set_option linter.unusedSimpArgs false

/-- A number of stones and an order of laying come back. -/
def OrdPost (B : Nat) (w : World) (e : Ending) (w' : World) : Prop :=
  ∃ (m x : Nat) (A : Option Addr) (k c : Nat), e = .returned (.tuple #[.int .i64 ((m : Int) + 1), .slice A k c]) ∧ m < 8 ∧ x < 2 ^ m ∧ OwnV w' w.heap.size 3 (.slice A k c) (layL ((m : Int) + 1) (x : Int)) ∧ Below B w w'
theorem layOk_of {m x : Nat} (hm : m < 8) (hx : x < 2 ^ m) : layOk ((m : Int) + 1) (x : Int) = true := by
  have h : m = 0 ∨ m = 1 ∨ m = 2 ∨ m = 3 ∨ m = 4 ∨ m = 5 ∨ m = 6 ∨ m = 7 := by omega
  refine layOk_t (inB_t (by omega)) (inB_t ?_)
  rw [layings_t (by omega)]
  rcases h with rfl | rfl | rfl | rfl | rfl | rfl | rfl | rfl <;> simp [wrap64] <;> omega
set_option maxRecDepth 100000 in
set_option maxHeartbeats 6400000 in
theorem l26Order_any (g : Nat) (A : Option Addr) (n c : Nat) (zs : List Int) (w : World) (h : BytesAt w g A n zs) (hn : n ≤ 1048576) (hc : CurAt w g A n c) (hg : g < w.heap.size) :
    Calls Try.prog 43 #[.pointer (some ⟨g, 0, none⟩)] w (OrdPost g w) := by
  go_enter Try.func43, Try.ntmps43
  go_wp2_with fail
  refine (l01Below_any g A n c zs 8 _ h hn hc (by omega) (by omega)).mono ?_
  rintro e w1 ⟨r, rfl, hr0, hr1, hc1, ho1⟩
  have h1 := h.only ho1 (Nat.le_refl _)
  have HO1 := Lib.hid ho1
  obtain ⟨m, rfl⟩ := Int.eq_ofNat_of_zero_le hr0
  have hm : m < 8 := by omega
  have ew : IntKind.i64.wrap (1 + (m : Int)) = (m : Int) + 1 := by rw [IntWalk.i64_in _ (by omega)]; omega
  have ew2 : IntKind.i64.wrap ((m : Int) + 1 - 1) = (m : Int) := by rw [Int.add_sub_cancel]; exact IntWalk.i64_in _ (by omega)
  have hp : ∃ P : Nat, 2 ^ m = P ∧ wrap64 ((2 : Int) ^ m) = (P : Int) ∧ 0 < P ∧ P ≤ 128 := by
    have h : m = 0 ∨ m = 1 ∨ m = 2 ∨ m = 3 ∨ m = 4 ∨ m = 5 ∨ m = 6 ∨ m = 7 := by omega
    rcases h with rfl | rfl | rfl | rfl | rfl | rfl | rfl | rfl <;> exact ⟨_, rfl, by simp [wrap64], by decide, by decide⟩
  obtain ⟨P, hP, hW, hP0, hP1⟩ := hp
  have HW := Lib.hid hW
  have HP := Lib.hid hP
  clear hW hP
  clear ho1 h hc hr0 hr1
  go_wp2_with fail
  refine (l01Below_any g A n c zs _ _ h1 hn hc1 (by rw [HW.out]; omega) (by rw [HW.out]; omega)).mono ?_
  rintro e w2 ⟨x, rfl, hx0, hx1, hc2, ho2⟩
  rw [HW.out] at hx1
  obtain ⟨x, rfl⟩ := Int.eq_ofNat_of_zero_le hx0
  have HX := Lib.hid (show x < 2 ^ m by rw [HP.out]; omega)
  have HO2 := Lib.hid ho2
  clear hc2 ho2 h1 hc1
  go_wp2_with fail
  refine (sLayingAt_any _ _ _ (by omega) (by omega)).mono ?_
  rintro e w3 ⟨A3, k3, c3, rfl, hown, hb3⟩
  rw [layOk_of hm HX.out, if_pos rfl] at hown
  have hs : w2.heap.size = w.heap.size := by rw [HO2.out.size, HO1.out.size]
  rw [hs] at hown hb3
  have HF : Hid (OwnV w3 w.heap.size 3 (.slice A3 k3 c3) (layL ((m : Int) + 1) (x : Int)) ∧ Below g w w3) := ⟨hown, ((HO1.out.trans HO2.out).below (Nat.le_refl _)).trans (hb3.mono (by omega))⟩
  clear hown hb3 hs
  go_wp2
  go_ret2
  exact ⟨m, x, A3, k3, c3, rfl, hm, HX.out, HF.out.1, HF.out.2⟩
theorem ownV_base {w : World} {base base' : Nat} {E : TypeId} {v : Value} {xs : List Int} (h : OwnV w base E v xs) (hb : base' ≤ base) : OwnV w base' E v xs := by
  refine ⟨h.1, ?_⟩
  rcases h.2 with h2 | ⟨g, cap, cur, h1, h2, h3⟩
  · exact .inl h2
  · exact .inr ⟨g, cap, cur, h1, Nat.le_trans hb h2, h3⟩
set_option maxRecDepth 100000 in
set_option maxHeartbeats 3200000 in
theorem drawLaying_any (A : Option Addr) (n c : Nat) (zs : List Int) (w : World) (h : BytesAt w w.heap.size A n zs) (hn : n ≤ 1048576) :
    Calls Try.prog 19 #[.slice A n c] w (OrdPost w.heap.size w) := by
  go_enter Try.func19, Try.ntmps19
  go_wp2_with fail
  refine (l01New_any _ _ _ zs _ h hn).mono ?_
  rintro e w1 ⟨g, rfl, hg, hc, hb1⟩
  have hgl : g < w1.heap.size := by
    obtain ⟨i, x, _, hcc⟩ := hc
    exact RowF.lt hcc
  have h1 : BytesAt w1 g A n zs := (h.below hb1).mono hg
  have HB1 := Lib.hid hb1
  clear hb1 h
  go_wp2_with fail
  refine (l26Order_any g _ _ _ zs _ h1 hn hc hgl).mono ?_
  rintro e w2 ⟨m, x, A2, k2, c2, rfl, hm, hx, hown, hb2⟩
  have HF : Hid (OwnV w2 w.heap.size 3 (.slice A2 k2 c2) (layL ((m : Int) + 1) (x : Int)) ∧ Below w.heap.size w w2) := ⟨ownV_base hown HB1.out.size, HB1.out.trans (hb2.mono hg)⟩
  clear hown hb2 hc h1
  go_wp2
  go_ret2
  exact ⟨m, x, A2, k2, c2, rfl, hm, hx, HF.out.1, HF.out.2⟩
theorem big_any (A : Option Addr) (n c : Nat) (w : World) : Calls Try.prog 18 #[.slice A n c] w fun e w' => e = .returned (.bool (decide ((1048576 : Int) < (n : Int)))) ∧ w = w' := by
  go_enter Try.func18, Try.ntmps18
  go_wp2
  go_ret
  exact ⟨rfl, rfl⟩
/-- What 'at' reads. -/
def atV (zs : List Int) (n : Nat) (i : Int) : Int := if n = 0 then 0 else nth zs ((i * 5 + 1) % (n : Int)).toNat
theorem atV_bd {zs : List Int} (h : ∀ k, 0 ≤ nth zs k ∧ nth zs k ≤ 255) (n : Nat) (i : Int) : 0 ≤ atV zs n i ∧ atV zs n i ≤ 255 := by
  unfold atV
  split
  · omega
  · exact h _
set_option maxHeartbeats 800000 in
theorem at_any (A : Option Addr) (n c : Nat) (zs : List Int) (i : Int) (w : World) (h : BytesAt w w.heap.size A n zs) (hn : n ≤ 1048576) (hi : 0 ≤ i ∧ i ≤ 1000) :
    Calls Try.prog 21 #[.slice A n c, .int .i64 i] w fun e w' => e = .returned (.int .i64 (atV zs n i)) ∧ w = w' := by
  by_cases h0 : n = 0
  · have ht : ((n : Int) == 0) = true := by simp [h0]
    have HV := Lib.hid (show atV zs n i = 0 by simp [atV, h0])
    go_enter Try.func21, Try.ntmps21
    go_wp2
    go_ret
    exact ⟨ret_int HV.out.symm, rfl⟩
  · have ht : ((n : Int) == 0) = false := by simp; omega
    have hn0 : ¬ (n : Int) = 0 := by omega
    have HV := Lib.hid (show atV zs n i = nth zs ((i * 5 + 1) % (n : Int)).toNat by simp [atV, h0])
    obtain ⟨b, off, rfl, hb, hc⟩ := h.2 (by omega)
    have q0 : 0 ≤ (i * 5 + 1) % (n : Int) := Int.emod_nonneg _ hn0
    have q1 : (i * 5 + 1) % (n : Int) < (n : Int) := Int.emod_lt_of_pos _ (by omega)
    obtain ⟨j, hj⟩ := Int.eq_ofNat_of_zero_le q0
    have hx := hc j (by omega)
    rw [hj, Int.toNat_natCast] at HV
    have e5 : IntKind.i64.wrap (i * 5 + 1) = i * 5 + 1 := IntWalk.i64_in _ (by omega)
    have hq : Int.tmod (i * 5 + 1) (n : Int) = (i * 5 + 1) % (n : Int) := Int.tmod_eq_emod_of_nonneg (by omega)
    have HZ := Lib.hid (show wrap64 (nth zs j) = atV zs n i by rw [HV.out]; have := h.1.2 j; exact IntWalk.wrap64_in _ (by omega))
    clear hc h h0
    go_enter Try.func21, Try.ntmps21
    go_wp2
    go_ret
    exact ⟨ret_int HZ.out, rfl⟩
set_option maxHeartbeats 400000 in
theorem sameInts_any (A A' : Option Addr) (n n' c c' : Nat) (xs ys : List Int) (w : World) (hx : IntsAt w w.heap.size A n xs) (hy : IntsAt w w.heap.size A' n' ys) (hn : n ≤ 1048576) (hn' : n' ≤ 1048576) :
    Calls Try.prog 25 #[.slice A n c, .slice A' n' c'] w fun e w' => e = .returned (.bool (eqL xs ys)) ∧ Below w.heap.size w w' := by
  by_cases hl : n = n'
  · subst hl
    have HX := Lib.hid hx
    have HY := Lib.hid hy
    clear hx hy
    have ht : ((n : Int) != (n : Int)) = false := by simp
    go_enter Try.func25, Try.ntmps25
    go_wp2
    go_loopw [5] (fun i wr => ∃ k : Nat, k ≤ n ∧ i = .int .i64 k ∧ agree xs ys k ∧ Below w.heap.size w wr) (fun i _ => n - (intOf i).toNat)
    case atStart => exact ⟨0, Nat.zero_le _, rfl, fun j hj => absurd hj (by omega), Below.refl _ _⟩
    case round =>
      obtain ⟨k, hk, rfl, hag, hb⟩ := hrel
      have HB := Lib.hid hb
      by_cases hlt : k < n
      · obtain ⟨b, off, rfl, hbB, hc⟩ := HX.out.2 (by omega)
        obtain ⟨b', off', rfl, hbB', hc'⟩ := HY.out.2 (by omega)
        have hcx : wr.cell? ⟨b, off + k, none⟩ = some (.int .i64 (nth xs k)) := (hb.cell (by exact hbB)).trans (hc k hlt)
        have hcy : wr.cell? ⟨b', off' + k, none⟩ = some (.int .i64 (nth ys k)) := (hb.cell (by exact hbB')).trans (hc' k hlt)
        have hki : (k : Int) < (n : Int) := by omega
        have hk0 : (0 : Int) ≤ (k : Int) := by omega
        clear hc hc' hb
        by_cases he : nth xs k = nth ys k
        · have hne : (nth xs k != nth ys k) = false := by simp [he]
          have HE := Lib.hid he
          clear he
          go_wp2
          go_quiet (fail)
          go_wp2
          go_roundw
          case rel => exact ⟨k + 1, by omega, by go_num, agree_step hag HE.out, below_drewN HB.out _⟩
          case measure => simp [intOf]; omega
        · have hne : (nth xs k != nth ys k) = true := by simp [he]
          have HE := Lib.hid he
          clear he
          go_wp2
          go_quiet (fail)
          go_wp2
          go_ret
          refine ⟨ret_bool ?_, below_drewN HB.out _⟩
          have : xs ≠ ys := fun e => HE.out (by rw [e])
          simp [eqL, this]
      · have hkn : k = n := by omega
        subst hkn
        clear hb
        go_wp2
        go_ret
        refine ⟨ret_bool ?_, HB.out⟩
        have : xs = ys := list_ext_nth (by rw [HX.out.1, HY.out.1]) (fun j hj => hag j (by rw [HX.out.1] at hj; exact hj))
        simp [eqL, this]
  · have H := Lib.hid (show xs ≠ ys from fun e => hl (by rw [← hx.1, ← hy.1, e]))
    have ht : ((n : Int) != (n' : Int)) = true := by simp; omega
    clear hx hy
    go_enter Try.func25, Try.ntmps25
    go_wp2
    go_ret
    exact ⟨ret_bool (by simp [eqL, H.out]), Below.refl _ _⟩
theorem btoi_any (b : Bool) (w : World) : Calls Try.prog 23 #[.bool b] w fun e w' => e = .returned (.int .i64 (if b = true then 1 else 0)) ∧ w = w' := by
  cases b
  all_goals
    go_enter Try.func23, Try.ntmps23
    go_wp2
    go_ret
    exact ⟨rfl, rfl⟩
end Go.Proofs.Ytgaafmcmcalaoaa
