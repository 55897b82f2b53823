/-
  Contracts: LayingAt, in the reference and in the program.
-/
import Derived.Test.YtgaafmcmcalaoaaWCount
import Derived.Test.YtgaafmcmcalaoaaWInts
import Derived.Test.YtgaafmcmcalaoaaOwn
namespace Go.Proofs.Ytgaafmcmcalaoaa
open Go.RowKit

theorem own_below {B base : Nat} {E : TypeId} {a w w' : World} {v : Value} {xs : List Int} {o : Obj} (hb : Below B a w) (hB : B ≤ w.heap.size) (hown : OwnV w base E v xs) (h : B ≤ base) (hg : (w.alloc o).grownBy w' v.ownBlock) : Below B a w' :=
  (hb.alloc hB o).grown hg (by simp; omega) (fun k hk => Nat.le_trans h (hown.ownLt k hk))
/-- What LayingAt hands back. -/
def LayPost (w : World) (n x : Int) (e : Ending) (w' : World) : Prop :=
  ∃ A k c, e = .returned (.tuple #[.slice A k c, .bool (layOk n x)]) ∧ OwnV w' w.heap.size 3 (.slice A k c) (if layOk n x = true then layL n x else []) ∧ Below w.heap.size w w'
theorem layPost_f {w w' : World} {n x : Int} {A : Option Addr} {k c : Nat} (h : layOk n x = false) (ho : OwnV w' w.heap.size 3 (.slice A k c) []) (hb : Below w.heap.size w w') : LayPost w n x (.returned (.tuple #[.slice A k c, .bool false])) w' :=
  ⟨A, k, c, by rw [h], by rw [if_neg (by simp [h])]; exact ho, hb⟩
theorem layPost_t {w w' : World} {n x : Int} {A : Option Addr} {k c : Nat} (h : layOk n x = true) (ho : OwnV w' w.heap.size 3 (.slice A k c) (layL n x)) (hb : Below w.heap.size w w') : LayPost w n x (.returned (.tuple #[.slice A k c, .bool true])) w' :=
  ⟨A, k, c, by rw [h], by rw [if_pos h]; exact ho, hb⟩

set_option maxHeartbeats 1000000 in
theorem sLayingAt_any (n x : Int) (w : World) (hn0 : -9223372036854775808 ≤ n) (hn1 : n ≤ 9223372036854775807) :
    Calls Try.prog 56 #[.int .i64 n, .int .i64 x] w (LayPost w n x) := by
  have hlb := layings_bd n
  cases h2 : inB x 0 (layings n - 1)
  · have HF := Lib.hid (layOk_f2 h2)
    go_enter Try.func56, Try.ntmps56
    go_wp2_with (first
      | (go_at_call 66; refine (sCountLayings_any _ _ hn0 hn1).mono ?_; rintro e w' ⟨rfl, rfl⟩)
      | (go_at_call 33; refine (l01In_any _ _ _ _).mono ?_; rintro e w' ⟨rfl, rfl⟩))
    go_ret2
    exact layPost_f HF.out (OwnI.new w _) ((Below.refl _ _).alloc (Nat.le_refl _) _)
  cases h1 : inB n 1 8
  · rw [inB_no h1] at h2; cases h2
  have HOK := Lib.hid (layOk_t h1 h2)
  have hx := inB_iff.1 h2
  have hnn := inB_iff.1 h1
  obtain ⟨m, rfl⟩ := Int.eq_ofNat_of_zero_le (show 0 ≤ n by omega)
  obtain ⟨x, rfl⟩ := Int.eq_ofNat_of_zero_le hx.1
  have hm1 : 1 ≤ m := by omega
  have hm8 : m ≤ 8 := by omega
  have hx1 : x ≤ 128 := by omega
  have HLL := Lib.hid (layL_cast m x)
  go_enter Try.func56, Try.ntmps56
  go_wp2_with (first
    | (go_at_call 66; refine (sCountLayings_any _ _ hn0 hn1).mono ?_; rintro e w' ⟨rfl, rfl⟩)
    | (go_at_call 33; refine (l01In_any _ _ _ _).mono ?_; rintro e w' ⟨rfl, rfl⟩))
  clear hlb h1 h2 hx hnn hn0 hn1
  go_loopw [1, 6, 7, 8] (fun i v a b wr => ∃ k : Nat, k + 1 ≤ m ∧ i = .int .i64 (half x k) ∧ a = .int .i64 (lo x k) ∧ b = .int .i64 (hi m x k) ∧ OwnV wr w.heap.size 3 v (outL m x k) ∧ Below w.heap.size w wr) (fun _ _ a b _ => (intOf b - intOf a).toNat)
  case atStart => exact ⟨0, by omega, rfl, rfl, by simp [hi, lo], OwnI.new _ _, (Below.refl _ _).alloc (Nat.le_refl _) _⟩
  case round =>
    obtain ⟨k, hk, rfl, rfl, rfl, hown, hb⟩ := hrel
    have hhalf := half_le x k
    have hlo := lo_le x k
    have hhi := hi_bd (m := m) (x := x) (k := k) (by omega)
    have HH : Hid (half x (k + 1) = half x k / 2) := rfl
    have HB := Lib.hid hb
    have HO := Lib.hid hown
    have HLN := Lib.hid (outL_length m x k)
    clear hb hown
    by_cases hlt : k + 1 < m
    · have hlh := lo_lt_hi (m := m) (x := x) (k := k) hlt
      by_cases hev : half x k % 2 = 0
      · have ht : (((half x k : Nat) : Int) % 2 == 0) = true := by simp; omega
        have HE := Lib.hid (lo_even hev)
        have HI := Lib.hid (hi_even (m := m) hev)
        have HU := Lib.hid (outL_even (m := m) hev)
        clear hev
        go_wp2_with (at_builtin; refine wpList_append_int _ rfl (.tmp 25) (.tmp 27) 22 rfl w.heap.size 3 Try.underlying22 infoInt _ (outL m x k) rfl (HO.out.alloc _) _ _ (lo x k : Int) rfl (cell_new1 _ _ _) (by rw [HLN.out]; omega) (by have := HB.out.size; simp; omega) ?_; rw [HLN.out]; intro g' cap' w1 hown1 hgr1)
        have hb1 := own_below HB.out HB.out.size HO.out (Nat.le_refl _) hgr1
        go_wp2
        go_roundw
        case rel => exact ⟨k + 1, by omega, by rw [HH.out]; go_num, by rw [HE.out]; go_num, by rw [HI.out], by rw [HU.out]; have h := hown1; unfold OwnI at h; rw [List.length_append, HLN.out] at h; exact h, hb1⟩
        case measure => simp [intOf]; omega
      · have ho : half x k % 2 = 1 := by omega
        have ht : (((half x k : Nat) : Int) % 2 == 0) = false := by simp; omega
        have HE := Lib.hid (lo_odd ho)
        have HI := Lib.hid (hi_odd (m := m) ho)
        have HU := Lib.hid (outL_odd (m := m) ho)
        clear hev ho
        go_wp2_with (at_builtin; refine wpList_append_int _ rfl (.tmp 31) (.tmp 33) 22 rfl w.heap.size 3 Try.underlying22 infoInt _ (outL m x k) rfl (HO.out.alloc _) _ _ (hi m x k) rfl (cell_new1 _ _ _) (by rw [HLN.out]; omega) (by have := HB.out.size; simp; omega) ?_; rw [HLN.out]; intro g' cap' w1 hown1 hgr1)
        have hb1 := own_below HB.out HB.out.size HO.out (Nat.le_refl _) hgr1
        go_wp2
        go_roundw
        case rel => exact ⟨k + 1, by omega, by rw [HH.out]; go_num, by rw [HE.out], by rw [HI.out], by rw [HU.out]; have h := hown1; unfold OwnI at h; rw [List.length_append, HLN.out] at h; exact h, hb1⟩
        case measure => simp [intOf]; omega
    · have hkm : k + 1 = m := by omega
      have hlh := lo_ge_hi (m := m) (x := x) (k := k) hkm
      have HK : Hid (k = m - 1) := by show k = m - 1; omega
      clear hkm
      go_wp2_with (at_builtin; refine wpList_append_int _ rfl (.tmp 39) (.tmp 41) 22 rfl w.heap.size 3 Try.underlying22 infoInt _ (outL m x k) rfl (HO.out.alloc _) _ _ (lo x k : Int) rfl (cell_new1 _ _ _) (by rw [HLN.out]; omega) (by have := HB.out.size; simp; omega) ?_; rw [HLN.out]; intro g' cap' w1 hown1 hgr1)
      have hb1 := own_below HB.out HB.out.size HO.out (Nat.le_refl _) hgr1
      go_wp2
      go_ret2
      refine layPost_t HOK.out ?_ hb1
      rw [HLL.out, ← HK.out]
      have h := hown1
      unfold OwnI at h
      rw [List.length_append, HLN.out] at h
      exact h

set_option maxHeartbeats 1000000 in
theorem iLayingAt_any (n x : Int) (w : World) (hn0 : -9223372036854775808 ≤ n) (hn1 : n ≤ 9223372036854775807) :
    Calls Try.prog 22 #[.int .i64 n, .int .i64 x] w (LayPost w n x) := by
  have hlb := layings_bd n
  cases h1 : inB n 1 8
  · have HF := Lib.hid (layOk_f1 (x := x) h1)
    go_enter Try.func22, Try.ntmps22
    go_wp2_with (first
      | (go_at_call 20; refine (iCountLayings_any _ _ hn0 hn1).mono ?_; rintro e w' ⟨rfl, rfl⟩)
      | (go_at_call 34; refine (within_any _ _ _ _).mono ?_; rintro e w' ⟨rfl, rfl⟩))
    go_ret2
    exact layPost_f HF.out (OwnV.nil w _ _) (Below.refl _ _)
  cases h2 : inB x 0 (layings n - 1)
  · have HF := Lib.hid (layOk_f2 h2)
    go_enter Try.func22, Try.ntmps22
    go_wp2_with (first
      | (go_at_call 20; refine (iCountLayings_any _ _ hn0 hn1).mono ?_; rintro e w' ⟨rfl, rfl⟩)
      | (go_at_call 34; refine (within_any _ _ _ _).mono ?_; rintro e w' ⟨rfl, rfl⟩))
    go_ret2
    exact layPost_f HF.out (OwnV.nil w _ _) (Below.refl _ _)
  have HOK := Lib.hid (layOk_t h1 h2)
  have hx := inB_iff.1 h2
  have hnn := inB_iff.1 h1
  obtain ⟨m, rfl⟩ := Int.eq_ofNat_of_zero_le (show 0 ≤ n by omega)
  obtain ⟨x, rfl⟩ := Int.eq_ofNat_of_zero_le hx.1
  have hm1 : 1 ≤ m := by omega
  have hm8 : m ≤ 8 := by omega
  have hx1 : x ≤ 128 := by omega
  have HLL := Lib.hid (layL_cast m x)
  go_enter Try.func22, Try.ntmps22
  go_wp2_with (first
    | (go_at_call 20; refine (iCountLayings_any _ _ hn0 hn1).mono ?_; rintro e w' ⟨rfl, rfl⟩)
    | (go_at_call 34; refine (within_any _ _ _ _).mono ?_; rintro e w' ⟨rfl, rfl⟩))
  clear hlb h1 h2 hx hnn hn0 hn1
  go_loopw [1, 6, 7, 8, 24] (fun i v a b j wr => ∃ k : Nat, k + 1 ≤ m ∧ j = .int .i64 k ∧ i = .int .i64 (half x k) ∧ a = .int .i64 (lo x k) ∧ b = .int .i64 (hi m x k) ∧ OwnV wr w.heap.size 3 v (outL m x k) ∧ Below w.heap.size w wr) (fun _ _ _ _ j _ => m - (intOf j).toNat)
  case atStart => exact ⟨0, by omega, rfl, rfl, rfl, by simp [hi, lo], OwnV.nil _ _ _, Below.refl _ _⟩
  case round =>
    obtain ⟨k, hk, rfl, rfl, rfl, rfl, hown, hb⟩ := hrel
    have hhalf := half_le x k
    have hlo := lo_le x k
    have hhi := hi_bd (m := m) (x := x) (k := k) (by omega)
    have HH : Hid (half x (k + 1) = half x k / 2) := rfl
    have HB := Lib.hid hb
    have HO := Lib.hid hown
    have HLN := Lib.hid (outL_length m x k)
    have HAND := Lib.hid (and_one (half x k) (by omega))
    clear hb hown
    by_cases hlt : k + 1 < m
    · have hkm : (k : Int) < (m : Int) - 1 := by omega
      by_cases hev : half x k % 2 = 0
      · have ht : (bits BinOp.and IntKind.i64 ((half x k : Nat) : Int) 1 == 0) = true := by rw [HAND.out, hev]; rfl
        have HE := Lib.hid (lo_even hev)
        have HI := Lib.hid (hi_even (m := m) hev)
        have HU := Lib.hid (outL_even (m := m) hev)
        clear hev
        go_wp2_with (at_builtin; refine wpList_append_int _ rfl (.tmp 29) (.tmp 31) 22 rfl w.heap.size 3 Try.underlying22 infoInt _ (outL m x k) rfl (HO.out.alloc _) _ _ (lo x k : Int) rfl (cell_new1 _ _ _) (by rw [HLN.out]; omega) (by have := HB.out.size; simp; omega) ?_; rw [HLN.out]; intro g' cap' w1 hown1 hgr1)
        have hb1 := own_below HB.out HB.out.size HO.out (Nat.le_refl _) hgr1
        go_wp2
        go_roundw
        case rel => exact ⟨k + 1, by omega, by go_num, by rw [HH.out]; go_num, by rw [HE.out]; go_num, by rw [HI.out], by rw [HU.out]; have h := hown1; unfold OwnI at h; rw [List.length_append, HLN.out] at h; exact h, hb1⟩
        case measure => simp [intOf]; omega
      · have ho : half x k % 2 = 1 := by omega
        have ht : (bits BinOp.and IntKind.i64 ((half x k : Nat) : Int) 1 == 0) = false := by rw [HAND.out, ho]; rfl
        have HE := Lib.hid (lo_odd ho)
        have HI := Lib.hid (hi_odd (m := m) ho)
        have HU := Lib.hid (outL_odd (m := m) ho)
        clear hev ho
        go_wp2_with (at_builtin; refine wpList_append_int _ rfl (.tmp 35) (.tmp 37) 22 rfl w.heap.size 3 Try.underlying22 infoInt _ (outL m x k) rfl (HO.out.alloc _) _ _ (hi m x k) rfl (cell_new1 _ _ _) (by rw [HLN.out]; omega) (by have := HB.out.size; simp; omega) ?_; rw [HLN.out]; intro g' cap' w1 hown1 hgr1)
        have hb1 := own_below HB.out HB.out.size HO.out (Nat.le_refl _) hgr1
        go_wp2
        go_roundw
        case rel => exact ⟨k + 1, by omega, by go_num, by rw [HH.out]; go_num, by rw [HE.out], by rw [HI.out], by rw [HU.out]; have h := hown1; unfold OwnI at h; rw [List.length_append, HLN.out] at h; exact h, hb1⟩
        case measure => simp [intOf]; omega
    · have hkm : ¬ (k : Int) < (m : Int) - 1 := by omega
      have HK : Hid (k = m - 1) := by show k = m - 1; omega
      go_wp2_with (at_builtin; refine wpList_append_int _ rfl (.tmp 44) (.tmp 46) 22 rfl w.heap.size 3 Try.underlying22 infoInt _ (outL m x k) rfl (HO.out.alloc _) _ _ (lo x k : Int) rfl (cell_new1 _ _ _) (by rw [HLN.out]; omega) (by have := HB.out.size; simp; omega) ?_; rw [HLN.out]; intro g' cap' w1 hown1 hgr1)
      have hb1 := own_below HB.out HB.out.size HO.out (Nat.le_refl _) hgr1
      go_wp2
      go_ret2
      refine layPost_t HOK.out ?_ hb1
      rw [HLL.out, ← HK.out]
      have h := hown1
      unfold OwnI at h
      rw [List.length_append, HLN.out] at h
      exact h

end Go.Proofs.Ytgaafmcmcalaoaa
