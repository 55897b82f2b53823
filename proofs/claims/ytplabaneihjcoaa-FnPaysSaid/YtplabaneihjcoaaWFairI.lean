/-
  Contracts: fair marks in the program: the small functions.
-/
import Derived.Test.YtplabaneihjcoaaWFairS
import Derived.Test.YtplabaneihjcoaaOnly
import Derived.Lib.MinMax
namespace Go.Proofs.Ytplabaneihjcoaa
open Go.RowKit
set_option linter.unusedSimpArgs false

theorem fair1_any (x : Int) (w : World) : Calls Try.prog 39 #[.int .i64 x] w fun e w' => e = .returned (.bool (!inB x 0 10000)) ∧ w = w' := by
  go_enter Try.func39, Try.ntmps39
  go_wp2_with fail
  refine (within_any _ _ _ _).mono ?_
  rintro e w1 ⟨rfl, rfl⟩
  go_wp2
  go_ret
  exact ⟨rfl, rfl⟩
def wgtTo (ws : List Int) (k : Nat) : Prop := ∀ j, j < k → inB (nth ws j) 0 10000 = true
theorem wgtTo_step {ws : List Int} {k : Nat} (h : wgtTo ws k) (hp : inB (nth ws k) 0 10000 = true) : wgtTo ws (k + 1) := fun j hj => by
  by_cases hjk : j = k
  · subst hjk; exact hp
  · exact h j (by omega)
def wgtB (ws : List Int) (n : Nat) : Bool := !(List.range n).all fun k => inB (nth ws k) 0 10000
theorem wgtB_f {ws : List Int} {n : Nat} (h : wgtTo ws n) : wgtB ws n = false := by
  have : (List.range n).all (fun k => inB (nth ws k) 0 10000) = true := by
    rw [List.all_eq_true]
    exact fun i hi => h i (by simpa using hi)
  simp [wgtB, this]
theorem wgtB_t {ws : List Int} {n k : Nat} (hk : k < n) (h : inB (nth ws k) 0 10000 = false) : wgtB ws n = true := by
  have : (List.range n).all (fun k => inB (nth ws k) 0 10000) = false := by
    rw [List.all_eq_false]
    exact ⟨k, by simpa using hk, by simp [h]⟩
  simp [wgtB, this]
set_option maxHeartbeats 800000 in
theorem indexWgt_any (A : Option Addr) (n c : Nat) (zs : List Int) (w : World) (h : IntsAt w w.heap.size A n zs) (hn : n ≤ 1048576) :
    Calls Try.prog 70 #[.slice A n c, .func (.func 39) #[] #[]] w fun e w' => ∃ r : Int, e = .returned (.int .i64 r) ∧ (wgtTo zs n ∧ r = -1 ∨ ∃ k : Nat, k < n ∧ inB (nth zs k) 0 10000 = false ∧ r = k) ∧ w = w' := by
  have H := Lib.hid h
  clear h
  go_enter Try.func70, Try.ntmps70
  go_wp2
  go_loopw [8] (fun i wr => ∃ k : Nat, k ≤ n ∧ i = .int .i64 k ∧ wgtTo zs k ∧ w = wr) (fun i _ => n - (intOf i).toNat)
  case atStart => exact ⟨0, Nat.zero_le _, rfl, fun j hj => absurd hj (by omega), rfl⟩
  case round =>
    obtain ⟨k, hk, rfl, hag, rfl⟩ := hrel
    by_cases hlt : k < n
    · obtain ⟨b, off, rfl, hbB, hc⟩ := H.out.2 (by omega)
      have x0 := hc k hlt
      clear hc
      cases hp : inB (nth zs k) 0 10000
      · have HP := Lib.hid hp
        go_wp2_with fail
        refine (fair1_any _ _).mono ?_
        rw [hp]
        rintro e w1 ⟨rfl, rfl⟩
        clear hp
        go_wp2
        go_ret
        exact ⟨k, rfl, .inr ⟨k, hlt, HP.out, rfl⟩, rfl⟩
      · have HS := Lib.hid (wgtTo_step hag hp)
        go_wp2_with fail
        refine (fair1_any _ _).mono ?_
        rw [hp]
        rintro e w1 ⟨rfl, rfl⟩
        clear hp
        go_wp2
        go_roundw
        case rel => exact ⟨k + 1, by omega, by go_num, HS.out, by trivial⟩
        case measure => first | (simp [intOf]; done) | (simp [intOf]; omega)
    · obtain rfl : k = n := by omega
      have HS := Lib.hid hag
      clear hag
      go_wp2
      go_ret
      exact ⟨-1, rfl, .inl ⟨HS.out, rfl⟩, rfl⟩
theorem containsWgt_any (A : Option Addr) (n c : Nat) (zs : List Int) (w : World) (h : IntsAt w w.heap.size A n zs) (hn : n ≤ 1048576) :
    Calls Try.prog 40 #[.slice A n c, .func (.func 39) #[] #[]] w fun e w' => e = .returned (.bool (wgtB zs n)) ∧ w = w' := by
  go_enter Try.func40, Try.ntmps40
  go_wp2_with fail
  refine (indexWgt_any _ _ _ zs _ h hn).mono ?_
  rintro e w1 ⟨r, rfl, hr, rfl⟩
  rcases hr with ⟨hp, rfl⟩ | ⟨k, hk, hp, rfl⟩
  · have HF := Lib.hid (wgtB_f hp)
    clear hp
    go_wp2
    go_ret
    exact ⟨ret_bool HF.out.symm, rfl⟩
  · have HF := Lib.hid (wgtB_t hk hp)
    clear hp
    have i1 : (0 : Int) ≤ (k : Int) := by omega
    go_wp2
    go_ret
    exact ⟨ret_bool HF.out.symm, rfl⟩
/-- The greatest of the first k + 1 numbers. -/
def maxTo (zs : List Int) : Nat → Int
  | 0 => nth zs 0
  | k + 1 => max (maxTo zs k) (nth zs (k + 1))
set_option maxHeartbeats 800000 in
theorem maxInts_any (A : Option Addr) (n c : Nat) (zs : List Int) (w : World) (h : IntsAt w w.heap.size A n zs) (h1 : 1 ≤ n) (hn : n ≤ 1048576) :
    Calls Try.prog 71 #[.slice A n c] w fun e w' => e = .returned (.int .i64 (maxTo zs (n - 1))) ∧ w = w' := by
  obtain ⟨b, off, rfl, hbB, hc⟩ := h.2 (by omega)
  have x0 : w.cell? ⟨b, off, none⟩ = some (.int .i64 (maxTo zs 0)) := hc 0 (by omega)
  have HC := Lib.hid hc
  clear h hc
  go_enter Try.func71, Try.ntmps71
  go_wp2
  go_loopw [3, 4] (fun m i wr => ∃ k : Nat, k + 1 ≤ n ∧ i = .int .i64 ((k : Int) + 1) ∧ m = .int .i64 (maxTo zs k) ∧ w = wr) (fun _ i _ => n - (intOf i).toNat)
  case atStart => exact ⟨0, by omega, by go_num, rfl, rfl⟩
  case round =>
    obtain ⟨k, hk, rfl, rfl, rfl⟩ := hrel
    by_cases hlt : k + 1 < n
    · have x1 : w.cell? ⟨b, off + (k + 1), none⟩ = some (.int .i64 (nth zs (k + 1))) := HC.out (k + 1) hlt
      have HS := Lib.hid (show maxTo zs (k + 1) = max (maxTo zs k) (nth zs (k + 1)) from rfl)
      have i1 : (k : Int) + 1 < (n : Int) := by omega
      generalize maxTo zs k = y at *
      generalize nth zs (k + 1) = z at *
      go_wp2
      go_roundw
      case rel => exact ⟨k + 1, by omega, by go_num, by rw [HS.out], by trivial⟩
      case measure => first | (simp [intOf]; done) | (simp [intOf]; omega)
    · have hkn : n - 1 = k := by omega
      have HK := Lib.hid hkn
      have i1 : ¬ (k : Int) + 1 < (n : Int) := by omega
      clear hkn
      go_wp2
      go_ret
      exact ⟨ret_int (by rw [HK.out]), rfl⟩
end Go.Proofs.Ytplabaneihjcoaa
