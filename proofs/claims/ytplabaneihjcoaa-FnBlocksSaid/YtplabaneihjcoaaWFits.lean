/-
  FitsBlock: its contracts, and the law.
-/
import Derived.Test.YtplabaneihjcoaaWSmall
namespace Go.Proofs.Ytplabaneihjcoaa
open Go.RowKit

def fits2 (a b c d : Int) : Bool := decide ((c ≤ a ∧ d ≤ b) ∨ (d ≤ a ∧ c ≤ b))
theorem fits2_t {a b c d : Int} (h : (c ≤ a ∧ d ≤ b) ∨ (d ≤ a ∧ c ≤ b)) : fits2 a b c d = true := decide_eq_true h
theorem fits2_f {a b c d : Int} (h : ¬ ((c ≤ a ∧ d ≤ b) ∨ (d ≤ a ∧ c ≤ b))) : fits2 a b c d = false := decide_eq_false h
def fitsB (a b c d : Int) : Bool := inB a 1 200 && (inB b 1 200 && (inB c 1 200 && (inB d 1 200 && fits2 a b c d)))
theorem fits_1 {a b c d : Int} (h : inB a 1 200 = false) : fitsB a b c d = false := by simp [fitsB, h]
theorem fits_2 {a b c d : Int} (h : inB b 1 200 = false) : fitsB a b c d = false := by simp [fitsB, h]
theorem fits_3 {a b c d : Int} (h : inB c 1 200 = false) : fitsB a b c d = false := by simp [fitsB, h]
theorem fits_4 {a b c d : Int} (h : inB d 1 200 = false) : fitsB a b c d = false := by simp [fitsB, h]
theorem fits_5 {a b c d : Int} (h1 : inB a 1 200 = true) (h2 : inB b 1 200 = true) (h3 : inB c 1 200 = true) (h4 : inB d 1 200 = true) : fitsB a b c d = fits2 a b c d := by simp [fitsB, h1, h2, h3, h4]

def allIn (l : List Int) (k : Nat) : Prop := ∀ j, j < k → inB (nth l j) 1 200 = true
theorem allIn_step {l : List Int} {k : Nat} (h : allIn l k) (e : inB (nth l k) 1 200 = true) : allIn l (k + 1) := by
  intro j hj
  by_cases hjk : j = k
  · subst hjk; exact e
  · exact h j (by omega)
theorem cell_four (w : World) (a b c d : Int) (t : TypeId) : ∀ k, k < 4 → (w.alloc (.cells #[.int .i64 a, .int .i64 b, .int .i64 c, .int .i64 d] t)).cell? ⟨w.heap.size, k, none⟩ = some (.int .i64 (nth [a, b, c, d] k)) := by
  intro k hk
  have hr := World.rowIs_alloc w #[.int .i64 a, .int .i64 b, .int .i64 c, .int .i64 d] t (fun k => .int .i64 (nth [a, b, c, d] k)) (fun i hi => by
    match i, hi with
    | 0, _ => rfl
    | 1, _ => rfl
    | 2, _ => rfl
    | 3, _ => rfl)
  exact hr.cell hk
theorem allIn_no {a b c d : Int} {k : Nat} (hk : k < 4) (h : inB (nth [a, b, c, d] k) 1 200 = false) : fitsB a b c d = false := by
  match k, hk with
  | 0, _ => exact fits_1 h
  | 1, _ => exact fits_2 h
  | 2, _ => exact fits_3 h
  | 3, _ => exact fits_4 h
theorem allIn_yes {a b c d : Int} (h : allIn [a, b, c, d] 4) : fitsB a b c d = fits2 a b c d := fits_5 (h 0 (by omega)) (h 1 (by omega)) (h 2 (by omega)) (h 3 (by omega))

set_option maxHeartbeats 1600000 in
theorem iFitsBlock_any (a b c d : Int) (w : World) : Calls Try.prog 30 #[.int .i64 a, .int .i64 b, .int .i64 c, .int .i64 d] w fun e w' => e = .returned (.bool (fitsB a b c d)) ∧ Below w.heap.size w w' := by
  go_enter Try.func30, Try.ntmps30
  go_wp2
  go_loop [17, 10] (fun i _ => ∃ k : Nat, k ≤ 4 ∧ i = .int .i64 k ∧ allIn [a, b, c, d] k) (fun i _ => 4 - (intOf i).toNat)
  case atStart => exact ⟨0, Nat.zero_le _, rfl, fun j hj => absurd hj (by omega)⟩
  case round =>
    obtain ⟨k, hk, rfl, hag⟩ := hrel
    by_cases hlt : k < 4
    · have hcx := cell_four w a b c d 3 k hlt
      cases hB : inB (nth [a, b, c, d] k) 1 200
      · have H := Lib.hid (allIn_no hlt hB)
        generalize hg : nth [a, b, c, d] k = z at *
        clear hg
        go_wp2_with (go_at_call 36; refine (within_any _ _ _ _).mono ?_; rintro e w' ⟨rfl, rfl⟩)
        go_ret
        exact ⟨ret_bool H.out.symm, (Below.refl _ _).alloc (Nat.le_refl _) _⟩
      · have H := Lib.hid (allIn_step hag hB)
        generalize hg : nth [a, b, c, d] k = z at *
        clear hg
        go_wp2_with (go_at_call 36; refine (within_any _ _ _ _).mono ?_; rintro e w' ⟨rfl, rfl⟩)
        go_round
        case rel => exact ⟨k + 1, by omega, by go_num, H.out⟩
        case measure => simp [intOf]; omega
    · have hkn : k = 4 := by omega
      subst hkn
      have H := Lib.hid (allIn_yes hag)
      clear hag
      by_cases c1 : c ≤ a <;> by_cases c2 : d ≤ b <;> by_cases c3 : d ≤ a <;> by_cases c4 : c ≤ b
      all_goals try (exfalso; omega)
      all_goals
        go_wp2
        go_ret
        first | exact ⟨ret_bool (H.out.trans (fits2_t (by omega))).symm, (Below.refl _ _).alloc (Nat.le_refl _) _⟩ | exact ⟨ret_bool (H.out.trans (fits2_f (by omega))).symm, (Below.refl _ _).alloc (Nat.le_refl _) _⟩ | exact ⟨ret_bool (by rw [H.out, fits2_f (by omega)]; simp <;> omega), (Below.refl _ _).alloc (Nat.le_refl _) _⟩

end Go.Proofs.Ytplabaneihjcoaa
