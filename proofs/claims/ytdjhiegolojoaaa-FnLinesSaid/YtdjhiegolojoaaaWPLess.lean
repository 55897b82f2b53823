/-
  Contracts: which of two quotients is less, in the reference (Euclid's way) and in the program (products of 128 bits).
-/
import Derived.Test.YtdjhiegolojoaaaPGcd
import Derived.Test.YtdjhiegolojoaaaWSmall
import Derived.Test.YtdjhiegolojoaaaLawKit
import Derived.Shelf.Bits.Mul64
import Derived.Deep.QuietTactic
import Derived.BigQuiet
import Derived.IntWalk
namespace Go.Proofs.Ytdjhiegolojoaaa
open Go.RowKit Go.Lib Go.Proofs
set_option linter.unusedSimpArgs false

set_option maxHeartbeats 1000000 in
theorem mul64_any (x y : Nat) (hx : x < 18446744073709551616) (hy : y < 18446744073709551616) (w : World) :
    Calls Try.prog 74 #[.int .u64 x, .int .u64 y] w fun e w' => e = .returned (.tuple #[.int .u64 ((x * y / 18446744073709551616 : Nat) : Int), .int .u64 ((x * y % 18446744073709551616 : Nat) : Int)]) ∧ w' = w := by
  obtain ⟨bd, bt, bw, hhi⟩ := Lib.mul64_hi x y hx hy
  have ba := Lib.half_mul_le (a := x / 4294967296) (b := y / 4294967296) (by omega) (by omega)
  have bb := Lib.half_mul_le (a := x / 4294967296) (b := y % 4294967296) (by omega) (by omega)
  have bc := Lib.half_mul_le (a := x % 4294967296) (b := y / 4294967296) (by omega) (by omega)
  have ba' : x / 4294967296 * (y / 4294967296) < 18446744073709551616 := by omega
  have bb' : x / 4294967296 * (y % 4294967296) < 18446744073709551616 := by omega
  have bc' : x % 4294967296 * (y / 4294967296) < 18446744073709551616 := by omega
  have bh1 : x / 4294967296 * (y / 4294967296) + (x / 4294967296 * (y % 4294967296) + x % 4294967296 * (y % 4294967296) / 4294967296) / 4294967296 < 18446744073709551616 := by omega
  have bh : x / 4294967296 * (y / 4294967296) + (x / 4294967296 * (y % 4294967296) + x % 4294967296 * (y % 4294967296) / 4294967296) / 4294967296 + ((x / 4294967296 * (y % 4294967296) + x % 4294967296 * (y % 4294967296) / 4294967296) % 4294967296 + x % 4294967296 * (y / 4294967296)) / 4294967296 < 18446744073709551616 := by omega
  go_enter Try.func74, Try.ntmps74
  go_wp2
  simp only [Mul64.maskN x hx, Mul64.maskN y hy, Mul64.divN, Mul64.mulN, Mul64.addN, Mul64.wrapN _ bd, Mul64.wrapN _ bb', Mul64.wrapN _ bt, Mul64.maskN _ bt, Mul64.wrapN _ bc', Mul64.wrapN _ bw, Mul64.wrapN _ ba', Mul64.wrapN _ bh1, Mul64.wrapN _ bh, Mul64.wrapM (x * y)]
  rw [hhi]
  go_ret2
  exact ⟨rfl, rfl⟩

/-- Is a / b less than c / d? -/
def plLess (a b c d : Nat) : Bool := decide (a * d < c * b)
theorem okU_wrap {n : Nat} (h : okU n) : IntKind.u64.wrap (n : Int) = (n : Int) := by
  unfold okU at h
  exact IntWalk.u64_in _ (by omega)
theorem okU_lt {n : Nat} (h : okU n) : n < 18446744073709551616 := by unfold okU at h; omega
/-- A product in two words. -/
theorem words (X : Nat) : ∃ h l, X / 18446744073709551616 = h ∧ X % 18446744073709551616 = l ∧ Hid (X = h * 18446744073709551616 + l ∧ l < 18446744073709551616) := by
  refine ⟨_, _, rfl, rfl, ?_, ?_⟩ <;> omega
theorem words_1 {X Y h l h' l' : Nat} (hx : Hid (X = h * 18446744073709551616 + l ∧ l < 18446744073709551616)) (hy : Hid (Y = h' * 18446744073709551616 + l' ∧ l' < 18446744073709551616)) (e : h < h') : decide (X < Y) = true := by
  have := hx.out; have := hy.out
  exact decide_eq_true (by omega)
theorem words_2 {X Y h l h' l' : Nat} (hx : Hid (X = h * 18446744073709551616 + l ∧ l < 18446744073709551616)) (hy : Hid (Y = h' * 18446744073709551616 + l' ∧ l' < 18446744073709551616)) (e : h' < h) : decide (X < Y) = false := by
  have := hx.out; have := hy.out
  exact decide_eq_false (by omega)
theorem words_3 {X Y h l h' l' : Nat} (hx : Hid (X = h * 18446744073709551616 + l ∧ l < 18446744073709551616)) (hy : Hid (Y = h' * 18446744073709551616 + l' ∧ l' < 18446744073709551616)) (e : h = h') : decide (X < Y) = decide (l < l') := by
  have := hx.out; have := hy.out
  rw [decide_eq_decide]
  omega
set_option maxRecDepth 100000 in
set_option maxHeartbeats 1600000 in
theorem placeLess_any (a b c d : Nat) (w : World) (ha : okU a) (hb : okU b) (hc : okU c) (hd : okU d) :
    Calls Try.prog 47 #[.agg #[.int .i64 a, .int .i64 b], .agg #[.int .i64 c, .int .i64 d]] w fun e w' => e = .returned (.bool (plLess a b c d)) ∧ Below w.heap.size w w' := by
  have wa := okU_wrap ha
  have wb := okU_wrap hb
  have wc := okU_wrap hc
  have wd := okU_wrap hd
  have LA := Lib.hid (okU_lt ha)
  have LB := Lib.hid (okU_lt hb)
  have LC := Lib.hid (okU_lt hc)
  have LD := Lib.hid (okU_lt hd)
  obtain ⟨h1, l1, e1, e2, HX⟩ := words (a * d)
  obtain ⟨h2, l2, e3, e4, HY⟩ := words (c * b)
  have E1 := Lib.hid e1
  have E2 := Lib.hid e2
  have E3 := Lib.hid e3
  have E4 := Lib.hid e4
  clear e1 e2 e3 e4 ha hb hc hd
  have HB := Lib.hid (((Below.refl w.heap.size w).alloc (Nat.le_refl _) (.cells #[.int .i64 a, .int .i64 b] 89)).alloc (by simp) (.cells #[.int .i64 c, .int .i64 d] 89))
  go_enter Try.func47, Try.ntmps47
  go_wp2_with fail
  refine (mul64_any _ _ LA.out LD.out _).mono ?_
  rw [E1.out, E2.out]
  rintro e w1 ⟨rfl, rfl⟩
  go_wp2_with fail
  refine (mul64_any _ _ LC.out LB.out _).mono ?_
  rw [E3.out, E4.out]
  rintro e w1 ⟨rfl, rfl⟩
  by_cases g1 : h1 < h2
  · have HF := Lib.hid (words_1 HX HY g1)
    have g1' : (h1 : Int) < (h2 : Int) := by omega
    clear g1
    go_wp2
    go_ret
    exact ⟨ret_bool HF.out.symm, HB.out⟩
  · by_cases g2 : h1 = h2
    · have HF := Lib.hid (words_3 HX HY g2)
      subst g2
      go_wp2
      go_ret
      exact ⟨ret_bool (by unfold plLess; rw [HF.out]), HB.out⟩
    · have HF := Lib.hid (words_2 HX HY (show h2 < h1 by omega))
      have HG : Hid (decide (h1 < h2) = false) := decide_eq_false g1
      have g2' : ((h1 : Int) == (h2 : Int)) = false := by simp; omega
      have g3 : h2 ≤ h1 := by omega
      clear g1 g2
      go_wp2
      go_ret
      first
      | exact ⟨ret_bool HF.out.symm, HB.out⟩
      | exact ⟨ret_bool (by rw [HG.out]; exact HF.out.symm), HB.out⟩

theorem pl_quo1 {a b c d : Nat} (hb : 0 < b) (hd : 0 < d) (h : a / b < c / d) : plLess a b c d = true := by
  refine decide_eq_true ?_
  have h1 := Nat.div_add_mod a b
  have h2 := Nat.mod_lt a hb
  have h3 := Nat.div_mul_le_self c d
  have h4 : a < b * (a / b + 1) := by rw [Nat.mul_add]; omega
  have h5 : a * d < b * (a / b + 1) * d := Nat.mul_lt_mul_of_pos_right h4 hd
  have h6 : b * (a / b + 1) * d ≤ b * (c / d) * d := Nat.mul_le_mul_right _ (Nat.mul_le_mul_left _ h)
  have h7 : b * (c / d) * d = b * (c / d * d) := Nat.mul_assoc _ _ _
  have h8 : b * (c / d * d) ≤ b * c := Nat.mul_le_mul_left _ h3
  rw [Nat.mul_comm c b]
  omega
theorem pl_quo2 {a b c d : Nat} (hb : 0 < b) (hd : 0 < d) (h : c / d < a / b) : plLess a b c d = false := by
  have := pl_quo1 (a := c) (b := d) (c := a) (d := b) hd hb h
  unfold plLess at *
  have h1 := of_decide_eq_true this
  exact decide_eq_false (by omega)
theorem pl_rem {a b c d : Nat} (h : a / b = c / d) : plLess a b c d = plLess (a % b) b (c % d) d := by
  unfold plLess
  rw [decide_eq_decide]
  have h1 := Nat.div_add_mod a b
  have h2 := Nat.div_add_mod c d
  generalize a % b = r at *
  generalize c % d = s at *
  rw [← h1, ← h2, h, Nat.add_mul, Nat.add_mul]
  have : b * (c / d) * d = d * (c / d) * b := by rw [Nat.mul_comm b, Nat.mul_assoc, Nat.mul_comm b d, ← Nat.mul_assoc, Nat.mul_comm (c / d) d]
  omega
theorem pl_swap (a b c d : Nat) : plLess d c b a = plLess a b c d := by
  unfold plLess
  rw [Nat.mul_comm d a, Nat.mul_comm b c]
end Go.Proofs.Ytdjhiegolojoaaa
