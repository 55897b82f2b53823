/-
  Plain facts: the greatest common divisor as the program and as the reference reckon it; when a thrust is valid. No Go function is spoken of here.
-/
import Derived.Test.YtdjhiegolojoaaaPAll
import Derived.IntWalk
namespace Go.Proofs.Ytdjhiegolojoaaa
open Go.RowKit

/-- The divisor of the first k numbers. -/
def gcdTo (L : List Int) : Nat → Nat
  | 0 => 0
  | k + 1 => Nat.gcd (gcdTo L k) (nth L k).natAbs
def gcd4 (a b c d : Int) : Nat := Nat.gcd (Nat.gcd a.natAbs b.natAbs) (Nat.gcd c.natAbs d.natAbs)
theorem gcdTo_4 (a b c d : Int) : gcdTo [a, b, c, d] 4 = gcd4 a b c d := by
  simp [gcdTo, nth, gcd4, Nat.gcd_assoc]
theorem gcdTo_2 (a b : Int) : gcdTo [a, b] 2 = Nat.gcd a.natAbs b.natAbs := by simp [gcdTo, nth]
theorem gcdTo_le {L : List Int} {M : Nat} (h : ∀ k, (nth L k).natAbs ≤ M) : ∀ k, gcdTo L k ≤ M
  | 0 => by simp [gcdTo]
  | k + 1 => by
    by_cases e : (nth L k).natAbs = 0
    · simp only [gcdTo, e, Nat.gcd_zero_right]
      exact gcdTo_le h k
    · simp only [gcdTo]
      exact Nat.le_trans (Nat.le_of_dvd (by omega) (Nat.gcd_dvd_right _ _)) (h k)
/-- A round of Euclid's. -/
theorem gcd_round {d m : Nat} : Nat.gcd m (d % m) = Nat.gcd d m := by
  rw [Nat.gcd_comm d m, Nat.gcd_rec m d, Nat.gcd_comm]
theorem natAbs_tmod (a b : Int) : (Int.tmod a b).natAbs = a.natAbs % b.natAbs := Int.natAbs_tmod a b
theorem gcd_round_i {a b : Int} : Nat.gcd b.natAbs (Int.tmod a b).natAbs = Nat.gcd a.natAbs b.natAbs := by
  rw [natAbs_tmod]
  exact gcd_round
theorem gcd4_pos {a b c d : Int} (h : d ≠ 0) : 0 < gcd4 a b c d := by
  unfold gcd4
  refine Nat.pos_of_ne_zero fun e => ?_
  have h1 := (Nat.gcd_eq_zero_iff.1 e).2
  have h2 := (Nat.gcd_eq_zero_iff.1 h1).2
  omega
/-- Within what MakeThrust takes. -/
def okG (a : Int) : Prop := -4000000000000000000 ≤ a ∧ a ≤ 4000000000000000000
theorem okG_tmod {a b : Int} (hb : b ≠ 0) (h : okG b) : okG (Int.tmod a b) := by
  have h1 := natAbs_tmod a b
  have h2 := Nat.mod_lt a.natAbs (y := b.natAbs) (by omega)
  unfold okG at *
  omega
theorem okG_neg {a : Int} (h : okG a) : IntKind.i64.wrap (-a) = -a := by
  unfold okG at h
  exact IntWalk.i64_in _ (by omega)
/-- Within what both kinds of integers hold. -/
def okU (n : Nat) : Prop := n ≤ 4000000000000000000
theorem okU_nat {a : Int} (h : okG a) : okU a.natAbs := by unfold okG at h; unfold okU; omega
theorem okU_mod {d m : Nat} (h0 : m ≠ 0) (h : okU m) : okU (d % m) := by
  have := Nat.mod_lt d (y := m) (by omega)
  unfold okU at *
  omega
theorem okU_gcdTo {L : List Int} (h : ∀ k, okG (nth L k)) (k : Nat) : okU (gcdTo L k) := gcdTo_le (fun j => okU_nat (h j)) k
theorem u64_neg {a : Int} (h : okG a) (hn : a < 0) : IntKind.u64.wrap (-IntKind.u64.wrap a) = (a.natAbs : Int) := by
  unfold okG at h
  simp only [IntKind.wrap, IntKind.signed, IntKind.bits]
  simp
  omega
theorem u64_pos {a : Int} (h : okG a) (hn : 0 ≤ a) : IntKind.u64.wrap a = (a.natAbs : Int) := by
  unfold okG at h
  simp only [IntKind.wrap, IntKind.signed, IntKind.bits]
  simp
  omega
theorem u64_to_i64 {n : Nat} (h : okU n) : IntKind.i64.wrap (n : Int) = (n : Int) := by
  unfold okU at h
  exact IntWalk.i64_in _ (by omega)
theorem max_abs (a : Int) : max a (-a) = (a.natAbs : Int) := by omega
theorem tmod_lt {a b : Int} (hb : b ≠ 0) : (Int.tmod a b).natAbs < b.natAbs := by
  rw [natAbs_tmod]
  exact Nat.mod_lt _ (by omega)
def thrB (H V M D : Int) : Bool := inB D 1 1000000 && (inB H 0 1000000000000 && (inB V (-10000000000000) 10000000000000 && (inB M (-10000000000000) 10000000000000 && decide (gcd4 H V M D = 1))))
theorem thrB_1 (H V M : Int) {D : Int} (h : inB D 1 1000000 = false) : thrB H V M D = false := by simp [thrB, h]
theorem thrB_2 {H : Int} (V M D : Int) (h : inB H 0 1000000000000 = false) : thrB H V M D = false := by simp [thrB, h]
theorem thrB_3 (H : Int) {V : Int} (M D : Int) (h : inB V (-10000000000000) 10000000000000 = false) : thrB H V M D = false := by simp [thrB, h]
theorem thrB_4 (H V : Int) {M : Int} (D : Int) (h : inB M (-10000000000000) 10000000000000 = false) : thrB H V M D = false := by simp [thrB, h]
theorem thrB_t {H V M D : Int} (h1 : inB D 1 1000000 = true) (h2 : inB H 0 1000000000000 = true) (h3 : inB V (-10000000000000) 10000000000000 = true) (h4 : inB M (-10000000000000) 10000000000000 = true) : thrB H V M D = decide (gcd4 H V M D = 1) := by
  simp [thrB, h1, h2, h3, h4]
theorem thrB_out {H V M D : Int} (h : thrB H V M D = true) : (1 ≤ D ∧ D ≤ 1000000) ∧ (0 ≤ H ∧ H ≤ 1000000000000) ∧ (-10000000000000 ≤ V ∧ V ≤ 10000000000000) ∧ (-10000000000000 ≤ M ∧ M ≤ 10000000000000) ∧ gcd4 H V M D = 1 := by
  simp only [thrB, Bool.and_eq_true, inB_iff, decide_eq_true_eq] at h
  exact ⟨h.1, h.2.1, h.2.2.1, h.2.2.2.1, h.2.2.2.2⟩
end Go.Proofs.Ytdjhiegolojoaaa
