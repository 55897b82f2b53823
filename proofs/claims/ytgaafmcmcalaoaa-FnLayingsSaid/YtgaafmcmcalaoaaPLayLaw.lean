/-
  Plain facts: what holds of every order of laying with an index, by trial of all 255. No Go function is spoken of here.
-/
import Derived.Test.YtgaafmcmcalaoaaWImb
import Derived.Test.YtgaafmcmcalaoaaWLay
import Derived.Test.YtgaafmcmcalaoaaWKeyI
namespace Go.Proofs.Ytgaafmcmcalaoaa
open Go.RowKit

/-- How many of the first k numbers are less than the last one. -/
def leftN (L : List Int) : Nat → Int
  | 0 => 0
  | k + 1 => leftN L k + if nth L k < keyL L then 1 else 0
/-- The index of an order. -/
def decoGo : List Int → Int → Nat
  | [], _ => 0
  | x :: xs, l => if x = l then 2 * decoGo xs (l + 1) else 1 + 2 * decoGo xs l
def chkLay (m x : Nat) : Bool :=
  layB ((m : Int) + 1) (layL ((m : Int) + 1) (x : Int)) (m + 1) && (decide (0 ≤ imbI ((m : Int) + 1) (layL ((m : Int) + 1) (x : Int)) (m + 1)) && (decide (imbI ((m : Int) + 1) (layL ((m : Int) + 1) (x : Int)) (m + 1) ≤ (m : Int)) && ((decide (m = 0) || decide (1 ≤ imbI ((m : Int) + 1) (layL ((m : Int) + 1) (x : Int)) (m + 1))) && (decide (keyL (layL ((m : Int) + 1) (x : Int)) = leftN (layL ((m : Int) + 1) (x : Int)) m) && (decide (decoGo (layL ((m : Int) + 1) (x : Int)) 0 = x) && decide ((layL ((m : Int) + 1) (x : Int)).length = m + 1))))))
theorem chkAll : (List.range 8).all (fun m => (List.range (2 ^ m)).all (chkLay m)) = true := by decide +kernel
structure LayFacts (m x : Nat) : Prop where
  lay : layB ((m : Int) + 1) (layL ((m : Int) + 1) (x : Int)) (m + 1) = true
  imb0 : 0 ≤ imbI ((m : Int) + 1) (layL ((m : Int) + 1) (x : Int)) (m + 1)
  imb1 : imbI ((m : Int) + 1) (layL ((m : Int) + 1) (x : Int)) (m + 1) ≤ (m : Int)
  imb2 : m = 0 ∨ 1 ≤ imbI ((m : Int) + 1) (layL ((m : Int) + 1) (x : Int)) (m + 1)
  key : keyL (layL ((m : Int) + 1) (x : Int)) = leftN (layL ((m : Int) + 1) (x : Int)) m
  deco : decoGo (layL ((m : Int) + 1) (x : Int)) 0 = x
  len : (layL ((m : Int) + 1) (x : Int)).length = m + 1
theorem lay_facts {m x : Nat} (hm : m < 8) (hx : x < 2 ^ m) : LayFacts m x := by
  have h := chkAll
  simp only [List.all_eq_true, List.mem_range] at h
  have h2 := h m hm x hx
  simp only [chkLay, Bool.and_eq_true, Bool.or_eq_true, decide_eq_true_eq] at h2
  obtain ⟨h3, h4, h5, h6, h7, h8, h9⟩ := h2
  exact ⟨h3, h4, h5, h6, h7, h8, h9⟩
theorem lay_inj {m x y : Nat} (hm : m < 8) (hx : x < 2 ^ m) (hy : y < 2 ^ m) (h : layL ((m : Int) + 1) (x : Int) = layL ((m : Int) + 1) (y : Int)) : x = y := by
  rw [← (lay_facts hm hx).deco, ← (lay_facts hm hy).deco, h]
theorem leftN_bd (L : List Int) : ∀ k : Nat, 0 ≤ leftN L k ∧ leftN L k ≤ (k : Int)
  | 0 => by simp [leftN]
  | k + 1 => by
    have ih := leftN_bd L k
    simp only [leftN]
    split <;> omega
end Go.Proofs.Ytgaafmcmcalaoaa
