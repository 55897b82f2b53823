/-
  Contracts: the fewest blocks: the reference and the program hand back the same number.
-/
import Derived.Test.YtplabaneihjcoaaWFewI
namespace Go.Proofs.Ytplabaneihjcoaa
open Go.RowKit

theorem fewI_bd (zs : List Int) (len : Int) : -1 ≤ fewI zs len ∧ fewI zs len ≤ 11 := by
  unfold fewI
  split
  · rename_i h
    obtain ⟨b1, b2, b3⟩ := okB_out h
    have := fine_tab (f := stpI len) (b0 := (0, 0)) (zs := zs) (n := zs.length) (len := len) (by omega) ⟨by simp, by simp; omega, by simp, by simp; omega⟩ (fun c k hk h => fine_I h (b3 k hk).1 (b3 k hk).2) (p2 zs.length - 1) (p2 zs.length - 1)
    obtain ⟨a1, a2, a3, a4⟩ := this
    omega
  · omega
end Go.Proofs.Ytplabaneihjcoaa
