/-
  Texts that the law stands on, part 4.
-/
import Derived.Test.YtbpnbhemdbgmjaaGreatE2
import Derived.Test.YtbpnbhemdbgmjaaGreatE3
set_option linter.unusedVariables false
set_option linter.unusedSimpArgs false
namespace Go.Proofs.YtbpnbhemdbgmjaaGreat
namespace X
open Go.RowKit
noncomputable def uniB (zs : List Int) (n : Nat) (ls : List Int) (q : Nat) : Bool := decide (thrN zs n ls q = 1) && !strB zs n
theorem uni_f {zs ls : List Int} {n q : Nat} (h : ¬ thrN zs n ls q = 1) : uniB zs n ls q = false := by simp [uniB, h]
theorem uni_t {zs ls : List Int} {n q : Nat} (h : thrN zs n ls q = 1) : uniB zs n ls q = !strB zs n := by simp [uniB, h]
section
variable (A : Option Addr) (n c : Nat) (zs : List Int) (B : Option Addr) (q d : Nat) (ls : List Int) (w : World) (h : RecsAt w w.heap.size 4 A n zs) (hn : n ≤ 1048576) (hl : RecsAt w w.heap.size 3 B q ls) (hq : q ≤ 1048576)
include h hn hl hq
set_option maxRecDepth 100000 in
set_option maxHeartbeats 3200000 in
theorem sUniq_any : Calls Tryzx.prog 56 #[.agg #[.slice A n c], .slice B q d] w fun e w' => e = .returned (.bool (uniB zs n ls q)) ∧ Below w.heap.size w w' := by
 have b0 : Below w.heap.size w (w.alloc (.cells #[.slice A n c] 26)) := (Below.refl _ _).alloc (Nat.le_refl _) _
 have h1 := h.after b0
 have l1 := hl.after b0
 have bx0 : Box (w.alloc (.cells #[.slice A n c] 26)) w.heap.size (.slice A n c) := Box.new _ _ _
 have cx0 := bx0.1
 go_enter Tryzx.func56, Tryz.ntmps56
 go_wp2_with fail
 refine (sThr_any _ _ _ zs _ _ _ ls _ (by exact h1) hn (by exact l1) hq).mono ?_
 rintro e w1 ⟨v1, rfl, ho1, hb1⟩
 have HB1 := Lib.hid (below_then b0 hb1)
 have cx1 := (bx0.after hb1).1
 have r1 := h1.after hb1
 obtain ⟨A1, c1, rfl, _⟩ := ho1.slice
 generalize hm : thrN zs n ls q = m at *
 by_cases hu : m = 1
 ·subst hu
  have hb : uniB zs n ls q = !strB zs n := uni_t hm
  have HU := Lib.hid hb
  clear ho1 hb1 cx0 hb
  go_wp2_with fail
  refine (sIsStraight_any _ _ _ zs _ (by exact r1) hn).mono ?_
  rintro e w2 ⟨rfl, hb2⟩
  have HB2 := Lib.hid (below_then HB1.out hb2)
  clear hb2 r1
  go_wp2
  go_ret
  exact ⟨by rw [HU.out]; rfl, HB2.out⟩
 ·have hi : ((m : Int) == 1) = false := by simp; omega
  have hb : uniB zs n ls q = false := uni_f (by omega)
  have HU := Lib.hid hb
  clear ho1 hb1 cx0 hb r1
  go_wp2
  go_ret
  exact ⟨by rw [HU.out]; rfl, HB1.out⟩
set_option maxRecDepth 100000 in
set_option maxHeartbeats 3200000 in
theorem iUniq_any : Calls Tryzx.prog 25 #[.agg #[.slice A n c], .slice B q d] w fun e w' => e = .returned (.bool (uniB zs n ls q)) ∧ Below w.heap.size w w' := by
 have b0 : Below w.heap.size w (w.alloc (.cells #[.slice A n c] 26)) := (Below.refl _ _).alloc (Nat.le_refl _) _
 have h1 := h.after b0
 have l1 := hl.after b0
 have bx0 : Box (w.alloc (.cells #[.slice A n c] 26)) w.heap.size (.slice A n c) := Box.new _ _ _
 have cx0 := bx0.1
 go_enter Tryzx.func25, Tryz.ntmps25
 go_wp2_with fail
 refine (iThr_any _ _ _ zs _ _ _ ls _ (by exact h1) hn (by exact l1) hq).mono ?_
 rintro e w1 ⟨v1, rfl, ho1, hb1⟩
 have HB1 := Lib.hid (below_then b0 hb1)
 have cx1 := (bx0.after hb1).1
 have r1 := h1.after hb1
 obtain ⟨A1, c1, rfl, _⟩ := ho1.slice
 generalize hm : thrN zs n ls q = m at *
 by_cases hu : m = 1
 ·subst hu
  have hb : uniB zs n ls q = !strB zs n := uni_t hm
  have HU := Lib.hid hb
  clear ho1 hb1 cx0 hb
  go_wp2_with fail
  refine (iIsStraight_any _ _ _ zs _ (by exact r1) hn).mono ?_
  rintro e w2 ⟨rfl, hb2⟩
  have HB2 := Lib.hid (below_then HB1.out hb2)
  clear hb2 r1
  go_wp2
  go_ret
  exact ⟨by rw [HU.out]; rfl, HB2.out⟩
 ·have hi : ((m : Int) == 1) = false := by simp; omega
  have hb : uniB zs n ls q = false := uni_f (by omega)
  have HU := Lib.hid hb
  clear ho1 hb1 cx0 hb r1
  go_wp2
  go_ret
  exact ⟨by rw [HU.out]; rfl, HB1.out⟩
end
end X
end Go.Proofs.YtbpnbhemdbgmjaaGreat
