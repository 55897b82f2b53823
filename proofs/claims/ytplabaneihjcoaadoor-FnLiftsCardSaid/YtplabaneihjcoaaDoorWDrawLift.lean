/-
  Contracts: the draw of a valid lift.
-/
import Derived.Test.YtplabaneihjcoaaDoorWDraw
import Derived.Test.YtplabaneihjcoaaDoorWLift
import Derived.Test.YtplabaneihjcoaaDoorRLift
namespace Go.Proofs.YtplabaneihjcoaaDoor
open Go.RowKit
set_option linter.unusedSimpArgs false
set_option linter.unusedVariables false

set_option maxRecDepth 100000 in
set_option maxHeartbeats 6400000 in
theorem l29Lift_any (g : Nat) (A : Option Addr) (n c : Nat) (zs : List Int) (w : World) (h : BytesAt w g A n zs) (hn : n ≤ 1048576) (hc : CurAt w g A n c) (hg : g < w.heap.size) :
    Calls Tryd.prog 32 #[.pointer (some ⟨g, 0, none⟩)] w fun e w' => ∃ p a x : Int, e = .returned (.agg #[.int .i64 p, .int .i64 a, .int .i64 x]) ∧ (1 ≤ p ∧ p ≤ 30) ∧ (x ≤ a ∧ a ≤ x + 29) ∧ (1 ≤ x ∧ x ≤ 6) ∧ Below g w w' := by
  have h0 : BytesAt (w.alloc (.cells #[.int .i64 0, .int .i64 0, .int .i64 0] 31)) g A n zs := h.below ((Below.refl _ _).alloc (by omega) _)
  have hc0 : CurAt (w.alloc (.cells #[.int .i64 0, .int .i64 0, .int .i64 0] 31)) g A n c := hc.after ((Below.refl _ _).alloc (Nat.le_refl _) _)
  have HB0 : Hid (Below g w (w.alloc (.cells #[.int .i64 0, .int .i64 0, .int .i64 0] 31))) := Lib.hid ((Below.refl _ _).alloc (by omega) _)
  have HV0 : Hid (RowF (w.alloc (.cells #[.int .i64 0, .int .i64 0, .int .i64 0] 31)) w.heap.size 31 3 (fun _ => .int .i64 0)) := Lib.hid (RowF.of_row (World.rowIs_alloc w #[.int .i64 0, .int .i64 0, .int .i64 0] 31 (fun _ => .int .i64 0) (fun j hj => by simp at hj; match j, hj with | 0, _ => rfl | 1, _ => rfl | 2, _ => rfl)))
  have HG := Lib.hid hg
  clear h hc
  go_enter Tryd.func32, Tryd.ntmps32
  go_wp2_with fail
  refine (l01Below_any g A n c zs 6 _ h0 hn hc0 (by omega) (by omega)).mono ?_
  rintro e w1 ⟨x, rfl, x0, x1, hc1, ho1⟩
  have h1 := h0.only ho1 (Nat.le_refl _)
  have HB1 := Lib.hid (HB0.out.trans (ho1.below (Nat.le_refl _)))
  have HV1 := Lib.hid (HV0.out.only ho1 (by have := HG.out; omega))
  clear h0 hc0 ho1 HB0 HV0
  go_wp2_with fail
  refine (l01Below_any g A n c zs 30 _ h1 hn hc1 (by omega) (by omega)).mono ?_
  rintro e w2 ⟨p, rfl, p0, p1, hc2, ho2⟩
  have h2 := h1.only ho2 (Nat.le_refl _)
  have HB2 := Lib.hid (HB1.out.trans (ho2.below (Nat.le_refl _)))
  have HV2 := Lib.hid (HV1.out.only ho2 (by have := HG.out; omega))
  clear h1 hc1 ho2 HB1 HV1
  go_wp2_with fail
  refine (l01Below_any g A n c zs 30 _ h2 hn hc2 (by omega) (by omega)).mono ?_
  rintro e w3 ⟨a, rfl, a0, a1, hc3, ho3⟩
  have HB3 := Lib.hid (HB2.out.trans (ho3.below (Nat.le_refl _)))
  have HV3 := Lib.hid (HV2.out.only ho3 (by have := HG.out; omega))
  clear h2 hc2 hc3 ho3 HB2 HV2
  have d0 := HV3.out.cell (i := 0) (by omega)
  have d1 := HV3.out.cell (i := 1) (by omega)
  have d2 := HV3.out.cell (i := 2) (by omega)
  have f0 := HV3.out.frozen 0
  have f1 := HV3.out.frozen 1
  have f2 := HV3.out.frozen 2
  have hs := RowF.lt HV3.out
  go_wp2
  refine bodyPost_ret (v := .agg #[.int .i64 (1 + p), .int .i64 (1 + x + a), .int .i64 (1 + x)]) (by simp [results, Tryd.results32, go_sem, *]) rfl ?_
  exact ⟨1 + p, 1 + x + a, 1 + x, rfl, by omega, by omega, by omega, ((HB3.out.setCell (by have := HG.out; simp; omega) _).setCell (by have := HG.out; simp; omega) _).setCell (by have := HG.out; simp; omega) _⟩

set_option maxRecDepth 100000 in
set_option maxHeartbeats 3200000 in
theorem drawLift_any (A : Option Addr) (n c : Nat) (zs : List Int) (w : World) (h : BytesAt w w.heap.size A n zs) (hn : n ≤ 1048576) :
    Calls Tryd.prog 15 #[.slice A n c] w fun e w' => ∃ p a x : Int, e = .returned (.agg #[.int .i64 p, .int .i64 a, .int .i64 x]) ∧ (1 ≤ p ∧ p ≤ 30) ∧ (x ≤ a ∧ a ≤ x + 29) ∧ (1 ≤ x ∧ x ≤ 6) ∧ Below w.heap.size w w' := by
  have h0 : BytesAt (w.alloc (.cells #[.int .i64 0, .int .i64 0, .int .i64 0] 31)) (w.alloc (.cells #[.int .i64 0, .int .i64 0, .int .i64 0] 31)).heap.size A n zs := h.after ((Below.refl _ _).alloc (Nat.le_refl _) _)
  have HB0 : Hid (Below w.heap.size w (w.alloc (.cells #[.int .i64 0, .int .i64 0, .int .i64 0] 31))) := Lib.hid ((Below.refl _ _).alloc (Nat.le_refl _) _)
  have HV0 : Hid (RowF (w.alloc (.cells #[.int .i64 0, .int .i64 0, .int .i64 0] 31)) w.heap.size 31 3 (fun _ => .int .i64 0)) := Lib.hid (RowF.of_row (World.rowIs_alloc w #[.int .i64 0, .int .i64 0, .int .i64 0] 31 (fun _ => .int .i64 0) (fun j hj => by simp at hj; match j, hj with | 0, _ => rfl | 1, _ => rfl | 2, _ => rfl)))
  go_enter Tryd.func15, Tryd.ntmps15
  go_wp2_with fail
  refine (l01New_any _ _ _ zs _ h0 hn).mono ?_
  rintro e w1 ⟨g, rfl, hg, hc, hb1⟩
  have hgl : g < w1.heap.size := by
    obtain ⟨i, x, _, hcc⟩ := hc
    exact RowF.lt hcc
  have h1 : BytesAt w1 g A n zs := (h0.below hb1).mono hg
  have hgw : w.heap.size < g := by simp at hg; omega
  have HB1 := Lib.hid (HB0.out.trans (hb1.mono (by simp)))
  have HV1 := Lib.hid (HV0.out.after hb1)
  clear hb1 h h0
  go_wp2_with fail
  refine (l29Lift_any g _ _ _ zs _ h1 hn hc hgl).mono ?_
  rintro e w2 ⟨p, a, x, rfl, hp, ha, hx, hb2⟩
  have HV2 := Lib.hid (RowF.of_block HV1.out (hb2.block w.heap.size hgw))
  have HB2 := Lib.hid (HB1.out.trans (hb2.mono (by omega)))
  clear hb2 h1 hc
  have d0 := HV2.out.cell (i := 0) (by omega)
  have d1 := HV2.out.cell (i := 1) (by omega)
  have d2 := HV2.out.cell (i := 2) (by omega)
  have f0 := HV2.out.frozen 0
  have f1 := HV2.out.frozen 1
  have f2 := HV2.out.frozen 2
  have hs := RowF.lt HV2.out
  go_wp2
  refine bodyPost_ret (v := .agg #[.int .i64 p, .int .i64 a, .int .i64 x]) (by simp [results, Tryd.results15, go_sem, *]) rfl ?_
  exact ⟨p, a, x, rfl, hp, ha, hx, ((HB2.out.setCell (by simp) _).setCell (by simp) _).setCell (by simp) _⟩
end Go.Proofs.YtplabaneihjcoaaDoor
