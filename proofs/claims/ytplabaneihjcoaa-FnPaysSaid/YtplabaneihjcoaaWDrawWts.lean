/-
  Contracts: the draw of weights.
-/
import Derived.Test.YtplabaneihjcoaaWDraw
import Derived.Test.YtplabaneihjcoaaApp
import Derived.IntWalk
namespace Go.Proofs.Ytplabaneihjcoaa
open Go.RowKit
set_option linter.unusedSimpArgs false
set_option linter.unusedVariables false

/-- The first k numbers of L lie from 0 to 59. -/
def wtTo (L : List Int) (k : Nat) : Prop := ∀ i, i < k → 0 ≤ nth L i ∧ nth L i ≤ 59
theorem wtTo_snoc {L : List Int} {z : Int} {k : Nat} (h : wtTo L k) (hl : L.length = k) (hz : 0 ≤ z ∧ z ≤ 59) : wtTo (L ++ [z]) (k + 1) := fun i hi => by
  by_cases e : i = k
  · subst e
    have : nth (L ++ [z]) i = z := by rw [nth_get _ _ (by simp [hl])]; simp [hl]
    rw [this]; exact hz
  · have h1 : i < L.length := by omega
    have : nth (L ++ [z]) i = nth L i := by rw [nth_get _ _ (by simp; omega), nth_get _ _ h1, List.getElem_append_left h1]
    rw [this]; exact h i (by omega)
/-- The weights that a draw gives. -/
def DwtPost (B : Nat) (w : World) (e : Ending) (w' : World) : Prop :=
  ∃ (S m c : Nat) (L : List Int), e = .returned (.slice (some ⟨S, 0, none⟩) m c) ∧ m ≤ 6 ∧ L.length = m ∧ wtTo L m ∧ IntsAt w' w'.heap.size (some ⟨S, 0, none⟩) m L ∧ m ≤ c ∧ Below B w w'

set_option maxRecDepth 100000 in
set_option maxHeartbeats 3200000 in
theorem l28Weights_any (g : Nat) (A : Option Addr) (n c : Nat) (zs : List Int) (w : World) (h : BytesAt w g A n zs) (hn : n ≤ 1048576) (hc : CurAt w g A n c) (hg : g < w.heap.size) :
    Calls Try.prog 38 #[.pointer (some ⟨g, 0, none⟩)] w (DwtPost g w) := by
  have HG := Lib.hid hg
  have h1a : BytesAt (w.alloc (.cells #[] 3)) g A n zs := h.below ((Below.refl _ _).alloc (by omega) _)
  have hc1a : CurAt (w.alloc (.cells #[] 3)) g A n c := hc.after ((Below.refl _ _).alloc (Nat.le_refl _) _)
  have HB1a : Hid (Below g w (w.alloc (.cells #[] 3))) := Lib.hid ((Below.refl _ _).alloc (by omega) _)
  have HO1 : Hid (OwnV (w.alloc (.cells #[] 3)) (g + 1) 3 (.slice (some ⟨w.heap.size, 0, none⟩) 0 0) []) := Lib.hid ((OwnI.new w 3).mono (by omega)).toV
  clear h hc
  go_enter Try.func38, Try.ntmps38
  go_wp2_with fail
  refine (l01Below_any g A n c zs 7 _ h1a hn hc1a (by omega) (by omega)).mono ?_
  rintro e w2 ⟨r, rfl, r0, r1, hc2, ho2⟩
  have h2 := h1a.only ho2 (Nat.le_refl _)
  have HB2 := Lib.hid (HB1a.out.trans (ho2.below (Nat.le_refl _)))
  have HO2 : Hid (OwnV w2 (g + 1) 3 (.slice (some ⟨w.heap.size, 0, none⟩) 0 0) []) := Lib.hid (ho2.own HO1.out (by simp [Value.ownBlock]; have := HG.out; omega))
  have HZ2 : Hid (g < w2.heap.size) := Lib.hid (by have := ho2.size; simp at this; have := HG.out; omega)
  obtain ⟨q, rfl⟩ := Int.eq_ofNat_of_zero_le r0
  have HH2 := Lib.hid h2
  have HC2 := Lib.hid hc2
  clear h1a hc1a ho2 HB1a HO1 h2 hc2
  go_wp2
  go_loopw [3, 5] (fun v5 v7 wr => ∃ (k : Nat) (L : List Int) (S cp : Nat), v5 = .slice (some ⟨S, 0, none⟩) k cp ∧ v7 = .int .i64 k ∧ k ≤ q ∧ L.length = k ∧ k ≤ cp ∧ Hid (wtTo L k) ∧ Hid (OwnV wr (g + 1) 3 v5 L) ∧ Hid (CurAt wr g A n c) ∧ Hid (BytesAt wr g A n zs) ∧ Hid (Below g w wr) ∧ Hid (g < wr.heap.size)) (fun _ v7 _ => q - (intOf v7).toNat)
  case atStart => exact ⟨0, [], _, _, rfl, rfl, Nat.zero_le _, rfl, Nat.zero_le _, Lib.hid (fun i hi => absurd hi (by omega)), HO2, HC2, HH2, HB2, HZ2⟩
  case round =>
    clear HO2 HC2 HH2 HB2 HZ2
    obtain ⟨k, L, S, cp, rfl, rfl, hk, hl, hcp, HU, HO, HC, HH, HB, HZ⟩ := hrel
    by_cases he : k < q
    · have i1 : (k : Int) < (q : Int) := by omega
      go_wp2_with fail
      refine (l01Below_any g A n c zs 60 _ HH.out hn HC.out (by omega) (by omega)).mono ?_
      rintro e w3 ⟨z, rfl, z0, z1, hc3, ho3⟩
      have hgz : g < w3.heap.size := by have := HZ.out; have := ho3.size; omega
      have HO3 := Lib.hid (ho3.own HO.out (fun e => by have := HO.out.ownLt g e; omega))
      have HB3 := Lib.hid (HB.out.trans (ho3.below (Nat.le_refl _)))
      have HBG : Hid (Below (g + 1) w3 (w3.alloc (.cells #[.int .i64 z] 3))) := Lib.hid ((Below.refl _ _).alloc (by omega) _)
      have HC3 := Lib.hid hc3
      have HH3 := Lib.hid (HH.out.only ho3 (Nat.le_refl _))
      have HU3 := Lib.hid (wtTo_snoc HU.out hl (z := z) (by omega))
      clear hc3 ho3 HO HC HH HB HZ HU
      go_wp2_with (at_builtin; refine wpList_app _ rfl (.tmp 14) (.tmp 17) 25 rfl (g + 1) 3 Try.underlying25 infoInt _ L rfl (by exact HO3.out.alloc _) w3.heap.size 1 z rfl (by exact cell_new1 _ _ _) (g + 1) w3 (by exact HBG.out) (Nat.le_refl _) (by simp; omega) k hl (by omega) _ rfl ?_; intro g' cap' w4 hown4 hb4)
      have hz4 := hb4.size
      have hcap : k + 1 ≤ cap' := by
        rcases hown4.2 with ⟨h1, h2⟩ | ⟨g5, cap5, cur, h1, hb, hg5, hc5, _⟩
        · simp at h1
        · simp at h1
          obtain ⟨_, _, rfl⟩ := h1
          simp at hc5
          omega
      have HO4 := Lib.hid hown4
      have HB4 : Hid (Below g w w4) := Lib.hid (HB3.out.trans (hb4.mono (by omega)))
      have HC4 : Hid (CurAt w4 g A n c) := Lib.hid (by
        obtain ⟨i, hh, hi, hcc⟩ := HC3.out
        exact ⟨i, hh, hi, RowF.below hcc hb4 (by omega)⟩)
      have HH4 : Hid (BytesAt w4 g A n zs) := Lib.hid (HH3.out.below (hb4.mono (by omega)))
      have HZ4 : Hid (g < w4.heap.size) := Lib.hid (by omega)
      clear hown4 hb4 HBG HO3 HB3 HC3 HH3
      go_wp2
      go_roundw
      case rel => exact ⟨k + 1, _, g', cap', rfl, by go_num, by omega, by simp [hl], hcap, HU3, HO4, HC4, HH4, HB4, HZ4⟩
      case measure => simp [intOf]; omega
    · obtain rfl : k = q := by omega
      have i2 : ¬ (k : Int) < (k : Int) := by omega
      have hm8 : k ≤ 6 := by omega
      clear hk he r0 r1
      go_wp2
      go_ret
      exact ⟨S, k, cp, L, rfl, hm8, hl, HU.out, HO.out.intsAt, hcp, HB.out⟩

set_option maxRecDepth 100000 in
set_option maxHeartbeats 3200000 in
theorem drawWeights_any (A : Option Addr) (n c : Nat) (zs : List Int) (w : World) (h : BytesAt w w.heap.size A n zs) (hn : n ≤ 1048576) :
    Calls Try.prog 14 #[.slice A n c] w (DwtPost w.heap.size w) := by
  go_enter Try.func14, Try.ntmps14
  go_wp2_with fail
  refine (l01New_any _ _ _ zs _ h hn).mono ?_
  rintro e w1 ⟨g, rfl, hg, hc, hb1⟩
  have hgl : g < w1.heap.size := by
    obtain ⟨i, x, _, hcc⟩ := hc
    exact RowF.lt hcc
  have h1 : BytesAt w1 g A n zs := (h.below hb1).mono hg
  have HB1 := Lib.hid hb1
  clear hb1 h
  go_wp2_with fail
  refine (l28Weights_any g _ _ _ zs _ h1 hn hc hgl).mono ?_
  rintro e w2 ⟨S, m, c2, L, rfl, hm, hl, hu, hi, hmc, hb2⟩
  have HB2 := Lib.hid (HB1.out.trans (hb2.mono hg))
  have HU := Lib.hid hu
  have HI := Lib.hid hi
  clear hb2 h1 hc hu hi
  go_wp2
  go_ret
  exact ⟨S, m, c2, L, rfl, hm, hl, HU.out, HI.out, hmc, HB2.out⟩
end Go.Proofs.Ytplabaneihjcoaa
