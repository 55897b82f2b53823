/-
  Contracts: the draw of pieces and of a block's length.
-/
import Derived.Test.YtplabaneihjcoaaWDraw
import Derived.Test.YtplabaneihjcoaaApp
import Derived.IntWalk
namespace Go.Proofs.Ytplabaneihjcoaa
open Go.RowKit
set_option linter.unusedSimpArgs false
set_option linter.unusedVariables false

/-- The first k numbers of L lie from 1 to N. -/
def upTo (L : List Int) (N : Int) (k : Nat) : Prop := ∀ i, i < k → 1 ≤ nth L i ∧ nth L i ≤ N
theorem upTo_snoc {L : List Int} {N z : Int} {k : Nat} (h : upTo L N k) (hl : L.length = k) (hz : 1 ≤ z ∧ z ≤ N) : upTo (L ++ [z]) N (k + 1) := fun i hi => by
  by_cases e : i = k
  · subst e
    have : nth (L ++ [z]) i = z := by rw [nth_get _ _ (by simp [hl])]; simp [hl]
    rw [this]; exact hz
  · have h1 : i < L.length := by omega
    have : nth (L ++ [z]) i = nth L i := by rw [nth_get _ _ (by simp; omega), nth_get _ _ h1, List.getElem_append_left h1]
    rw [this]; exact h i (by omega)
/-- The pieces and the length that a draw gives. -/
def DszPost (B : Nat) (w : World) (e : Ending) (w' : World) : Prop :=
  ∃ (S m c : Nat) (L : List Int) (N : Int), e = .returned (.tuple #[.slice (some ⟨S, 0, none⟩) m c, .int .i64 N]) ∧ (10 ≤ N ∧ N ≤ 29) ∧ m ≤ 8 ∧ L.length = m ∧ upTo L N m ∧ IntsAt w' w'.heap.size (some ⟨S, 0, none⟩) m L ∧ Below B w w'

set_option maxRecDepth 100000 in
set_option maxHeartbeats 3200000 in
theorem l27Sizes_any (g : Nat) (A : Option Addr) (n c : Nat) (zs : List Int) (w : World) (h : BytesAt w g A n zs) (hn : n ≤ 1048576) (hc : CurAt w g A n c) (hg : g < w.heap.size) :
    Calls Try.prog 57 #[.pointer (some ⟨g, 0, none⟩)] w (DszPost g w) := by
  have HG := Lib.hid hg
  go_enter Try.func57, Try.ntmps57
  go_wp2_with fail
  refine (l01Below_any g A n c zs 20 _ h hn hc (by omega) (by omega)).mono ?_
  rintro e w1 ⟨x, rfl, x0, x1, hc1, ho1⟩
  have h1 := h.only ho1 (Nat.le_refl _)
  have HB1 := Lib.hid (ho1.below (Nat.le_refl _))
  have hN : 10 ≤ 10 + x ∧ 10 + x ≤ 29 := by omega
  have e0 : IntKind.i64.wrap (10 + x) = 10 + x := IntWalk.i64_in _ (by omega)
  obtain ⟨N, hNN⟩ : ∃ N, 10 + x = N := ⟨_, rfl⟩
  rw [hNN] at e0 hN
  have h1a : BytesAt (w1.alloc (.cells #[] 3)) g A n zs := h1.below ((Below.refl _ _).alloc (by have := HG.out; have := ho1.size; omega) _)
  have hc1a : CurAt (w1.alloc (.cells #[] 3)) g A n c := hc1.after ((Below.refl _ _).alloc (Nat.le_refl _) _)
  have HB1a : Hid (Below g w (w1.alloc (.cells #[] 3))) := Lib.hid (HB1.out.alloc (by have := HG.out; have := ho1.size; omega) _)
  have HO1 : Hid (OwnV (w1.alloc (.cells #[] 3)) (g + 1) 3 (.slice (some ⟨w1.heap.size, 0, none⟩) 0 0) []) := Lib.hid ((OwnI.new w1 3).mono (by have := HG.out; have := ho1.size; omega)).toV
  have HZ1 : Hid (w1.heap.size = w.heap.size) := Lib.hid ho1.size
  clear h hc ho1 hc1 h1 HB1
  go_wp2_with fail
  refine (l01Below_any g A n c zs 9 _ h1a hn hc1a (by omega) (by omega)).mono ?_
  rintro e w2 ⟨r, rfl, r0, r1, hc2, ho2⟩
  have h2 := h1a.only ho2 (Nat.le_refl _)
  have HB2 := Lib.hid (HB1a.out.trans (ho2.below (Nat.le_refl _)))
  have HO2 : Hid (OwnV w2 (g + 1) 3 (.slice (some ⟨w1.heap.size, 0, none⟩) 0 0) []) := Lib.hid (ho2.own HO1.out (by simp [Value.ownBlock]; have := HG.out; have := HZ1.out; omega))
  have HZ2 : Hid (g < w2.heap.size) := Lib.hid (by have := ho2.size; simp at this; have := HG.out; have := HZ1.out; omega)
  obtain ⟨q, rfl⟩ := Int.eq_ofNat_of_zero_le r0
  have HH2 := Lib.hid h2
  have HC2 := Lib.hid hc2
  clear h1a hc1a ho2 HB1a HO1 h2 hc2
  go_wp2
  go_loopw [5, 7] (fun v5 v7 wr => ∃ (k : Nat) (L : List Int) (S cp : Nat), v5 = .slice (some ⟨S, 0, none⟩) k cp ∧ v7 = .int .i64 k ∧ k ≤ q ∧ L.length = k ∧ Hid (upTo L N k) ∧ Hid (OwnV wr (g + 1) 3 v5 L) ∧ Hid (CurAt wr g A n c) ∧ Hid (BytesAt wr g A n zs) ∧ Hid (Below g w wr) ∧ Hid (g < wr.heap.size)) (fun _ v7 _ => q - (intOf v7).toNat)
  case atStart => exact ⟨0, [], _, _, rfl, rfl, Nat.zero_le _, rfl, Lib.hid (fun i hi => absurd hi (by omega)), HO2, HC2, HH2, HB2, HZ2⟩
  case round =>
    clear HO2 HC2 HH2 HB2 HZ2
    obtain ⟨k, L, S, cp, rfl, rfl, hk, hl, HU, HO, HC, HH, HB, HZ⟩ := hrel
    by_cases he : k < q
    · have i1 : (k : Int) < (q : Int) := by omega
      go_wp2_with fail
      refine (l01Below_any g A n c zs N _ HH.out hn HC.out (by omega) (by omega)).mono ?_
      rintro e w3 ⟨z, rfl, z0, z1, hc3, ho3⟩
      have hgz : g < w3.heap.size := by have := HZ.out; have := ho3.size; omega
      have e1 : IntKind.i64.wrap (1 + z) = 1 + z := IntWalk.i64_in _ (by omega)
      have HO3 := Lib.hid (ho3.own HO.out (fun e => by have := HO.out.ownLt g e; omega))
      have HB3 := Lib.hid (HB.out.trans (ho3.below (Nat.le_refl _)))
      have HBA := Lib.hid (HB3.out.alloc (Nat.le_of_lt hgz) (.cells #[.int .i64 (1 + z)] 3))
      have HBL : Hid (Below w3.heap.size w3 (w3.alloc (.cells #[.int .i64 (1 + z)] 3))) := Lib.hid ((Below.refl _ _).alloc (Nat.le_refl _) _)
      have HBG : Hid (Below (g + 1) w3 (w3.alloc (.cells #[.int .i64 (1 + z)] 3))) := Lib.hid ((Below.refl _ _).alloc (by omega) _)
      have HC3 := Lib.hid hc3
      have HH3 := Lib.hid (HH.out.only ho3 (Nat.le_refl _))
      have HU3 := Lib.hid (upTo_snoc HU.out hl (z := 1 + z) (by omega))
      clear hc3 ho3 HO HC HH HB HZ HU
      go_wp2_with (at_builtin; refine wpList_app _ rfl (.tmp 19) (.tmp 24) 25 rfl (g + 1) 3 Try.underlying25 infoInt _ L rfl (by exact HO3.out.alloc _) w3.heap.size 1 (1 + z) rfl (by exact cell_new1 _ _ _) (g + 1) w3 (by exact HBG.out) (Nat.le_refl _) (by simp; omega) k hl (by omega) _ rfl ?_; intro g' cap' w4 hown4 hb4)
      have hz4 := hb4.size
      have HO4 := Lib.hid hown4
      have HB4 : Hid (Below g w w4) := Lib.hid (HB3.out.trans (hb4.mono (by omega)))
      have HC4 : Hid (CurAt w4 g A n c) := Lib.hid (by
        obtain ⟨i, hh, hi, hcc⟩ := HC3.out
        exact ⟨i, hh, hi, RowF.below hcc hb4 (by omega)⟩)
      have HH4 : Hid (BytesAt w4 g A n zs) := Lib.hid (HH3.out.below (hb4.mono (by omega)))
      have HZ4 : Hid (g < w4.heap.size) := Lib.hid (by omega)
      clear hown4 hb4 HBA HBL HBG HO3 HB3 HC3 HH3
      go_wp2
      go_roundw
      case rel => exact ⟨k + 1, _, g', cap', rfl, by go_num, by omega, by simp [hl], HU3, HO4, HC4, HH4, HB4, HZ4⟩
      case measure => simp [intOf]; omega
    · obtain rfl : k = q := by omega
      have i2 : ¬ (k : Int) < (k : Int) := by omega
      have hm8 : k ≤ 8 := by omega
      clear hk he r0 r1
      go_wp2
      refine bodyPost_ret (v := .tuple #[.slice (some ⟨S, 0, none⟩) k cp, .int .i64 N]) (by simp [results, Try.results57, go_sem, *]) rfl ?_
      exact ⟨S, k, cp, L, N, rfl, hN, hm8, hl, HU.out, HO.out.intsAt, HB.out⟩

set_option maxRecDepth 100000 in
set_option maxHeartbeats 3200000 in
theorem drawSizes_any (A : Option Addr) (n c : Nat) (zs : List Int) (w : World) (h : BytesAt w w.heap.size A n zs) (hn : n ≤ 1048576) :
    Calls Try.prog 25 #[.slice A n c] w (DszPost w.heap.size w) := by
  go_enter Try.func25, Try.ntmps25
  go_wp2_with fail
  refine (l01New_any _ _ _ zs _ h hn).mono ?_
  rintro e w1 ⟨g, rfl, hg, hc, hb1⟩
  have hgl : g < w1.heap.size := by
    obtain ⟨i, x, _, hcc⟩ := hc
    exact RowF.lt hcc
  have h1 : BytesAt w1 g A n zs := (h.below hb1).mono hg
  have HB1 := Lib.hid hb1
  clear hb1 h
  go_wp2_with fail
  refine (l27Sizes_any g _ _ _ zs _ h1 hn hc hgl).mono ?_
  rintro e w2 ⟨S, m, c2, L, N, rfl, hN, hm, hl, hu, hi, hb2⟩
  have HB2 := Lib.hid (HB1.out.trans (hb2.mono hg))
  have HU := Lib.hid hu
  have HI := Lib.hid hi
  clear hb2 h1 hc hu hi
  go_wp2
  refine bodyPost_ret (v := .tuple #[.slice (some ⟨S, 0, none⟩) m c2, .int .i64 N]) (by simp [results, Try.results25, go_sem, *]) rfl ?_
  exact ⟨S, m, c2, L, N, rfl, hN, hm, hl, HU.out, HI.out, HB2.out⟩
end Go.Proofs.Ytplabaneihjcoaa
