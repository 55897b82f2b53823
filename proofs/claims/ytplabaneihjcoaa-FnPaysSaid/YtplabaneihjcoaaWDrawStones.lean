/-
  Contracts: the draw of stones with marks.
-/
import Derived.Test.YtplabaneihjcoaaWDrawStone
import Derived.Test.YtplabaneihjcoaaAppI
import Derived.Test.YtplabaneihjcoaaNest
import Derived.Test.YtplabaneihjcoaaBoxS
import Derived.IntWalk
namespace Go.Proofs.Ytplabaneihjcoaa
open Go.RowKit
set_option linter.unusedSimpArgs false
set_option linter.unusedVariables false

theorem infoStoneD : (Try.prog.info? 36).map (fun i => (i.zero, i.size, i.bytes)) = some (some (.agg #[.slice none 0 0]), 1, 24) := by kernel_rfl
/-- The cells cs hold k valid stones, each in a row of its own. -/
def StnsAt (w : World) (cs : List Value) (k : Nat) (L : List (Nat × List Int)) : Prop :=
  L.length = k ∧ ∀ i, i < k → ∃ G ci, cs[i]? = some (.slice (some ⟨G, 0, none⟩) (rowN L i) ci) ∧ RowF w G 76 (rowN L i * 2) (ints (rowZ L i)) ∧ (rowZ L i).length = rowN L i * 2 ∧ rowN L i ≤ ci ∧ ci ≤ 9223372036854775807 ∧ stoneB (rowZ L i) (rowN L i) = true
theorem StnsAt.keep {w w' : World} {cs : List Value} {k : Nat} {L : List (Nat × List Int)} (h : StnsAt w cs k L) (hk : ∀ g2 m2 f, RowF w g2 76 m2 f → RowF w' g2 76 m2 f) : StnsAt w' cs k L :=
  ⟨h.1, fun i hi => by obtain ⟨G, ci, h1, h2, h3⟩ := h.2 i hi; exact ⟨G, ci, h1, hk _ _ _ h2, h3⟩⟩
theorem StnsAt.after {w w' : World} {cs : List Value} {k : Nat} {L : List (Nat × List Int)} (h : StnsAt w cs k L) (hb : Below w.heap.size w w') : StnsAt w' cs k L := h.keep (fun _ _ _ hr => hr.after hb)
theorem rowN_snoc {L : List (Nat × List Int)} {p : Nat × List Int} {k i : Nat} (hl : L.length = k) : rowN (L ++ [p]) i = (if i < k then rowN L i else if i = k then p.1 else rowN (L ++ [p]) i) ∧ rowZ (L ++ [p]) i = (if i < k then rowZ L i else if i = k then p.2 else rowZ (L ++ [p]) i) := by
  subst hl
  by_cases h : i < L.length
  · simp [rowN, rowZ, h, List.getElem?_append_left h]
  · by_cases e : i = L.length
    · subst e; simp [rowN, rowZ]
    · simp [h, e]
theorem StnsAt.snoc {w : World} {cs : List Value} {k G m ci : Nat} {L : List (Nat × List Int)} {zs : List Int} (h : StnsAt w cs k L) (hc : cs.length = k) (h1 : RowF w G 76 (m * 2) (ints zs)) (h2 : zs.length = m * 2) (h3 : m ≤ ci ∧ ci ≤ 9223372036854775807) (h4 : stoneB zs m = true) : StnsAt w (cs ++ [.slice (some ⟨G, 0, none⟩) m ci]) (k + 1) (L ++ [(m, zs)]) := by
  refine ⟨by simp [h.1], fun i hi => ?_⟩
  have e := rowN_snoc (p := (m, zs)) (i := i) h.1
  by_cases hk : i < k
  · rw [if_pos hk, if_pos hk] at e
    rw [e.1, e.2]
    obtain ⟨G', c', a1, a2⟩ := h.2 i hk
    exact ⟨G', c', by rw [List.getElem?_append_left (by omega)]; exact a1, a2⟩
  · have ek : i = k := by omega
    rw [if_neg hk, if_neg hk, if_pos ek, if_pos ek] at e
    rw [e.1, e.2]
    exact ⟨G, ci, by rw [ek, ← hc]; simp, h1, h2, h3.1, h3.2, h4⟩
/-- The first k marks lie from 1 to 4. -/
def mkTo (L : List Int) (k : Nat) : Prop := ∀ i, i < k → 1 ≤ nth L i ∧ nth L i ≤ 4
theorem mkTo_snoc {L : List Int} {z : Int} {k : Nat} (h : mkTo L k) (hl : L.length = k) (hz : 1 ≤ z ∧ z ≤ 4) : mkTo (L ++ [z]) (k + 1) := fun i hi => by
  by_cases e : i = k
  · subst e
    have : nth (L ++ [z]) i = z := by rw [nth_get _ _ (by simp [hl])]; simp [hl]
    rw [this]; exact hz
  · have h1 : i < L.length := by omega
    have : nth (L ++ [z]) i = nth L i := by rw [nth_get _ _ (by simp; omega), nth_get _ _ h1, List.getElem_append_left h1]
    rw [this]; exact h i (by omega)
/-- What the draw of stones knows at the loop's head. -/
structure MkSt (w wr : World) (g : Nat) (A : Option Addr) (n c : Nat) (zs : List Int) (u v : Value) (k : Nat) (cs : List Value) (L : List (Nat × List Int)) (ms : List Int) : Prop where
  own : OwnC wr (g + 1) 36 u k cs
  stn : StnsAt wr cs k L
  mrk : OwnV wr (g + 1) 3 v ms
  len : ms.length = k ∧ mkTo ms k
  cur : CurAt wr g A n c
  code : BytesAt wr g A n zs
  below : Below g w wr
  lt : g < wr.heap.size
theorem MkSt.drawn {w wr w' : World} {g : Nat} {A : Option Addr} {n c : Nat} {zs : List Int} {u v : Value} {k : Nat} {cs : List Value} {L : List (Nat × List Int)} {ms : List Int} (h : MkSt w wr g A n c zs u v k cs L ms) (ho : Only g wr w') (hc : CurAt w' g A n c) : MkSt w w' g A n c zs u v k cs L ms := by
  refine ⟨h.own.ofBlock (fun b hb => ho.block b (fun e => ?_)), h.stn.keep (fun g2 m2 f hr => ?_), ho.own h.mrk (fun e => ?_), h.len, hc, h.code.only ho (Nat.le_refl _), h.below.trans (ho.below (Nat.le_refl _)), by rw [ho.size]; exact h.lt⟩
  · have := h.own.ownLt b hb; omega
  · obtain ⟨i, x, _, hcc⟩ := h.cur
    refine hr.only ho (fun e => ?_)
    subst e
    obtain ⟨c1, h1, _⟩ := hr
    obtain ⟨c2, h2, _⟩ := hcc
    rw [h1] at h2
    simp at h2
  · have := h.mrk.ownLt g e; omega
theorem MkSt.turned {w wr w' : World} {g : Nat} {A : Option Addr} {n c : Nat} {zs : List Int} {u v : Value} {k : Nat} {cs : List Value} {L : List (Nat × List Int)} {ms : List Int} (h : MkSt w wr g A n c zs u v k cs L ms) (hb : Bt g wr w') (hc : CurAt w' g A n c) : MkSt w w' g A n c zs u v k cs L ms := by
  refine ⟨h.own.ofBlock (fun b hb' => hb.keep b (World.ownsRow.lt h.own.1 b hb').2 (fun e => ?_)), h.stn.keep (fun g2 m2 f hr => hr.of_block (hb.keep g2 hr.lt (fun e => ?_))), ?_, h.len, hc, h.code.below hb.below, h.below.trans hb.below, Nat.lt_of_lt_of_le h.lt hb.below.size⟩
  · have := h.own.ownLt b hb'; omega
  · obtain ⟨i, x, _, hcc⟩ := h.cur
    subst e
    obtain ⟨c1, h1, _⟩ := hr
    obtain ⟨c2, h2, _⟩ := hcc
    rw [h1] at h2
    simp at h2
  · refine ⟨h.mrk.1, ?_⟩
    rcases h.mrk.2 with h2 | ⟨g0, cap, cur, a1, a2, a3, a4⟩
    · exact .inl h2
    · exact .inr ⟨g0, cap, cur, a1, a2, (hb.keep g0 (Array.getElem?_eq_some_iff.1 a3).1 (by omega)).trans a3, a4⟩
def StpX (p : Prop) : Prop := p
theorem stpX {p : Prop} (h : StpX p) : p := h
/-- Stones and marks that a draw gives. -/
def DmkPost (B : Nat) (w : World) (e : Ending) (w' : World) : Prop :=
  ∃ (u v : Value) (m : Nat) (cs : List Value) (L : List (Nat × List Int)) (ms : List Int), e = .returned (.tuple #[u, v]) ∧ m ≤ 5 ∧ OwnC w' (B + 1) 36 u m cs ∧ StnsAt w' cs m L ∧ OwnV w' (B + 1) 3 v ms ∧ ms.length = m ∧ mkTo ms m ∧ Below B w w'

set_option maxRecDepth 100000 in
set_option maxHeartbeats 3200000 in
theorem l28Stones_any (g : Nat) (A : Option Addr) (n c : Nat) (zs : List Int) (w : World) (h : BytesAt w g A n zs) (hn : n ≤ 1048576) (hc : CurAt w g A n c) (hg : g < w.heap.size) :
    Calls Try.prog 31 #[.pointer (some ⟨g, 0, none⟩)] w (DmkPost g w) := by
  have hb0 : Below w.heap.size w ((w.alloc (.cells #[] 36)).alloc (.cells #[] 3)) := ((Below.refl _ _).alloc (Nat.le_refl _) _).alloc (by simp) _
  have hz1 : (w.alloc (.cells #[] 36)).heap.size = w.heap.size + 1 := by simp
  have HS0 : Hid (MkSt w ((w.alloc (.cells #[] 36)).alloc (.cells #[] 3)) g A n c zs (.slice (some ⟨w.heap.size, 0, none⟩) 0 0) (.slice (some ⟨w.heap.size + 1, 0, none⟩) 0 0) 0 [] [] []) := Lib.hid (by
    refine ⟨?_, ⟨rfl, fun i hi => absurd hi (by omega)⟩, ?_, ⟨rfl, fun i hi => absurd hi (by omega)⟩, hc.after hb0, h.below (hb0.mono (by omega)), (Below.refl g w).trans (hb0.mono (by omega)), by simp; omega⟩
    · have h := (OwnC.new w 36).alloc (.cells #[] 3)
      refine ⟨⟨h.1.1, ?_⟩, h.2⟩
      rcases h.1.2 with h2 | ⟨g0, cap, cur, a1, a2, a3⟩
      · exact .inl h2
      · exact .inr ⟨g0, cap, cur, a1, by omega, a3⟩
    · have h := ((OwnI.new (w.alloc (.cells #[] 36)) 3).mono (base' := g + 1) (by rw [hz1]; omega)).toV
      rw [hz1] at h
      exact h)
  clear h hc hb0 hz1
  go_enter Try.func31, Try.ntmps31
  go_wp2_with fail
  refine (l01Below_any g A n c zs 6 _ HS0.out.code hn HS0.out.cur (by omega) (by omega)).mono ?_
  rintro e w2 ⟨r, rfl, r0, r1, hc2, ho2⟩
  have HS2 := Lib.hid (HS0.out.drawn ho2 hc2)
  obtain ⟨q, rfl⟩ := Int.eq_ofNat_of_zero_le r0
  clear hc2 ho2 HS0
  go_wp2
  go_loopw [4, 5, 7] (fun v4 v5 v7 wr => ∃ (k : Nat) (cs : List Value) (L : List (Nat × List Int)) (ms : List Int) (u v : Value), u = v4 ∧ v = v5 ∧ v7 = .int .i64 k ∧ k ≤ q ∧ Hid (MkSt w wr g A n c zs v4 v5 k cs L ms)) (fun _ _ v7 _ => q - (intOf v7).toNat)
  case atStart => exact ⟨0, [], [], [], _, _, rfl, rfl, rfl, Nat.zero_le _, HS2⟩
  case round =>
    clear HS2
    obtain ⟨k, cs, L, ms, u, v, rfl, rfl, rfl, hk, HS⟩ := hrel
    by_cases he : k < q
    · have i1 : (k : Int) < (q : Int) := by omega
      go_wp2_with fail
      refine (l03Stone_any g A n c zs _ HS.out.code hn HS.out.cur HS.out.lt).mono ?_
      rintro e w3 ⟨S, m, d, Z, rfl, hS, hmd, hR, hZl, hst, hc3, hb3⟩
      have HS3 := Lib.hid (HS.out.turned hb3 hc3)
      have HR3 := Lib.hid hR
      have HM := Lib.hid hmd
      have HT := Lib.hid hst
      have HSA : Hid (MkSt w ((w3.alloc (.cells #[.slice (some ⟨S, 0, none⟩) m d] 36)).alloc (.cells #[.slice (some ⟨S, 0, none⟩) m d] 36)) g A n c zs u v k cs L ms) := Lib.hid (HS3.out.turned (by
        refine ⟨((Below.refl _ _).alloc (by have := HS3.out.lt; omega) _).alloc (by have := HS3.out.lt; simp; omega) _, fun b hb _ => ?_⟩
        exact (((Below.refl _ _).alloc (Nat.le_refl _) _).alloc (by simp) _ : Below w3.heap.size w3 _).block b hb) (HS3.out.cur.after (((Below.refl _ _).alloc (Nat.le_refl _) _).alloc (by simp) _)))
      have HRA := Lib.hid ((HR3.out.alloc (.cells #[.slice (some ⟨S, 0, none⟩) m d] 36)).alloc (.cells #[.slice (some ⟨S, 0, none⟩) m d] 36))
      have HCN : Hid (((w3.alloc (.cells #[.slice (some ⟨S, 0, none⟩) m d] 36)).alloc (.cells #[.slice (some ⟨S, 0, none⟩) m d] 36)).cell? ⟨w3.heap.size + 1, 0, none⟩ = some (.slice (some ⟨S, 0, none⟩) m d)) := Lib.hid (by
        have h := cell_new1 (w3.alloc (.cells #[.slice (some ⟨S, 0, none⟩) m d] 36)) (.slice (some ⟨S, 0, none⟩) m d) 36
        rw [World.size_alloc] at h
        exact h)
      clear hS hmd hR hst hc3 hb3
      go_wp2_with (at_builtin; refine wpList_appC2 _ rfl (.tmp 20) (.tmp 22) 24 rfl (g + 1) 36 24 (.agg #[.slice none 0 0]) Try.underlying24 infoStoneD rfl (by decide) u k cs rfl (by exact HSA.out.own) (w3.heap.size + 1) 1 (.slice (some ⟨S, 0, none⟩) m d) rfl rfl (by exact HCN.out) (by omega) (g + 1) ((w3.alloc (.cells #[.slice (some ⟨S, 0, none⟩) m d] 36)).alloc (.cells #[.slice (some ⟨S, 0, none⟩) m d] 36)) (Below.refl _ _) (Nat.le_refl _) (by have := HSA.out.lt; omega) ?_; intro g' cap' w4 hown4 hb4 hrow4 hiv4)
      have HO4 := Lib.hid hown4
      have HT4 := Lib.hid (StnsAt.snoc (HSA.out.stn.keep (fun g2 m2 f hr => hrow4 g2 _ m2 f (by decide) hr)) HSA.out.own.2 (hrow4 _ _ _ _ (by decide) HRA.out) hZl HM.out HT.out)
      have HS4 : Hid (MkSt w w4 g A n c zs (.slice (some ⟨g', 0, none⟩) (k + 1) cap') v (k + 1) (cs ++ [.slice (some ⟨S, 0, none⟩) m d]) (L ++ [(m, Z)]) (ms ++ [0]) ∨ True) := Lib.hid (.inr trivial)
      have HV4 := Lib.hid (hiv4 _ _ _ _ (by decide) HSA.out.mrk)
      have HLT4 : Hid (g < w4.heap.size) := Lib.hid (by have := HSA.out.lt; have := hb4.size; omega)
      have HC4 : Hid (CurAt w4 g A n c) := Lib.hid (by
        obtain ⟨i, hh, hi, hcc⟩ := HSA.out.cur
        exact ⟨i, hh, hi, RowF.below hcc hb4 (by omega)⟩)
      have HH4 : Hid (BytesAt w4 g A n zs) := Lib.hid (HSA.out.code.below (hb4.mono (by omega)))
      have HB4 : Hid (Below g w w4) := Lib.hid (HSA.out.below.trans (hb4.mono (by omega)))
      have HL4 := Lib.hid HSA.out.len
      clear HS4 hown4 hb4 hrow4 hiv4 HSA HRA HCN HS3 HR3 HS
      go_wp2_with fail
      refine (l01Below_any g A n c zs 4 _ HH4.out hn HC4.out (by omega) (by omega)).mono ?_
      rintro e w5 ⟨x, rfl, x0, x1, hc5, ho5⟩
      have HO5 := Lib.hid (HO4.out.ofBlock (fun b hb => ho5.block b (fun e => by have := HO4.out.ownLt b hb; omega)))
      have HT5 := Lib.hid (HT4.out.keep (fun g2 m2 f hr => hr.only ho5 (fun e => by
        obtain ⟨i, x, _, hcc⟩ := HC4.out
        subst e
        obtain ⟨c1, h1, _⟩ := hr
        obtain ⟨c2, h2, _⟩ := hcc
        rw [h1] at h2
        simp at h2)))
      have HV5 := Lib.hid (ho5.own HV4.out (fun e => by have := HV4.out.ownLt g e; omega))
      have HC5 := Lib.hid hc5
      have HH5 := Lib.hid (HH4.out.only ho5 (Nat.le_refl _))
      have HB5 := Lib.hid (HB4.out.trans (ho5.below (Nat.le_refl _)))
      have HLT5 : Hid (g < w5.heap.size) := Lib.hid (by have := HLT4.out; have := ho5.size; omega)
      have e1 : IntKind.i64.wrap (1 + x) = 1 + x := IntWalk.i64_in _ (by omega)
      have HBG : Hid (Below (g + 1) w5 (w5.alloc (.cells #[.int .i64 (1 + x)] 3))) := Lib.hid ((Below.refl _ _).alloc (by have := HLT5.out; omega) _)
      clear hc5 ho5 HO4 HT4 HV4 HC4 HH4 HB4 HLT4
      go_wp2_with (at_builtin; refine wpList_appI _ rfl (.tmp 24) (.tmp 28) 25 rfl (g + 1) 3 Try.underlying25 infoInt v ms rfl (by exact HV5.out.alloc _) w5.heap.size 1 (1 + x) rfl (by exact cell_new1 _ _ _) (g + 1) w5 (by exact HBG.out) (Nat.le_refl _) (by have := HLT5.out; simp; omega) k HL4.out.1 (by omega) _ rfl ?_; intro g6 cap6 w6 hown6 hb6 hrow6 hcs6)
      have HS6 : Hid (MkSt w w6 g A n c zs (.slice (some ⟨g', 0, none⟩) (k + 1) cap') (.slice (some ⟨g6, 0, none⟩) (k + 1) cap6) (k + 1) (cs ++ [.slice (some ⟨S, 0, none⟩) m d]) (L ++ [(m, Z)]) (ms ++ [1 + x])) := Lib.hid (by
        have hz := hb6.size
        have hl5 := HLT5.out
        refine ⟨hcs6 _ _ _ _ _ (by decide) (HO5.out.alloc _), HT5.out.keep (fun g2 m2 f hr => hrow6 g2 _ m2 f (by decide) (hr.alloc _)), hown6, ⟨by simp [HL4.out.1], mkTo_snoc HL4.out.2 HL4.out.1 (by omega)⟩, ?_, HH5.out.below (hb6.mono (by omega)), HB5.out.trans (hb6.mono (by omega)), by omega⟩
        obtain ⟨i, hh, hi, hcc⟩ := HC5.out
        exact ⟨i, hh, hi, RowF.below hcc hb6 (by omega)⟩)
      clear hown6 hb6 hrow6 hcs6 HO5 HT5 HV5 HC5 HH5 HB5 HLT5 HBG
      go_wp2
      go_roundw
      case rel => exact ⟨k + 1, _, _, _, _, _, rfl, rfl, by go_num, by omega, HS6⟩
      case measure => simp [intOf]; omega
    · obtain rfl : k = q := by omega
      have i2 : ¬ (k : Int) < (k : Int) := by omega
      clear hk he r0
      go_wp2
      refine bodyPost_ret (v := .tuple #[u, v]) (by simp [results, Try.results31, go_sem]) rfl ?_
      exact ⟨_, _, k, cs, L, ms, rfl, by omega, HS.out.own, HS.out.stn, HS.out.mrk, HS.out.len.1, HS.out.len.2, HS.out.below⟩

/-- Stones and marks as a reader sees them. -/
def DmPost (w : World) (e : Ending) (w' : World) : Prop :=
  ∃ (A B : Option Addr) (m c d : Nat) (L : List (Nat × List Int)) (ms : List Int), e = .returned (.tuple #[.slice A m c, .slice B m d]) ∧ m ≤ 5 ∧ NestAt w' w'.heap.size 2 A m L ∧ (∀ i, i < m → stoneB (rowZ L i) (rowN L i) = true) ∧ IntsAt w' w'.heap.size B m ms ∧ mkTo ms m ∧ Below w.heap.size w w'
theorem StnsAt.nest {w : World} {base : Nat} {A : Option Addr} {m c : Nat} {cs : List Value} {L : List (Nat × List Int)} (h : StnsAt w cs m L) (ho : OwnC w base 36 (.slice A m c) m cs) : NestAt w w.heap.size 2 A m L ∧ ∀ i, i < m → stoneB (rowZ L i) (rowN L i) = true := by
  refine ⟨⟨h.1, fun hm => ?_⟩, fun i hi => ?_⟩
  · rcases ho.form with ⟨_, h2, _⟩ | ⟨g, cap, e, _, _, hgl, hcc⟩
    · omega
    · simp only [Value.slice.injEq, true_and] at e
      obtain ⟨rfl, rfl⟩ := e
      refine ⟨g, 0, rfl, hgl, fun i hi => ?_⟩
      obtain ⟨G, ci, h1, h2, h3, h4, h5, _⟩ := h.2 i hi
      exact ⟨_, ci, by rw [Nat.zero_add, hcc i hi, h1], h2.recs h3, h4, by unfold maxLen; omega⟩
  · obtain ⟨G, ci, _, _, _, _, _, h6⟩ := h.2 i hi
    exact h6

set_option maxRecDepth 100000 in
set_option maxHeartbeats 3200000 in
theorem drawMarked_any (A : Option Addr) (n c : Nat) (zs : List Int) (w : World) (h : BytesAt w w.heap.size A n zs) (hn : n ≤ 1048576) :
    Calls Try.prog 7 #[.slice A n c] w (DmPost w) := by
  go_enter Try.func7, Try.ntmps7
  go_wp2_with fail
  refine (l01New_any _ _ _ zs _ h hn).mono ?_
  rintro e w1 ⟨g, rfl, hg, hc, hb1⟩
  have hgl : g < w1.heap.size := by
    obtain ⟨i, x, _, hcc⟩ := hc
    exact RowF.lt hcc
  have h1 : BytesAt w1 g A n zs := (h.below hb1).mono hg
  have HB1 := Lib.hid hb1
  clear hb1 h
  go_wp2_with fail
  refine (l28Stones_any g _ _ _ zs _ h1 hn hc hgl).mono ?_
  rintro e w2 ⟨u, v, m, cs, L, ms, rfl, hm, ho, hs, hv, hl, hk, hb2⟩
  obtain ⟨A2, c2, rfl, _⟩ := ho.slice
  obtain ⟨B2, m2, d2, rfl⟩ := hv.slice
  obtain rfl : m2 = m := by have := hv.len; omega
  have HB2 := Lib.hid (HB1.out.trans (hb2.mono hg))
  have HN := Lib.hid (hs.nest ho)
  have HI := Lib.hid hv.intsAt
  have HK := Lib.hid hk
  clear hb2 h1 hc hv ho hs hk hl
  go_wp2
  refine bodyPost_ret (v := .tuple #[.slice A2 m2 c2, .slice B2 m2 d2]) (by simp [results, Try.results7, go_sem]) rfl ?_
  exact ⟨A2, B2, m2, c2, d2, L, ms, rfl, hm, HN.out.1, HN.out.2, HI.out, HK.out, HB2.out⟩
end Go.Proofs.Ytplabaneihjcoaa
