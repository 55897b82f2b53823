/-
  Contract: IsStraight in the program.
-/
import Derived.Test.YtdkdjjdedogcbaaWArch
import Derived.Test.YtdkdjjdedogcbaaPStr2
import Derived.Test.YtdkdjjdedogcbaaOwnR
import Derived.Test.YtdkdjjdedogcbaaLawKit
namespace Go.Proofs.Ytdkdjjdedogcbaa
open Go.RowKit
set_option linter.unusedSimpArgs false

theorem archB_pts {zs : List Int} {n : Nat} (h : archB zs n = true) : ∀ m, m < n → ptB (nth zs (m * 4)) (nth zs (m * 4 + 1)) = true ∧ ptB (nth zs (m * 4 + 2)) (nth zs (m * 4 + 3)) = true := by
  obtain ⟨hn, hp⟩ := archB_out h
  intro m hm
  by_cases e : m + 1 < n
  · have h1 := hp m (by omega)
    simp only [pairB, Bool.and_eq_true] at h1
    have h2 := (stoneB_out h1.1).2.1
    exact ⟨h2 0 (by omega), h2 3 (by omega)⟩
  · obtain ⟨k, rfl⟩ : ∃ k, m = k + 1 := ⟨m - 1, by omega⟩
    have h1 := hp k (by omega)
    simp only [pairB, Bool.and_eq_true] at h1
    have h2 := (stoneB_out h1.1).2.1
    exact ⟨h2 1 (by omega), h2 2 (by omega)⟩
theorem archB_x {zs : List Int} {n : Nat} (h : archB zs n = true) : 2 ≤ n ∧ pX zs 0 < pX zs 2 := by
  obtain ⟨hn, hp⟩ := archB_out h
  have h1 := hp 0 (by omega)
  simp only [pairB, Bool.and_eq_true, decide_eq_true_eq] at h1
  exact ⟨by omega, h1.2⟩
theorem dX_eq (zs : List Int) (i o : Nat) : dX zs i o = nth zs (i * 4) - nth zs (o * 4 + 2) := by
  unfold dX pX
  rw [show 2 * i * 2 = i * 4 by omega, show (2 * o + 1) * 2 = o * 4 + 2 by omega]
theorem dY_eq (zs : List Int) (i o : Nat) : dY zs i o = nth zs (i * 4 + 1) - nth zs (o * 4 + 3) := by
  unfold dY pY
  rw [show 2 * i * 2 + 1 = i * 4 + 1 by omega, show (2 * o + 1) * 2 + 1 = o * 4 + 3 by omega]
open Classical in
/-- Is there a straight line? -/
noncomputable def strB (zs : List Int) (n : Nat) : Bool := archB zs n && decide (StrI zs n)
theorem strB_f1 {zs : List Int} {n : Nat} (h : archB zs n = false) : strB zs n = false := by simp [strB, h]
theorem strB_f2 {zs : List Int} {n : Nat} (h : ¬ StrI zs n) : strB zs n = false := by simp [strB, h]
theorem strB_t {zs : List Int} {n : Nat} (h : archB zs n = true) (h2 : StrI zs n) : strB zs n = true := by simp [strB, h, h2]
theorem infoSlope : (Try.prog.info? 101).map (fun i => (i.zero, i.size, i.bytes)) = some (some (.agg #[.int .i64 0, .int .i64 0]), 2, 16) := by kernel_rfl

/-- What is carried over the pairs. -/
structure StrRel (W1 : World) (zs : List Int) (n t : Nat) (v3 v4 : Value) (wr : World) : Prop where
  low : OwnR wr W1.heap.size 101 2 v3 (lowN zs n t) (lowTo zs n t)
  high : OwnR wr W1.heap.size 101 2 v4 (highN zs n t) (highTo zs n t)
  apart : ApartV v3 v4
  good : noBad zs n t
  below : Below W1.heap.size W1 wr
theorem StrRel.alloc {W1 : World} {zs : List Int} {n t : Nat} {v3 v4 : Value} {wr : World} (h : StrRel W1 zs n t v3 v4 wr) (o : Obj) : StrRel W1 zs n t v3 v4 (wr.alloc o) := ⟨h.low.alloc o, h.high.alloc o, h.apart, h.good, h.below.alloc h.below.size o⟩
theorem StrRel.drewN {W1 : World} {zs : List Int} {n t : Nat} {v3 v4 : Value} {wr : World} (h : StrRel W1 zs n t v3 v4 wr) (k : Nat) : StrRel W1 zs n t v3 v4 (wr.drewN k) := ⟨h.low, h.high, h.apart, h.good, below_drewN h.below k⟩
theorem noBad_step {zs : List Int} {n t : Nat} (h : noBad zs n t) (e : dX zs (t / n) (t % n) = 0 → dY zs (t / n) (t % n) ≤ 0) : noBad zs n (t + 1) := by
  intro s hs
  by_cases hst : s = t
  · subst hst; exact e
  · exact h s (by omega)
theorem cell_newP (w : World) (a b : Int) (T : TypeId) : ∀ i, i < 1 * 2 → (w.alloc (.cells #[.int .i64 a, .int .i64 b] T)).cell? ⟨w.heap.size, i, none⟩ = some (.int .i64 (nth [a, b] i)) := by
  intro i hi
  exact World.rowIs.cell (World.rowIs_alloc w #[.int .i64 a, .int .i64 b] T (ints [a, b]) (fun i hi => by simp at hi; match i, hi with | 0, _ => rfl | 1, _ => rfl)) (by simpa using hi)

theorem OwnR.cap {w : World} {base : Nat} {E : TypeId} {K n : Nat} {A : Option Addr} {c : Nat} {xs : List Int} (h : OwnR w base E K (.slice A n c) n xs) : c ≤ 9223372036854775807 := by
  rcases h.1.2 with ⟨h1, _⟩ | ⟨g, cap, cur, h1, _, _, _, h5, _⟩
  · simp at h1; omega
  · simp at h1
    unfold maxLen at h5
    omega
theorem d_bd {zs : List Int} {n : Nat} (hA : archB zs n = true) {s : Nat} (hs : s < n * n) : slB (dY zs (s / n) (s % n)) (dX zs (s / n) (s % n)) ∧ slB (-dY zs (s / n) (s % n)) (-dX zs (s / n) (s % n)) := by
  have hp := pair_of hs
  have h1 := archB_pts hA _ hp.1
  have h2 := archB_pts hA _ hp.2
  rw [ptB_iff, ptB_iff] at h1 h2
  have e1 := dX_eq zs (s / n) (s % n)
  have e2 := dY_eq zs (s / n) (s % n)
  unfold slB
  omega
theorem low_ok {zs : List Int} {n : Nat} (hA : archB zs n = true) : ∀ j, j < lowN zs n (n * n) → slOk (lowTo zs n (n * n)) j := by
  intro j hj
  obtain ⟨s, hs, _, h2, h3⟩ := low_from (zs := zs) (n := n) (n * n) j hj
  unfold slOk
  rw [h2, h3]
  exact (d_bd hA hs).1
theorem high_ok {zs : List Int} {n : Nat} (hA : archB zs n = true) : ∀ j, j < highN zs n (n * n) → slOk (highTo zs n (n * n)) j := by
  intro j hj
  obtain ⟨s, hs, _, h2, h3⟩ := high_from (zs := zs) (n := n) (n * n) j hj
  unfold slOk
  rw [h2, h3]
  exact (d_bd hA hs).2

set_option maxRecDepth 100000 in
set_option maxHeartbeats 3200000 in
theorem iIsStraight_any (A : Option Addr) (n c : Nat) (zs : List Int) (w : World) (h : RecsAt w w.heap.size 4 A n zs) (hn : n ≤ 1048576) :
    Calls Try.prog 28 #[.agg #[.slice A n c]] w fun e w' => e = .returned (.bool (strB zs n)) ∧ Below w.heap.size w w' := by
  have b0 : Below w.heap.size w (w.alloc (.cells #[.slice A n c] 39)) := (Below.refl _ _).alloc (Nat.le_refl _) _
  have h1 := h.after b0
  have bx0 : Box (w.alloc (.cells #[.slice A n c] 39)) w.heap.size (.slice A n c) := Box.new _ _ _
  cases hA : archB zs n
  · have HF := Lib.hid (strB_f1 hA)
    go_enter Try.func28, Try.ntmps28
    go_wp2_with fail
    refine (iArchOk_any _ _ _ zs _ h1 hn).mono ?_
    rw [hA]
    rintro e w1 ⟨rfl, hb1⟩
    go_wp2
    go_ret
    exact ⟨ret_bool HF.out.symm, below_then b0 hb1⟩
  · have hn8 := (archB_out hA).1
    have HPT := Lib.hid (archB_pts hA)
    have HT := Lib.hid (fun h2 => strB_t hA h2)
    obtain ⟨b, off, rfl, hbB, hcell⟩ := h.2 (by omega)
    have HC := Lib.hid hcell
    clear hcell
    go_enter Try.func28, Try.ntmps28
    go_wp2_with fail
    refine (iArchOk_any _ _ _ zs _ h1 hn).mono ?_
    rw [hA]
    rintro e W1 ⟨rfl, hb1⟩
    have bx1 := bx0.after hb1
    have cx1 := bx1.1
    have hgl1 := bx1.2
    have B1 := Lib.hid (below_then b0 hb1)
    have hbl : b < W1.heap.size := by have := B1.out.size; omega
    have HC1 : Hid (∀ j, j < n → W1.cell? ⟨b, off + j * 4, none⟩ = some (.int .i64 (nth zs (j * 4))) ∧ W1.cell? ⟨b, off + j * 4 + 1, none⟩ = some (.int .i64 (nth zs (j * 4 + 1))) ∧ W1.cell? ⟨b, off + j * 4 + 2, none⟩ = some (.int .i64 (nth zs (j * 4 + 2))) ∧ W1.cell? ⟨b, off + j * 4 + 3, none⟩ = some (.int .i64 (nth zs (j * 4 + 3)))) :=
      fun j hj => jtCells (fun i hi => (B1.out.cell (by exact hbB)).trans (HC.out i hi)) hj
    have HS0 : Hid (StrRel W1 zs n (0 * n) (.slice none 0 0) (.slice none 0 0) W1) := by
      rw [Nat.zero_mul]
      exact ⟨OwnR.nil _ _ _ _, OwnR.nil _ _ _ _, ApartV.nil _, fun s hs => absurd hs (by omega), Below.refl _ _⟩
    have HA' := Lib.hid hA
    clear hb1 b0 h1 bx0 h HC hA bx1
    go_wp2
    go_loopw [3, 4, 19] (fun v3 v4 i wr => ∃ k : Nat, k ≤ n ∧ i = .int .i64 k ∧ Hid (StrRel W1 zs n (k * n) v3 v4 wr)) (fun _ _ i _ => n - (intOf i).toNat)
    case atStart => exact ⟨0, Nat.zero_le _, rfl, HS0⟩
    case round =>
      clear HS0
      obtain ⟨i, hi, rfl, HS⟩ := hrel
      obtain ⟨wo, rfl⟩ : ∃ wo : World, wo = wr := ⟨_, rfl⟩
      by_cases hlt : i < n
      · have hz := HS.out.below.size
        have hq := HC1.out i hlt
        have x0 : wo.cell? ⟨b, off + i * 4, none⟩ = some (.int .i64 (nth zs (i * 4))) := (HS.out.below.cell (by exact hbl)).trans hq.1
        have x1 : wo.cell? ⟨b, off + i * 4 + 1, none⟩ = some (.int .i64 (nth zs (i * 4 + 1))) := (HS.out.below.cell (by exact hbl)).trans hq.2.1
        have x2 : wo.cell? ⟨b, off + i * 4 + 2, none⟩ = some (.int .i64 (nth zs (i * 4 + 2))) := (HS.out.below.cell (by exact hbl)).trans hq.2.2.1
        have x3 : wo.cell? ⟨b, off + i * 4 + 3, none⟩ = some (.int .i64 (nth zs (i * 4 + 3))) := (HS.out.below.cell (by exact hbl)).trans hq.2.2.2
        have cxr : wo.cell? ⟨w.heap.size, 0, none⟩ = some (.slice (some ⟨b, off, none⟩) n c) := (HS.out.below.cell (by exact hgl1)).trans cx1
        have hgr : w.heap.size < wo.heap.size := by omega
        have HSI : Hid (StrRel W1 zs n (i * n + 0) u3 u4 (wo.alloc (.cells #[.int .i64 (nth zs (i * 4)), .int .i64 (nth zs (i * 4 + 1)), .int .i64 (nth zs (i * 4 + 2)), .int .i64 (nth zs (i * 4 + 3))] 97))) := HS.out.alloc _
        have HRI := Lib.hid (RowF.of_row (World.rowIs_alloc wo #[.int .i64 (nth zs (i * 4)), .int .i64 (nth zs (i * 4 + 1)), .int .i64 (nth zs (i * 4 + 2)), .int .i64 (nth zs (i * 4 + 3))] 97 (ints [nth zs (i * 4), nth zs (i * 4 + 1), nth zs (i * 4 + 2), nth zs (i * 4 + 3)]) (fun j hj => by simp at hj; match j, hj with | 0, _ => rfl | 1, _ => rfl | 2, _ => rfl | 3, _ => rfl)))
        clear hq
        go_wp2
        go_loopw [3, 4, 26] (fun v3 v4 o wr => ∃ k : Nat, k ≤ n ∧ o = .int .i64 k ∧ Hid (StrRel W1 zs n (i * n + k) v3 v4 wr) ∧ Hid (RowF wr wo.heap.size 97 4 (ints [nth zs (i * 4), nth zs (i * 4 + 1), nth zs (i * 4 + 2), nth zs (i * 4 + 3)]))) (fun _ _ o _ => n - (intOf o).toNat)
        case atStart => exact ⟨0, Nat.zero_le _, rfl, HSI, HRI⟩
        case round =>
          clear HSI HRI x0 x1 x2 x3 cxr HS
          obtain ⟨o, ho, rfl, HSO, HRO⟩ := hrel
          by_cases hlo : o < n
          · have hq := HC1.out o hlo
            have y0 : wr.cell? ⟨b, off + o * 4, none⟩ = some (.int .i64 (nth zs (o * 4))) := (HSO.out.below.cell (by exact hbl)).trans hq.1
            have y1 : wr.cell? ⟨b, off + o * 4 + 1, none⟩ = some (.int .i64 (nth zs (o * 4 + 1))) := (HSO.out.below.cell (by exact hbl)).trans hq.2.1
            have y2 : wr.cell? ⟨b, off + o * 4 + 2, none⟩ = some (.int .i64 (nth zs (o * 4 + 2))) := (HSO.out.below.cell (by exact hbl)).trans hq.2.2.1
            have y3 : wr.cell? ⟨b, off + o * 4 + 3, none⟩ = some (.int .i64 (nth zs (o * 4 + 3))) := (HSO.out.below.cell (by exact hbl)).trans hq.2.2.2
            have hgo := HRO.out.lt
            have j0 : wr.cell? ⟨wo.heap.size, 0, none⟩ = some (.int .i64 (nth zs (i * 4))) := HRO.out.cell (by omega)
            have j1 : wr.cell? ⟨wo.heap.size, 1, none⟩ = some (.int .i64 (nth zs (i * 4 + 1))) := HRO.out.cell (by omega)
            have hzr := HSO.out.below.size
            have hdm := divmod (n := n) (i := i) (o := o) hlo
            have HSA : Hid (StrRel W1 zs n (i * n + o) u3 u4 (wr.alloc (.cells #[.int .i64 (nth zs (o * 4)), .int .i64 (nth zs (o * 4 + 1)), .int .i64 (nth zs (o * 4 + 2)), .int .i64 (nth zs (o * 4 + 3))] 97))) := HSO.out.alloc _
            have HRA := Lib.hid (HRO.out.alloc (.cells #[.int .i64 (nth zs (o * 4)), .int .i64 (nth zs (o * 4 + 1)), .int .i64 (nth zs (o * 4 + 2)), .int .i64 (nth zs (o * 4 + 3))] 97))
            have hpi := HPT.out i hlt
            have hpo := HPT.out o hlo
            rw [ptB_iff, ptB_iff] at hpi hpo
            have hll := lowN_le (zs := zs) (n := n) (i * n + o)
            have hhl := highN_le (zs := zs) (n := n) (i * n + o)
            have hio : i * n + o < n * n := pair_lt hlt hlo
            have hnn : n * n ≤ 64 := by have := Nat.mul_le_mul hn8.2 hn8.2; omega
            have edx : dX zs i o = nth zs (i * 4) - nth zs (o * 4 + 2) := dX_eq zs i o
            have edy : dY zs i o = nth zs (i * 4 + 1) - nth zs (o * 4 + 3) := dY_eq zs i o
            have bdx : -120 ≤ dX zs i o ∧ dX zs i o ≤ 120 := by omega
            have bdy : -120 ≤ dY zs i o ∧ dY zs i o ≤ 120 := by omega
            have HDX := Lib.hid edx
            have HDY := Lib.hid edy
            have s1 : IntKind.i64.wrap (nth zs (i * 4) - nth zs (o * 4 + 2)) = dX zs i o := by rw [← HDX.out]; exact IntWalk.i64_in _ (by omega)
            have s2 : IntKind.i64.wrap (nth zs (i * 4 + 1) - nth zs (o * 4 + 3)) = dY zs i o := by rw [← HDY.out]; exact IntWalk.i64_in _ (by omega)
            have TL : Hid (0 < dX zs i o → lowTo zs n (i * n + o) ++ [dY zs i o, dX zs i o] = lowTo zs n (i * n + (o + 1)) ∧ lowN zs n (i * n + o) + 1 = lowN zs n (i * n + (o + 1))) := fun hp => by
              rw [show i * n + (o + 1) = i * n + o + 1 by omega]
              simp only [lowTo, lowN, hdm.1, hdm.2, hp, if_true]
              exact ⟨trivial, trivial⟩
            have TL' : Hid (¬ 0 < dX zs i o → lowTo zs n (i * n + (o + 1)) = lowTo zs n (i * n + o) ∧ lowN zs n (i * n + (o + 1)) = lowN zs n (i * n + o)) := fun hp => by
              rw [show i * n + (o + 1) = i * n + o + 1 by omega]
              simp only [lowTo, lowN, hdm.1, hdm.2, hp, if_false]
              exact ⟨trivial, trivial⟩
            have TH : Hid (dX zs i o < 0 → highTo zs n (i * n + o) ++ [-dY zs i o, -dX zs i o] = highTo zs n (i * n + (o + 1)) ∧ highN zs n (i * n + o) + 1 = highN zs n (i * n + (o + 1))) := fun hp => by
              rw [show i * n + (o + 1) = i * n + o + 1 by omega]
              simp only [highTo, highN, hdm.1, hdm.2, hp, if_true]
              exact ⟨trivial, trivial⟩
            have TH' : Hid (¬ dX zs i o < 0 → highTo zs n (i * n + (o + 1)) = highTo zs n (i * n + o) ∧ highN zs n (i * n + (o + 1)) = highN zs n (i * n + o)) := fun hp => by
              rw [show i * n + (o + 1) = i * n + o + 1 by omega]
              simp only [highTo, highN, hdm.1, hdm.2, hp, if_false]
              exact ⟨trivial, trivial⟩
            have TG : Hid ((dX zs i o = 0 → dY zs i o ≤ 0) → noBad zs n (i * n + (o + 1))) := fun e => by
              rw [show i * n + (o + 1) = i * n + o + 1 by omega]
              exact noBad_step HSO.out.good (by rw [hdm.1, hdm.2]; exact e)
            have TB : Hid (dX zs i o = 0 → 0 < dY zs i o → strB zs n = false) := fun e1 e2 => strB_f2 (not_strI_bad hio (by rw [hdm.1, hdm.2]; exact e1) (by rw [hdm.1, hdm.2]; exact e2))
            clear hq hdm edx edy HSO HRO
            generalize dX zs i o = D at *
            generalize dY zs i o = G at *
            by_cases hp : 0 < D
            · have HG : ∀ i, i < 1 * 2 → ((wr.alloc (.cells #[.int .i64 (nth zs (o * 4)), .int .i64 (nth zs (o * 4 + 1)), .int .i64 (nth zs (o * 4 + 2)), .int .i64 (nth zs (o * 4 + 3))] 97)).alloc (.cells #[.int .i64 (G), .int .i64 (D)] 101)).cell? ⟨wr.heap.size + 1, i, none⟩ = some (.int .i64 (nth [G, D] i)) := fun i hi => by
                have := cell_newP (wr.alloc (.cells #[.int .i64 (nth zs (o * 4)), .int .i64 (nth zs (o * 4 + 1)), .int .i64 (nth zs (o * 4 + 2)), .int .i64 (nth zs (o * 4 + 3))] 97)) (G) (D) 101 i hi
                rw [World.size_alloc] at this
                exact this
              have HGH := Lib.hid HG
              clear HG
              go_wp2
              go_quiet (fail)
              go_wp2_with (at_builtin; refine wpList_appR2 _ rfl (.tmp 47) (.tmp 51) 99 rfl W1.heap.size 101 2 16 #[.int .i64 0, .int .i64 0] Try.underlying99 infoSlope rfl (by decide) (by decide) _ (lowN zs n (i * n + o)) (lowTo zs n (i * n + o)) rfl (by exact HSA.out.low.alloc _) (wr.heap.size + 1) 1 1 [G, D] rfl rfl (by exact HGH.out) (by omega) W1.heap.size W1 (by exact below_drewN (HSA.out.below.alloc HSA.out.below.size _) _) (Nat.le_refl _) (by have := HSA.out.below.size; simp at this; simp; omega) _ rfl _ _ _ (by exact HSA.out.high.alloc _) HSA.out.apart ?_ (by omega); intro g' cap' w3 hown3 hb3 hoth3 hap3 hrow3)
              have HR3 : Hid (RowF w3 wo.heap.size 97 4 (ints [nth zs (i * 4), nth zs (i * 4 + 1), nth zs (i * 4 + 2), nth zs (i * 4 + 3)])) := hrow3 _ _ _ _ (by decide) (by exact HRA.out.alloc _)
              have HS3 : Hid (StrRel W1 zs n (i * n + (o + 1)) (.slice (some ⟨g', 0, none⟩) (lowN zs n (i * n + o) + 1) cap') u4 w3) := by
                have t1 := TL.out hp
                have t2 := TH'.out (by omega)
                refine ⟨?_, ?_, hap3, TG.out (fun e => by omega), hb3⟩
                · rw [← t1.1, ← t1.2]; exact hown3
                · rw [t2.1, t2.2]; exact hoth3
              go_wp2
              go_roundw
              case rel => exact ⟨o + 1, by omega, by go_num, HS3, HR3⟩
              case measure => simp [intOf]; omega
            by_cases hg : D < 0
            · have hp' : ¬ 0 < D := hp
              have n1 : IntKind.i64.wrap (-G) = -G := IntWalk.i64_in _ (by omega)
              have n2 : IntKind.i64.wrap (-D) = -D := IntWalk.i64_in _ (by omega)
              have HG : ∀ i, i < 1 * 2 → ((wr.alloc (.cells #[.int .i64 (nth zs (o * 4)), .int .i64 (nth zs (o * 4 + 1)), .int .i64 (nth zs (o * 4 + 2)), .int .i64 (nth zs (o * 4 + 3))] 97)).alloc (.cells #[.int .i64 (-G), .int .i64 (-D)] 101)).cell? ⟨wr.heap.size + 1, i, none⟩ = some (.int .i64 (nth [-G, -D] i)) := fun i hi => by
                have := cell_newP (wr.alloc (.cells #[.int .i64 (nth zs (o * 4)), .int .i64 (nth zs (o * 4 + 1)), .int .i64 (nth zs (o * 4 + 2)), .int .i64 (nth zs (o * 4 + 3))] 97)) (-G) (-D) 101 i hi
                rw [World.size_alloc] at this
                exact this
              have HGH := Lib.hid HG
              clear HG
              go_wp2
              go_quiet (fail)
              go_wp2_with (at_builtin; refine wpList_appR2 _ rfl (.tmp 56) (.tmp 62) 99 rfl W1.heap.size 101 2 16 #[.int .i64 0, .int .i64 0] Try.underlying99 infoSlope rfl (by decide) (by decide) _ (highN zs n (i * n + o)) (highTo zs n (i * n + o)) rfl (by exact HSA.out.high.alloc _) (wr.heap.size + 1) 1 1 [-G, -D] rfl rfl (by exact HGH.out) (by omega) W1.heap.size W1 (by exact below_drewN (HSA.out.below.alloc HSA.out.below.size _) _) (Nat.le_refl _) (by have := HSA.out.below.size; simp at this; simp; omega) _ rfl _ _ _ (by exact HSA.out.low.alloc _) HSA.out.apart.symm ?_ (by omega); intro g' cap' w3 hown3 hb3 hoth3 hap3 hrow3)
              have HR3 : Hid (RowF w3 wo.heap.size 97 4 (ints [nth zs (i * 4), nth zs (i * 4 + 1), nth zs (i * 4 + 2), nth zs (i * 4 + 3)])) := hrow3 _ _ _ _ (by decide) (by exact HRA.out.alloc _)
              have HS3 : Hid (StrRel W1 zs n (i * n + (o + 1)) u3 (.slice (some ⟨g', 0, none⟩) (highN zs n (i * n + o) + 1) cap') w3) := by
                have t1 := TH.out hg
                have t2 := TL'.out (by omega)
                refine ⟨?_, ?_, hap3.symm, TG.out (fun e => by omega), hb3⟩
                · rw [t2.1, t2.2]; exact hoth3
                · rw [← t1.1, ← t1.2]; exact hown3
              go_wp2
              go_roundw
              case rel => exact ⟨o + 1, by omega, by go_num, HS3, HR3⟩
              case measure => simp [intOf]; omega
            have hz0 : D = 0 := by omega
            by_cases hG : 0 < G
            · have HF := Lib.hid (TB.out hz0 hG)
              clear hz0
              go_wp2
              go_quiet (fail)
              go_wp2
              go_ret
              exact ⟨ret_bool HF.out.symm, B1.out.trans ((below_drewN HSA.out.below _).mono B1.out.size)⟩
            · have HS3 : Hid (StrRel W1 zs n (i * n + (o + 1)) u3 u4 (wr.alloc (.cells #[.int .i64 (nth zs (o * 4)), .int .i64 (nth zs (o * 4 + 1)), .int .i64 (nth zs (o * 4 + 2)), .int .i64 (nth zs (o * 4 + 3))] 97))) := by
                have t1 := TL'.out hp
                have t2 := TH'.out hg
                refine ⟨?_, ?_, HSA.out.apart, TG.out (fun _ => by omega), HSA.out.below⟩
                · rw [t1.1, t1.2]; exact HSA.out.low
                · rw [t2.1, t2.2]; exact HSA.out.high
              clear hz0
              go_wp2
              go_quiet (fail)
              go_wp2
              go_roundw
              case rel => exact ⟨o + 1, by omega, by go_num, HS3.out.drewN _, HRA.out.drewN _⟩
              case measure => simp [intOf]; omega
          · obtain rfl : o = n := by omega
            have HE : Hid (StrRel W1 zs o ((i + 1) * o) u3 u4 wr) := by
              have h := HSO.out
              rw [show i * o + o = (i + 1) * o by rw [Nat.add_mul]; omega] at h
              exact h
            go_wp2
            go_roundw
            case rel => exact ⟨i + 1, by omega, by go_num, HE⟩
            case measure => simp [intOf]; omega
      · obtain rfl : i = n := by omega
        obtain ⟨A3, c3, rfl, hc3⟩ := HS.out.low.slice
        obtain ⟨A4, c4, rfl, hc4⟩ := HS.out.high.slice
        have hll := lowN_le (zs := zs) (n := i) (i * i)
        have hhl := highN_le (zs := zs) (n := i) (i * i)
        have hnn : i * i ≤ 64 := by have := Nat.mul_le_mul hn8.2 hn8.2; omega
        have BW := Lib.hid (B1.out.trans (HS.out.below.mono B1.out.size))
        by_cases h0 : lowN zs i (i * i) = 0
        · have HF := Lib.hid (HT.out (strI_noLow HS.out.good h0))
          have t0 : ((lowN zs i (i * i) : Int) == 0) = true := by simp [h0]
          clear h0
          go_wp2
          go_ret
          exact ⟨ret_bool HF.out.symm, BW.out⟩
        have t0 : ((lowN zs i (i * i) : Int) == 0) = false := by simp [h0]
        by_cases h4 : highN zs i (i * i) = 0
        · have HF := Lib.hid (HT.out (strI_noHigh HS.out.good h4))
          have t4 : ((highN zs i (i * i) : Int) == 0) = true := by simp [h4]
          clear h4
          go_wp2
          go_ret
          exact ⟨ret_bool HF.out.symm, BW.out⟩
        have t4 : ((highN zs i (i * i) : Int) == 0) = false := by simp [h4]
        have KB := Lib.hid (strI_both (a := lowN zs i (i * i) - 1) (b := highN zs i (i * i) - 1) HS.out.good (by omega) (by omega))
        have OL := Lib.hid (low_ok HA'.out)
        have OH := Lib.hid (high_ok HA'.out)
        have QL := Lib.hid (bestTo_ok slMore OL.out (lowN zs i (i * i) - 1) (by omega))
        have QH := Lib.hid (bestTo_ok slLess OH.out (highN zs i (i * i) - 1) (by omega))
        have r3 := HS.out.low.recs
        have r4 := HS.out.high.recs
        have hcap3 := HS.out.low.cap
        have hcap4 := HS.out.high.cap
        go_wp2_with fail
        refine (bestMore_any _ _ _ _ _ r3 (by omega) (by omega) hc3 hcap3 OL.out).mono ?_
        rintro e w2 ⟨rfl, hb2⟩
        have r42 := r4.after hb2
        have B2 := Lib.hid (below_then BW.out hb2)
        clear hb2 r3 r4
        generalize (bestTo slMore (lowTo zs i (i * i)) (lowN zs i (i * i) - 1)).1 = m1 at *
        generalize (bestTo slMore (lowTo zs i (i * i)) (lowN zs i (i * i) - 1)).2 = m2 at *
        have hbA : Below w2.heap.size w2 (w2.alloc (.cells #[.int .i64 m1, .int .i64 m2] 101)) := (Below.refl _ _).alloc (Nat.le_refl _) _
        have r43 := r42.after hbA
        have bxm : Box2 (w2.alloc (.cells #[.int .i64 m1, .int .i64 m2] 101)) w2.heap.size (.int .i64 m1) (.int .i64 m2) := Box2.new _ _ _ _
        have B3 := Lib.hid (below_then B2.out hbA)
        clear r42 hbA
        go_wp2_with fail
        refine (bestLess_any _ _ _ _ _ r43 (by omega) (by omega) hc4 hcap4 OH.out).mono ?_
        rintro e w4 ⟨rfl, hb4⟩
        have bx4 := bxm.after hb4
        have B4 := Lib.hid (below_then B3.out hb4)
        clear hb4 r43 bxm
        generalize (bestTo slLess (highTo zs i (i * i)) (highN zs i (i * i) - 1)).1 = q1 at *
        generalize (bestTo slLess (highTo zs i (i * i)) (highN zs i (i * i) - 1)).2 = q2 at *
        have hbB' : Below w4.heap.size w4 (w4.alloc (.cells #[.int .i64 q1, .int .i64 q2] 101)) := (Below.refl _ _).alloc (Nat.le_refl _) _
        have bx5 := bx4.after hbB'
        have c0 := bx4.1
        have c1 := bx4.2.1
        have lt4 := bx4.2.2
        have B5 := Lib.hid (below_then B4.out hbB')
        clear hbB' bx5
        go_wp2_with fail
        refine (slopeLess_any q1 q2 m1 m2 _ QH.out QL.out).mono ?_
        rintro e w6 ⟨rfl, hb6⟩
        have B6 := Lib.hid (below_then B5.out hb6)
        have HFF : Hid ((!slLess q1 q2 m1 m2) = strB zs i) := by
          show (!slLess q1 q2 m1 m2) = strB zs i
          cases hs : slLess q1 q2 m1 m2
          · exact (HT.out (KB.out.1 hs)).symm
          · have : ¬ StrI zs i := fun hh => by have := KB.out.2 hh; rw [hs] at this; cases this
            exact (strB_f2 this).symm
        clear hb6
        go_wp2
        go_ret
        exact ⟨ret_bool HFF.out, B6.out⟩
end Go.Proofs.Ytdkdjjdedogcbaa
