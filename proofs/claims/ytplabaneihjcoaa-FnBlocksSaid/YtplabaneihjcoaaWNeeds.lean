/-
  Contracts: NeedsOf (width and height of the box of each stone), in the reference and in the program.
-/
import Derived.Test.YtplabaneihjcoaaPairs
import Derived.Test.YtplabaneihjcoaaWStoneOf
import Derived.Test.YtplabaneihjcoaaWBoxI
namespace Go.Proofs.Ytplabaneihjcoaa
open Go.RowKit
set_option linter.unusedSimpArgs false
set_option linter.unusedVariables false

/-- How many stones; width and height of the k-th one's box. -/
def ndN (zs : List Int) (n : Nat) : Nat := if archB zs n = true then n - 1 else 0
def ndF (zs : List Int) (i : Nat) : Int := bxH (btwA zs (i / 2)) 4 (i % 2) - bxL (btwA zs (i / 2)) 4 (i % 2)
theorem ndF_0 (zs : List Int) (k : Nat) : ndF zs (k * 2) = bxH (btwA zs k) 4 0 - bxL (btwA zs k) 4 0 := by
  simp [ndF]
theorem ndF_1 (zs : List Int) (k : Nat) : ndF zs (k * 2 + 1) = bxH (btwA zs k) 4 1 - bxL (btwA zs k) 4 1 := by
  have h1 : (k * 2 + 1) / 2 = k := by omega
  have h2 : (k * 2 + 1) % 2 = 1 := by omega
  simp only [ndF, h1, h2]
theorem ndN_le (zs : List Int) (n : Nat) : ndN zs n ≤ 7 := by
  unfold ndN
  by_cases h : archB zs n = true
  · rw [if_pos h]; have := (archB_out h).1; omega
  · rw [if_neg h]; omega
/-- The box of a stone lies where points lie. -/
theorem bx_in {L : List Int} (h : stoneB L 4 = true) (o : Nat) (ho : o < 2) : (-60 ≤ bxH L 4 o ∧ bxH L 4 o ≤ 60) ∧ (-60 ≤ bxL L 4 o ∧ bxL L 4 o ≤ 60) := by
  have hp := (stoneB_out h).2.1
  have key : ∀ i, i < 4 → -60 ≤ nth L (i * 2 + o) ∧ nth L (i * 2 + o) ≤ 60 := fun i hi => by
    have := hp i hi
    rw [ptA, ptB_iff] at this
    match o, ho with
    | 0, _ => exact this.1
    | 1, _ => exact this.2
  obtain ⟨i, hi, e⟩ := mxTo_one L o 4
  obtain ⟨j, hj, e'⟩ := mnTo_one L o 4
  have h1 := key i (by omega)
  have h2 := key j (by omega)
  simp only [bxH, bxL, if_pos h, e, e']
  exact ⟨h1, h2⟩
theorem nd_stone {zs : List Int} {n k : Nat} (h : archB zs n = true) (hk : k + 1 < n) : stoneB (btwA zs k) 4 = true := by
  have := (archB_out h).2 k (by omega)
  simp only [pairB, Bool.and_eq_true] at this
  exact this.1

set_option maxHeartbeats 1600000 in
theorem iCount_any (A : Option Addr) (n c : Nat) (zs : List Int) (w : World) (h : RecsAt w w.heap.size 4 A n zs) (hn : n ≤ 1048576) :
    Calls Try.prog 49 #[.agg #[.slice A n c]] w fun e w' => e = .returned (.int .i64 (ndN zs n : Nat)) ∧ Below w.heap.size w w' := by
  have b0 : Below w.heap.size w (w.alloc (.cells #[.slice A n c] 48)) := (Below.refl _ _).alloc (Nat.le_refl _) _
  have HB := Lib.hid b0
  have HX := Lib.hid (rowF_new1S w (.slice A n c) 48)
  have h1 := h.after b0
  cases hA : archB zs n
  · have HN : Hid ((0 : Int) = ((ndN zs n : Nat) : Int)) := Lib.hid (by simp [ndN, hA])
    go_enter Try.func49, Try.ntmps49
    go_wp2_with fail
    refine (iArchOk_any _ _ _ zs _ h1 hn).mono ?_
    rw [hA]
    rintro e w1 ⟨rfl, hb1⟩
    have HB1 := Lib.hid (below_then HB.out hb1)
    clear hb1 b0 h h1
    go_wp2
    go_ret
    exact ⟨by rw [← HN.out]; rfl, HB1.out⟩
  · have hn8 := (archB_out hA).1
    have HN : Hid ((n : Int) - 1 = ((ndN zs n : Nat) : Int)) := Lib.hid (by simp only [ndN, hA, if_pos]; omega)
    have e1 : IntKind.i64.wrap ((n : Int) - 1) = (n : Int) - 1 := IntWalk.i64_in _ (by omega)
    go_enter Try.func49, Try.ntmps49
    go_wp2_with fail
    refine (iArchOk_any _ _ _ zs _ h1 hn).mono ?_
    rw [hA]
    rintro e w1 ⟨rfl, hb1⟩
    have HB1 := Lib.hid (below_then HB.out hb1)
    have c0 := (HX.out.after hb1).cell (i := 0) (by omega)
    clear hb1 b0 h h1
    go_wp2
    go_ret
    exact ⟨by rw [← HN.out]; rfl, HB1.out⟩

def NdPost (w : World) (zs : List Int) (n : Nat) (e : Ending) (w' : World) : Prop :=
  ∃ v, e = .returned v ∧ OwnSS w' w.heap.size v (ndN zs n) (ndF zs) ∧ Below w.heap.size w w'

set_option maxRecDepth 100000 in
set_option maxHeartbeats 3200000 in
theorem sNeedsOf_any (A : Option Addr) (n c : Nat) (zs : List Int) (w : World) (h : RecsAt w w.heap.size 4 A n zs) (hn : n ≤ 1048576) :
    Calls Try.prog 17 #[.agg #[.slice A n c]] w fun e w' => ∃ v, e = .returned v ∧ OwnSS w' w.heap.size v (ndN zs n) (ndF zs) ∧ Below w.heap.size w w' := by
  have b0 : Below w.heap.size w (w.alloc (.cells #[.slice A n c] 48)) := (Below.refl _ _).alloc (Nat.le_refl _) _
  have hz0 : (w.alloc (.cells #[.slice A n c] 48)).heap.size = w.heap.size + 1 := by simp
  have HH := Lib.hid h
  have H0 := Lib.hid b0
  have HXX := Lib.hid (rowF_new1S w (.slice A n c) 48)
  have HO0 : Hid (OwnC ((w.alloc (.cells #[.slice A n c] 48)).alloc (.cells #[] 25)) (w.heap.size + 1) 25 (.slice (some ⟨w.heap.size + 1, 0, none⟩) 0 0) 0 []) := Lib.hid (by
    have h := OwnC.new (w.alloc (.cells #[.slice A n c] 48)) 25
    rw [hz0] at h
    exact h)
  have HB0 : Hid (Below (w.heap.size + 1) (w.alloc (.cells #[.slice A n c] 48)) ((w.alloc (.cells #[.slice A n c] 48)).alloc (.cells #[] 25))) := Lib.hid ((Below.refl _ _).alloc (by rw [hz0]; exact Nat.le_refl _) _)
  clear h
  cases hA : archB zs n
  · have HN : Hid (ndN zs n = 0) := Lib.hid (by simp [ndN, hA])
    have HB1 : Hid (Below w.heap.size w ((w.alloc (.cells #[.slice A n c] 48)).alloc (.cells #[] 25))) := Lib.hid (b0.alloc b0.size _)
    have HS : Hid (OwnSS ((w.alloc (.cells #[.slice A n c] 48)).alloc (.cells #[] 25)) w.heap.size (.slice (some ⟨w.heap.size + 1, 0, none⟩) 0 0) (ndN zs n) (ndF zs)) := Lib.hid (by
      rw [HN.out]
      exact OwnSS.mono ⟨[], fun _ => 0, HO0.out, Prs.nil _ _ _⟩ (by omega))
    have a0 : ((w.alloc (.cells #[.slice A n c] 48)).alloc (.cells #[] 25)).cell? ⟨w.heap.size, 0, none⟩ = some (.slice A n c) := (HXX.out.alloc _).cell (i := 0) (by omega)
    have r0 : RecsAt ((w.alloc (.cells #[.slice A n c] 48)).alloc (.cells #[] 25)) ((w.alloc (.cells #[.slice A n c] 48)).alloc (.cells #[] 25)).heap.size 4 A n zs := HH.out.after HB1.out
    obtain ⟨W1, hW1⟩ : ∃ W1 : World, ((w.alloc (.cells #[.slice A n c] 48)).alloc (.cells #[] 25)) = W1 := ⟨_, rfl⟩
    rw [hW1] at HB1 HS a0 r0
    go_enter Try.func17, Try.ntmps17
    go_wp2
    go_loopw [3, 4] (fun v3 v4 wr => v3 = .slice (some ⟨w.heap.size + 1, 0, none⟩) 0 0 ∧ v4 = .int .i64 0 ∧ wr = W1) (fun _ _ _ => 0)
    case atStart => exact ⟨rfl, rfl, rfl⟩
    case round =>
      obtain ⟨rfl, rfl, rfl⟩ := hrel
      by_cases h1 : 1 < n
      · have i2 : (0 : Int) + 1 < (n : Int) := by omega
        have i3 : (1 : Int) < (n : Int) := by omega
        go_wp2_with fail
        refine (sArchOk_any _ _ _ zs _ r0 hn).mono ?_
        rw [hA]
        rintro e w1 ⟨rfl, hb1⟩
        have HS1 := Lib.hid (HS.out.after hb1)
        have HB2 := Lib.hid (below_then HB1.out hb1)
        clear hb1
        go_wp2
        go_ret
        exact ⟨_, rfl, HS1.out, HB2.out⟩
      · have i2 : ¬ (1 : Int) < (n : Int) := by omega
        go_wp2
        go_ret
        exact ⟨_, rfl, HS.out, HB1.out⟩
  · have hn8 := (archB_out hA).1
    have HN : Hid (ndN zs n = n - 1) := Lib.hid (by simp only [ndN, hA, if_pos])
    go_enter Try.func17, Try.ntmps17
    go_wp2
    go_loopw [3, 4] (fun v3 v4 wr => ∃ (k : Nat) (cs : List Value) (G : Nat → Nat), v4 = .int .i64 k ∧ k ≤ n - 1 ∧ Hid (Below (w.heap.size + 1) (w.alloc (.cells #[.slice A n c] 48)) wr) ∧ Hid (OwnC wr (w.heap.size + 1) 25 v3 k cs) ∧ Hid (Prs wr (w.heap.size + 1) cs k G (ndF zs))) (fun _ v4 _ => n - (intOf v4).toNat)
    case atStart => exact ⟨0, [], _, rfl, Nat.zero_le _, HB0, HO0, Lib.hid (Prs.nil _ _ _)⟩
    case round =>
      clear HB0 HO0
      obtain ⟨k, cs, G, rfl, hk, HB, HO, HR⟩ := hrel
      have HW := Lib.hid (below_then H0.out (show Below (w.alloc (.cells #[.slice A n c] 48)).heap.size _ wr by rw [hz0]; exact HB.out))
      have a0 : wr.cell? ⟨w.heap.size, 0, none⟩ = some (.slice A n c) := (HXX.out.below HB.out (by omega)).cell (i := 0) (by omega)
      have i1 : IntKind.i64.wrap ((k : Int) + 1) = (k : Int) + 1 := IntWalk.i64_in _ (by omega)
      have hz1 : w.heap.size + 1 ≤ wr.heap.size := by have := HB.out.size; rw [hz0] at this; exact this
      have r1 : RecsAt wr wr.heap.size 4 A n zs := HH.out.after HW.out
      by_cases he : k + 1 < n
      · have i2 : (k : Int) + 1 < (n : Int) := by omega
        go_wp2_with fail
        refine (sArchOk_any _ _ _ zs _ r1 hn).mono ?_
        rw [hA]
        rintro e w1 ⟨rfl, hb1⟩
        have HW1 := Lib.hid (below_then HW.out hb1)
        have r2 : RecsAt w1 w1.heap.size 4 A n zs := HH.out.after HW1.out
        have HB1 := Lib.hid (HB.out.trans (hb1.mono hz1))
        have a1 : w1.cell? ⟨w.heap.size, 0, none⟩ = some (.slice A n c) := (HXX.out.below HB1.out (by omega)).cell (i := 0) (by omega)
        have HO1 := Lib.hid (HO.out.below hb1)
        have HR1 := Lib.hid (HR.out.after hb1)
        clear hb1 HO HR HB r1 a0
        go_wp2_with fail
        refine (sStoneOf_in _ n _ zs k _ r2 hA he).mono ?_
        rintro e w2 ⟨gq, rfl, hr2, hb2⟩
        have hz2 : w.heap.size + 1 ≤ w1.heap.size := by have := HB1.out.size; rw [hz0] at this; exact this
        have HB2 := Lib.hid (HB1.out.trans (hb2.mono hz2))
        have HO2 := Lib.hid (HO1.out.below hb2)
        have HR2 := Lib.hid (HR1.out.after hb2)
        clear hb2 HO1 HR1 HB1 r2 a1 HW1 HW
        obtain ⟨lx, hlx⟩ : ∃ x, bxL (btwA zs k) 4 0 = x := ⟨_, rfl⟩
        obtain ⟨ly, hly⟩ : ∃ x, bxL (btwA zs k) 4 1 = x := ⟨_, rfl⟩
        obtain ⟨hx, hhx⟩ : ∃ x, bxH (btwA zs k) 4 0 = x := ⟨_, rfl⟩
        obtain ⟨hy, hhy⟩ : ∃ x, bxH (btwA zs k) 4 1 = x := ⟨_, rfl⟩
        have HX0 : Hid (hx - lx = ndF zs (k * 2)) := Lib.hid (by rw [ndF_0, hlx, hhx])
        have HX1 : Hid (hy - ly = ndF zs (k * 2 + 1)) := Lib.hid (by rw [ndF_1, hly, hhy])
        have q0 := bx_in (nd_stone hA he) 0 (by decide)
        have q1 := bx_in (nd_stone hA he) 1 (by decide)
        rw [hlx, hhx] at q0
        rw [hly, hhy] at q1
        have j0 : IntKind.i64.wrap (hx - lx) = hx - lx := IntWalk.i64_in _ (by omega)
        have j1 : IntKind.i64.wrap (hy - ly) = hy - ly := IntWalk.i64_in _ (by omega)
        go_wp2_with fail
        refine (sBoxOf_any _ 4 _ (btwA zs k) _ hr2).mono ?_
        rw [hlx, hly, hhx, hhy]
        rintro e w3 ⟨rfl, hb3⟩
        clear hlx hly hhx hhy q0 q1
        have hz3 : w.heap.size + 1 ≤ w2.heap.size := by have := HB2.out.size; rw [hz0] at this; exact this
        have HB3 := Lib.hid (HB2.out.trans (hb3.mono hz3))
        have HO3 := Lib.hid (HO2.out.below hb3)
        have HR3 := Lib.hid (HR2.out.after hb3)
        clear hb3 HO2 HR2 HB2 hr2
        have hbs3 : (w.heap.size + 1) ≤ w3.heap.size := by have := HB3.out.size; rw [hz0] at this; exact this
        have HBA : Hid (Below (w.heap.size + 1) (w.alloc (.cells #[.slice A n c] 48)) ((((w3.alloc (.cells #[.int .i64 lx, .int .i64 ly] 76)).alloc (.cells #[.int .i64 hx, .int .i64 hy] 76)).alloc (.cells #[.int .i64 (hx - lx), .int .i64 (hy - ly)] 3)).alloc (.cells #[(.slice (some ⟨w3.heap.size + 1 + 1, 0, none⟩) 2 2)] 25))) := Lib.hid ((((HB3.out.alloc hbs3 _).alloc (by simp; omega) _).alloc (by simp; omega) _).alloc (by simp; omega) _)
        have HCN : Hid (((((w3.alloc (.cells #[.int .i64 lx, .int .i64 ly] 76)).alloc (.cells #[.int .i64 hx, .int .i64 hy] 76)).alloc (.cells #[.int .i64 (hx - lx), .int .i64 (hy - ly)] 3)).alloc (.cells #[(.slice (some ⟨w3.heap.size + 1 + 1, 0, none⟩) 2 2)] 25)).cell? ⟨w3.heap.size + 1 + 1 + 1, 0, none⟩ = some (.slice (some ⟨w3.heap.size + 1 + 1, 0, none⟩) 2 2)) := Lib.hid (by
          have h := cell_new1 (((w3.alloc (.cells #[.int .i64 lx, .int .i64 ly] 76)).alloc (.cells #[.int .i64 hx, .int .i64 hy] 76)).alloc (.cells #[.int .i64 (hx - lx), .int .i64 (hy - ly)] 3)) (.slice (some ⟨w3.heap.size + 1 + 1, 0, none⟩) 2 2) 25
          simp only [World.size_alloc] at h
          exact h)
        have HRN : Hid (RowF ((((w3.alloc (.cells #[.int .i64 lx, .int .i64 ly] 76)).alloc (.cells #[.int .i64 hx, .int .i64 hy] 76)).alloc (.cells #[.int .i64 (hx - lx), .int .i64 (hy - ly)] 3)).alloc (.cells #[(.slice (some ⟨w3.heap.size + 1 + 1, 0, none⟩) 2 2)] 25)) (w3.heap.size + 1 + 1) 3 2 (ints [ndF zs (k * 2), ndF zs (k * 2 + 1)])) := Lib.hid (by
          rw [← HX0.out, ← HX1.out]
          have h := ints_new2 ((w3.alloc (.cells #[.int .i64 lx, .int .i64 ly] 76)).alloc (.cells #[.int .i64 hx, .int .i64 hy] 76)) (hx - lx) (hy - ly) 3 (ints [hx - lx, hy - ly]) rfl rfl
          simp only [World.size_alloc] at h
          exact h.alloc _)
        have hbs : (w.heap.size + 1) ≤ ((((w3.alloc (.cells #[.int .i64 lx, .int .i64 ly] 76)).alloc (.cells #[.int .i64 hx, .int .i64 hy] 76)).alloc (.cells #[.int .i64 (hx - lx), .int .i64 (hy - ly)] 3)).alloc (.cells #[(.slice (some ⟨w3.heap.size + 1 + 1, 0, none⟩) 2 2)] 25)).heap.size := by simp; omega
        have HRA : Hid (Prs ((((w3.alloc (.cells #[.int .i64 lx, .int .i64 ly] 76)).alloc (.cells #[.int .i64 hx, .int .i64 hy] 76)).alloc (.cells #[.int .i64 (hx - lx), .int .i64 (hy - ly)] 3)).alloc (.cells #[(.slice (some ⟨w3.heap.size + 1 + 1, 0, none⟩) 2 2)] 25)) (w.heap.size + 1) cs k G (ndF zs)) := Lib.hid (HR3.out.after (((((Below.refl _ _).alloc (Nat.le_refl _) _).alloc (by simp) _).alloc (by simp; omega) _).alloc (by simp; omega) _))
        have HUP : Hid (∀ i, i < k → G i < w3.heap.size + 1 + 1) := Lib.hid fun i hi => by have := (HR3.out.row i hi).2.2.lt; omega
        go_wp2_with (at_builtin; refine wpList_appC _ rfl (.tmp 27) (.tmp 39) 44 rfl (w.heap.size + 1) 25 24 (.slice none 0 0) Try.underlying44 infoIntSS rfl (by decide) _ k cs rfl (by exact (((HO3.out.alloc _).alloc _).alloc _).alloc _) (w3.heap.size + 1 + 1 + 1) 1 (.slice (some ⟨w3.heap.size + 1 + 1, 0, none⟩) 2 2) rfl rfl (by exact HCN.out) (by omega) (w.heap.size + 1) (w.alloc (.cells #[.slice A n c] 48)) (by exact HBA.out) (Nat.le_refl _) hbs ?_; intro g' cap' w5 hown5 hb5 hrow5)
        have HP5 : Hid (Prs w5 (w.heap.size + 1) (cs ++ [(.slice (some ⟨w3.heap.size + 1 + 1, 0, none⟩) 2 2)]) (k + 1) _ (ndF zs)) :=
          Lib.hid (Prs.snoc ⟨fun i hi => by obtain ⟨h1, h2, h3⟩ := HRA.out.row i hi; exact ⟨h1, h2, hrow5 _ _ _ _ (by decide) h3⟩, HRA.out.up⟩ HO3.out.2 (by omega) HUP.out (hrow5 _ _ _ _ (by decide) HRN.out))
        have HO5 := Lib.hid hown5
        have HB5 := Lib.hid hb5
        clear hown5 hb5 hrow5 HBA HCN HRN HRA HUP HO3 HR3 HB3
        go_wp2
        go_roundw
        case rel => exact ⟨k + 1, _, _, by go_num, by omega, HB5, HO5, HP5⟩
        case measure => simp [intOf]; omega
      · obtain rfl : k = n - 1 := by omega
        have i2 : ¬ ((n - 1 : Nat) : Int) + 1 < (n : Int) := by omega
        go_wp2
        go_ret
        exact ⟨_, rfl, by rw [HN.out]; exact OwnSS.mono ⟨cs, G, HO.out, HR.out⟩ (by omega), HW.out⟩

set_option maxRecDepth 100000 in
set_option maxHeartbeats 3200000 in
theorem iNeedsOf_any (A : Option Addr) (n c : Nat) (zs : List Int) (w : World) (h : RecsAt w w.heap.size 4 A n zs) (hn : n ≤ 1048576) :
    Calls Try.prog 19 #[.agg #[.slice A n c]] w fun e w' => ∃ v, e = .returned v ∧ OwnSS w' w.heap.size v (ndN zs n) (ndF zs) ∧ Below w.heap.size w w' := by
  have b0 : Below w.heap.size w (w.alloc (.cells #[.slice A n c] 48)) := (Below.refl _ _).alloc (Nat.le_refl _) _
  have hz0 : (w.alloc (.cells #[.slice A n c] 48)).heap.size = w.heap.size + 1 := by simp
  have HH := Lib.hid h
  have H0 := Lib.hid b0
  have HXX := Lib.hid (rowF_new1S w (.slice A n c) 48)
  have r0 : RecsAt (w.alloc (.cells #[.slice A n c] 48)) (w.alloc (.cells #[.slice A n c] 48)).heap.size 4 A n zs := h.after b0
  clear h
  have hm := ndN_le zs n
  go_enter Try.func19, Try.ntmps19
  go_wp2_with fail
  refine (iCount_any _ _ _ zs _ r0 hn).mono ?_
  rintro e wi ⟨rfl, hbi⟩
  have HBI : Hid (Below (w.heap.size + 1) (w.alloc (.cells #[.slice A n c] 48)) wi) := Lib.hid (by rw [hz0] at hbi; exact hbi)
  clear hbi r0
  go_wp2
  go_loopw [3, 9] (fun v3 v9 wr => ∃ (k : Nat) (cs : List Value) (G : Nat → Nat), v9 = .int .i64 k ∧ k ≤ ndN zs n ∧ Hid (Below (w.heap.size + 1) (w.alloc (.cells #[.slice A n c] 48)) wr) ∧ Hid (OwnC wr (w.heap.size + 1) 25 v3 k cs) ∧ Hid (Prs wr (w.heap.size + 1) cs k G (ndF zs))) (fun _ v9 _ => ndN zs n - (intOf v9).toNat)
  case atStart => exact ⟨0, [], _, rfl, Nat.zero_le _, HBI, Lib.hid ⟨World.ownsRow_nil _ _ _ _, rfl⟩, Lib.hid (Prs.nil _ _ _)⟩
  case round =>
    clear HBI
    obtain ⟨k, cs, G, rfl, hk, HB, HO, HR⟩ := hrel
    have HW := Lib.hid (below_then H0.out (show Below (w.alloc (.cells #[.slice A n c] 48)).heap.size _ wr by rw [hz0]; exact HB.out))
    have a0 : wr.cell? ⟨w.heap.size, 0, none⟩ = some (.slice A n c) := (HXX.out.below HB.out (by omega)).cell (i := 0) (by omega)
    have i1 : IntKind.i64.wrap ((k : Int) + 1) = (k : Int) + 1 := IntWalk.i64_in _ (by omega)
    have hz1 : w.heap.size + 1 ≤ wr.heap.size := by have := HB.out.size; rw [hz0] at this; exact this
    have r1 : RecsAt wr wr.heap.size 4 A n zs := HH.out.after HW.out
    by_cases hek : k < ndN zs n
    · have hA : archB zs n = true := by
        cases hA : archB zs n
        · simp [ndN, hA] at hek
        · rfl
      have he : k + 1 < n := by have : ndN zs n = n - 1 := by simp only [ndN, hA, if_pos]
                                omega
      have i2 : (k : Int) < (ndN zs n : Int) := by omega
      go_wp2_with fail
      refine (iStoneOf_in _ n _ zs k _ r1 hA he).mono ?_
      rintro e w2 ⟨gq, rfl, hr2, hb2⟩
      have HB2 := Lib.hid (HB.out.trans (hb2.mono hz1))
      have HO2 := Lib.hid (HO.out.below hb2)
      have HR2 := Lib.hid (HR.out.after hb2)
      clear hb2 HO HR HB r1 a0 HW
      obtain ⟨lx, hlx⟩ : ∃ x, bxL (btwA zs k) 4 0 = x := ⟨_, rfl⟩
      obtain ⟨ly, hly⟩ : ∃ x, bxL (btwA zs k) 4 1 = x := ⟨_, rfl⟩
      obtain ⟨hx, hhx⟩ : ∃ x, bxH (btwA zs k) 4 0 = x := ⟨_, rfl⟩
      obtain ⟨hy, hhy⟩ : ∃ x, bxH (btwA zs k) 4 1 = x := ⟨_, rfl⟩
      have HX0 : Hid (hx - lx = ndF zs (k * 2)) := Lib.hid (by rw [ndF_0, hlx, hhx])
      have HX1 : Hid (hy - ly = ndF zs (k * 2 + 1)) := Lib.hid (by rw [ndF_1, hly, hhy])
      have q0 := bx_in (nd_stone hA he) 0 (by decide)
      have q1 := bx_in (nd_stone hA he) 1 (by decide)
      rw [hlx, hhx] at q0
      rw [hly, hhy] at q1
      have j0 : IntKind.i64.wrap (hx - lx) = hx - lx := IntWalk.i64_in _ (by omega)
      have j1 : IntKind.i64.wrap (hy - ly) = hy - ly := IntWalk.i64_in _ (by omega)
      go_wp2_with fail
      refine (iBoxOf_any _ 4 _ (btwA zs k) _ hr2).mono ?_
      rw [hlx, hly, hhx, hhy]
      rintro e w3 ⟨rfl, hb3⟩
      clear hlx hly hhx hhy q0 q1
      have hz3 : w.heap.size + 1 ≤ w2.heap.size := by have := HB2.out.size; rw [hz0] at this; exact this
      have HB3 := Lib.hid (HB2.out.trans (hb3.mono hz3))
      have HO3 := Lib.hid (HO2.out.below hb3)
      have HR3 := Lib.hid (HR2.out.after hb3)
      clear hb3 HO2 HR2 HB2 hr2
      have hbs3 : (w.heap.size + 1) ≤ w3.heap.size := by have := HB3.out.size; rw [hz0] at this; exact this
      have HBA : Hid (Below (w.heap.size + 1) (w.alloc (.cells #[.slice A n c] 48)) ((((w3.alloc (.cells #[.int .i64 lx, .int .i64 ly] 76)).alloc (.cells #[.int .i64 hx, .int .i64 hy] 76)).alloc (.cells #[.int .i64 (hx - lx), .int .i64 (hy - ly)] 3)).alloc (.cells #[(.slice (some ⟨w3.heap.size + 1 + 1, 0, none⟩) 2 2)] 25))) := Lib.hid ((((HB3.out.alloc hbs3 _).alloc (by simp; omega) _).alloc (by simp; omega) _).alloc (by simp; omega) _)
      have HCN : Hid (((((w3.alloc (.cells #[.int .i64 lx, .int .i64 ly] 76)).alloc (.cells #[.int .i64 hx, .int .i64 hy] 76)).alloc (.cells #[.int .i64 (hx - lx), .int .i64 (hy - ly)] 3)).alloc (.cells #[(.slice (some ⟨w3.heap.size + 1 + 1, 0, none⟩) 2 2)] 25)).cell? ⟨w3.heap.size + 1 + 1 + 1, 0, none⟩ = some (.slice (some ⟨w3.heap.size + 1 + 1, 0, none⟩) 2 2)) := Lib.hid (by
        have h := cell_new1 (((w3.alloc (.cells #[.int .i64 lx, .int .i64 ly] 76)).alloc (.cells #[.int .i64 hx, .int .i64 hy] 76)).alloc (.cells #[.int .i64 (hx - lx), .int .i64 (hy - ly)] 3)) (.slice (some ⟨w3.heap.size + 1 + 1, 0, none⟩) 2 2) 25
        simp only [World.size_alloc] at h
        exact h)
      have HRN : Hid (RowF ((((w3.alloc (.cells #[.int .i64 lx, .int .i64 ly] 76)).alloc (.cells #[.int .i64 hx, .int .i64 hy] 76)).alloc (.cells #[.int .i64 (hx - lx), .int .i64 (hy - ly)] 3)).alloc (.cells #[(.slice (some ⟨w3.heap.size + 1 + 1, 0, none⟩) 2 2)] 25)) (w3.heap.size + 1 + 1) 3 2 (ints [ndF zs (k * 2), ndF zs (k * 2 + 1)])) := Lib.hid (by
        rw [← HX0.out, ← HX1.out]
        have h := ints_new2 ((w3.alloc (.cells #[.int .i64 lx, .int .i64 ly] 76)).alloc (.cells #[.int .i64 hx, .int .i64 hy] 76)) (hx - lx) (hy - ly) 3 (ints [hx - lx, hy - ly]) rfl rfl
        simp only [World.size_alloc] at h
        exact h.alloc _)
      have hbs : (w.heap.size + 1) ≤ ((((w3.alloc (.cells #[.int .i64 lx, .int .i64 ly] 76)).alloc (.cells #[.int .i64 hx, .int .i64 hy] 76)).alloc (.cells #[.int .i64 (hx - lx), .int .i64 (hy - ly)] 3)).alloc (.cells #[(.slice (some ⟨w3.heap.size + 1 + 1, 0, none⟩) 2 2)] 25)).heap.size := by simp; omega
      have HRA : Hid (Prs ((((w3.alloc (.cells #[.int .i64 lx, .int .i64 ly] 76)).alloc (.cells #[.int .i64 hx, .int .i64 hy] 76)).alloc (.cells #[.int .i64 (hx - lx), .int .i64 (hy - ly)] 3)).alloc (.cells #[(.slice (some ⟨w3.heap.size + 1 + 1, 0, none⟩) 2 2)] 25)) (w.heap.size + 1) cs k G (ndF zs)) := Lib.hid (HR3.out.after (((((Below.refl _ _).alloc (Nat.le_refl _) _).alloc (by simp) _).alloc (by simp; omega) _).alloc (by simp; omega) _))
      have HUP : Hid (∀ i, i < k → G i < w3.heap.size + 1 + 1) := Lib.hid fun i hi => by have := (HR3.out.row i hi).2.2.lt; omega
      go_wp2_with (at_builtin; refine wpList_appC _ rfl (.tmp 19) (.tmp 31) 44 rfl (w.heap.size + 1) 25 24 (.slice none 0 0) Try.underlying44 infoIntSS rfl (by decide) _ k cs rfl (by exact (((HO3.out.alloc _).alloc _).alloc _).alloc _) (w3.heap.size + 1 + 1 + 1) 1 (.slice (some ⟨w3.heap.size + 1 + 1, 0, none⟩) 2 2) rfl rfl (by exact HCN.out) (by omega) (w.heap.size + 1) (w.alloc (.cells #[.slice A n c] 48)) (by exact HBA.out) (Nat.le_refl _) hbs ?_; intro g' cap' w5 hown5 hb5 hrow5)
      have HP5 : Hid (Prs w5 (w.heap.size + 1) (cs ++ [(.slice (some ⟨w3.heap.size + 1 + 1, 0, none⟩) 2 2)]) (k + 1) _ (ndF zs)) :=
        Lib.hid (Prs.snoc ⟨fun i hi => by obtain ⟨h1, h2, h3⟩ := HRA.out.row i hi; exact ⟨h1, h2, hrow5 _ _ _ _ (by decide) h3⟩, HRA.out.up⟩ HO3.out.2 (by omega) HUP.out (hrow5 _ _ _ _ (by decide) HRN.out))
      have HO5 := Lib.hid hown5
      have HB5 := Lib.hid hb5
      clear hown5 hb5 hrow5 HBA HCN HRN HRA HUP HO3 HR3 HB3
      go_wp2
      go_roundw
      case rel => exact ⟨k + 1, _, _, by go_num, by omega, HB5, HO5, HP5⟩
      case measure => simp [intOf]; omega
    · obtain rfl : k = ndN zs n := by omega
      have i2 : ¬ ((ndN zs n : Nat) : Int) < ((ndN zs n : Nat) : Int) := by omega
      go_wp2
      go_ret
      exact ⟨_, rfl, OwnSS.mono ⟨cs, G, HO.out, HR.out⟩ (by omega), HW.out⟩
end Go.Proofs.Ytplabaneihjcoaa
