/-
  Contract: the best one of a list of places.
-/
import Derived.Test.YtdjhiegolojoaaaWPlaces
import Derived.Test.YtdjhiegolojoaaaWPLess
import Derived.Test.YtdjhiegolojoaaaRow
import Derived.Outline
namespace Go.Proofs.Ytdjhiegolojoaaa
open Go.RowKit
set_option linter.unusedSimpArgs false

def plLI (a b c d : Int) : Bool := plLess a.toNat b.toNat c.toNat d.toNat
def plB (a b : Int) : Prop := (0 ≤ a ∧ a ≤ 2000000000000000) ∧ (0 ≤ b ∧ b ≤ 2000000000000000)
def plOkI (xs : List Int) (i : Nat) : Prop := plB (nth xs (i * 2)) (nth xs (i * 2 + 1))
def pbTo (bt : Int → Int → Int → Int → Bool) (xs : List Int) : Nat → Int × Int
  | 0 => (nth xs 0, nth xs 1)
  | k + 1 => if bt (nth xs ((k + 1) * 2)) (nth xs ((k + 1) * 2 + 1)) (pbTo bt xs k).1 (pbTo bt xs k).2 = true then (nth xs ((k + 1) * 2), nth xs ((k + 1) * 2 + 1)) else pbTo bt xs k
theorem pbTo_t {bt : Int → Int → Int → Int → Bool} {xs : List Int} {k : Nat} (h : bt (nth xs ((k + 1) * 2)) (nth xs ((k + 1) * 2 + 1)) (pbTo bt xs k).1 (pbTo bt xs k).2 = true) : pbTo bt xs (k + 1) = (nth xs ((k + 1) * 2), nth xs ((k + 1) * 2 + 1)) := by simp [pbTo, h]
theorem pbTo_f {bt : Int → Int → Int → Int → Bool} {xs : List Int} {k : Nat} (h : bt (nth xs ((k + 1) * 2)) (nth xs ((k + 1) * 2 + 1)) (pbTo bt xs k).1 (pbTo bt xs k).2 = false) : pbTo bt xs (k + 1) = ((pbTo bt xs k).1, (pbTo bt xs k).2) := by simp [pbTo, h]
theorem pbTo_ok (bt : Int → Int → Int → Int → Bool) {xs : List Int} {n : Nat} (h : ∀ i, i < n → plOkI xs i) : ∀ k, k < n → plB (pbTo bt xs k).1 (pbTo bt xs k).2
  | 0, hk => h 0 hk
  | k + 1, hk => by
    have ih := pbTo_ok bt h k (by omega)
    simp only [pbTo]
    split
    · exact h (k + 1) hk
    · exact ih
theorem placeLessI_any (a b c d : Int) (w : World) (h1 : plB a b) (h2 : plB c d) :
    Calls Try.prog 47 #[.agg #[.int .i64 a, .int .i64 b], .agg #[.int .i64 c, .int .i64 d]] w fun e w' => e = .returned (.bool (plLI a b c d)) ∧ Below w.heap.size w w' := by
  unfold plB at h1 h2
  obtain ⟨a', rfl⟩ : ∃ a' : Nat, a = (a' : Int) := ⟨a.toNat, by omega⟩
  obtain ⟨b', rfl⟩ : ∃ b' : Nat, b = (b' : Int) := ⟨b.toNat, by omega⟩
  obtain ⟨c', rfl⟩ : ∃ c' : Nat, c = (c' : Int) := ⟨c.toNat, by omega⟩
  obtain ⟨d', rfl⟩ : ∃ d' : Nat, d = (d' : Int) := ⟨d.toNat, by omega⟩
  exact placeLess_any a' b' c' d' w (by unfold okU; omega) (by unfold okU; omega) (by unfold okU; omega) (by unfold okU; omega)

set_option maxRecDepth 100000 in
set_option maxHeartbeats 1600000 in
theorem bestPlace_any (A : Option Addr) (n c : Nat) (xs : List Int) (w : World) (h : RecsAt w w.heap.size 2 A n xs) (hn : 1 ≤ n) (hn2 : n ≤ 1048576) (hc : n ≤ c) (hcm : c ≤ 9223372036854775807) (hok : ∀ i, i < n → plOkI xs i) :
    Calls Try.prog 46 #[.slice A n c, .func (.func 47) #[] #[]] w fun e w' => e = .returned (.agg #[.int .i64 (pbTo plLI xs (n - 1)).1, .int .i64 (pbTo plLI xs (n - 1)).2]) ∧ Below w.heap.size w w' := by
  obtain ⟨j, rfl⟩ : ∃ j, n = j + 1 := ⟨n - 1, by omega⟩
  obtain ⟨b, off, rfl, hbB, hcell⟩ := h.2 (by omega)
  have x0 : w.cell? ⟨b, off, none⟩ = some (.int .i64 (nth xs 0)) := hcell 0 (by omega)
  have x1 : w.cell? ⟨b, off + 1, none⟩ = some (.int .i64 (nth xs 1)) := hcell 1 (by omega)
  have HC := Lib.hid hcell
  have HOK := Lib.hid hok
  have HB0 := Lib.hid (((Below.refl w.heap.size w).alloc (Nat.le_refl _) (.cells #[.int .i64 0, .int .i64 0] 89)).alloc (by simp) (.cells #[.int .i64 (nth xs 0), .int .i64 (nth xs 1)] 89))
  have HR0 := Lib.hid ((RowF.of_row (World.rowIs_alloc w #[.int .i64 0, .int .i64 0] 89 (ints [0, 0]) (fun i hi => by simp at hi; match i, hi with | 0, _ => rfl | 1, _ => rfl))).alloc (.cells #[.int .i64 (nth xs 0), .int .i64 (nth xs 1)] 89))
  have HR1 : Hid (RowF ((w.alloc (.cells #[.int .i64 0, .int .i64 0] 89)).alloc (.cells #[.int .i64 (nth xs 0), .int .i64 (nth xs 1)] 89)) (w.heap.size + 1) 89 2 (ints [(pbTo plLI xs 0).1, (pbTo plLI xs 0).2])) := by
    have h := RowF.of_row (World.rowIs_alloc (w.alloc (.cells #[.int .i64 0, .int .i64 0] 89)) #[.int .i64 (nth xs 0), .int .i64 (nth xs 1)] 89 (ints [nth xs 0, nth xs 1]) (fun i hi => by simp at hi; match i, hi with | 0, _ => rfl | 1, _ => rfl))
    rw [World.size_alloc] at h
    exact h
  have hbl : b < w.heap.size + 1 := by omega
  have e1 : ((j + 1 : Nat) : Int) - 1 = (j : Int) := by omega
  clear h hcell hok
  by_cases hc1 : c = 1
  · obtain rfl : j = 0 := by omega
    subst hc1
    go_enter Try.func46, Try.ntmps46
    go_wp2
    go_loopw [14] (fun i wr => ∃ k : Nat, k ≤ 0 ∧ i = .int .i64 k ∧ Hid (RowF wr w.heap.size 89 2 (ints [0, 0])) ∧ Hid (RowF wr (w.heap.size + 1) 89 2 (ints [(pbTo plLI xs 0).1, (pbTo plLI xs 0).2])) ∧ Hid (Below w.heap.size w wr)) (fun i _ => 0 - (intOf i).toNat)
    case atStart => exact ⟨0, Nat.zero_le _, rfl, HR0, HR1, HB0⟩
    case round =>
      clear HB0 HR0 HR1 x0 x1
      obtain ⟨k, hk, rfl, HA, HQB, HBL⟩ := hrel
      by_cases hlt : k < 0
      · omega
      · obtain rfl : k = 0 := by omega
        have c0 : wr.cell? ⟨w.heap.size + 1, 0, none⟩ = some (.int .i64 (pbTo plLI xs 0).1) := HQB.out.cell (by omega)
        have c1 : wr.cell? ⟨w.heap.size + 1, 1, none⟩ = some (.int .i64 (pbTo plLI xs 0).2) := HQB.out.cell (by omega)
        have d0 : wr.cell? ⟨w.heap.size, 0, none⟩ = some (.int .i64 0) := HA.out.cell (by omega)
        have d1 : wr.cell? ⟨w.heap.size, 1, none⟩ = some (.int .i64 0) := HA.out.cell (by omega)
        have f0 := HA.out.frozen 0
        have f1 := HA.out.frozen 1
        go_wp2
        refine bodyPost_ret (v := .agg #[.int .i64 (pbTo plLI xs 0).1, .int .i64 (pbTo plLI xs 0).2]) (by simp [results, Try.results46, go_sem, *]) rfl ⟨by first | rfl | rw [Nat.add_sub_cancel], ?_⟩
        exact (HBL.out.setCell (p := ⟨w.heap.size, 0, none⟩) (Nat.le_refl _) _).setCell (p := ⟨w.heap.size, 1, none⟩) (Nat.le_refl _) _
  · have hc2 : 1 < c := by omega
    have hc3 : (1 : Int) < (c : Int) := by omega
    clear hc1
    go_enter Try.func46, Try.ntmps46
    go_wp2
    go_loopw [14] (fun i wr => ∃ k : Nat, k ≤ j ∧ i = .int .i64 k ∧ Hid (RowF wr w.heap.size 89 2 (ints [0, 0])) ∧ Hid (RowF wr (w.heap.size + 1) 89 2 (ints [(pbTo plLI xs k).1, (pbTo plLI xs k).2])) ∧ Hid (Below w.heap.size w wr)) (fun i _ => j - (intOf i).toNat)
    case atStart => exact ⟨0, Nat.zero_le _, rfl, HR0, HR1, HB0⟩
    case round =>
      clear HB0 HR0 HR1 x0 x1
      obtain ⟨k, hk, rfl, HA, HQB, HBL⟩ := hrel
      by_cases hlt : k < j
      · have y0 : wr.cell? ⟨b, off + 2 + k * 2, none⟩ = some (.int .i64 (nth xs ((k + 1) * 2))) := by
          have := (HBL.out.cell (p := ⟨b, off + (k + 1) * 2, none⟩) hbB).trans (HC.out ((k + 1) * 2) (by omega))
          rwa [show off + (k + 1) * 2 = off + 2 + k * 2 by omega] at this
        have y1 : wr.cell? ⟨b, off + 2 + k * 2 + 1, none⟩ = some (.int .i64 (nth xs ((k + 1) * 2 + 1))) := by
          have := (HBL.out.cell (p := ⟨b, off + ((k + 1) * 2 + 1), none⟩) hbB).trans (HC.out ((k + 1) * 2 + 1) (by omega))
          rwa [show off + ((k + 1) * 2 + 1) = off + 2 + k * 2 + 1 by omega] at this
        have hz := HBL.out.size
        have hgl := HQB.out.lt
        have c0 : wr.cell? ⟨w.heap.size + 1, 0, none⟩ = some (.int .i64 (pbTo plLI xs k).1) := HQB.out.cell (by omega)
        have c1 : wr.cell? ⟨w.heap.size + 1, 1, none⟩ = some (.int .i64 (pbTo plLI xs k).2) := HQB.out.cell (by omega)
        have hs1 := HOK.out (k + 1) (by omega)
        have hs2 := pbTo_ok plLI HOK.out k (by omega)
        unfold plOkI at hs1
        have TT := Lib.hid (pbTo_t (bt := plLI) (xs := xs) (k := k))
        have TF := Lib.hid (pbTo_f (bt := plLI) (xs := xs) (k := k))
        have HBA := Lib.hid (HBL.out.alloc hz (.cells #[.int .i64 (nth xs ((k + 1) * 2)), .int .i64 (nth xs ((k + 1) * 2 + 1))] 89))
        have HAA := Lib.hid (HA.out.alloc (.cells #[.int .i64 (nth xs ((k + 1) * 2)), .int .i64 (nth xs ((k + 1) * 2 + 1))] 89))
        have HBX := Lib.hid (HQB.out.alloc (.cells #[.int .i64 (nth xs ((k + 1) * 2)), .int .i64 (nth xs ((k + 1) * 2 + 1))] 89))
        have HNX := Lib.hid (RowF.of_row (World.rowIs_alloc wr #[.int .i64 (nth xs ((k + 1) * 2)), .int .i64 (nth xs ((k + 1) * 2 + 1))] 89 (ints [nth xs ((k + 1) * 2), nth xs ((k + 1) * 2 + 1)]) (fun i hi => by simp at hi; match i, hi with | 0, _ => rfl | 1, _ => rfl)))
        clear HA HQB HBL
        generalize nth xs ((k + 1) * 2) = p0 at *
        generalize nth xs ((k + 1) * 2 + 1) = p1 at *
        generalize (pbTo plLI xs k).1 = q0 at *
        generalize (pbTo plLI xs k).2 = q1 at *
        go_wp2_with fail
        refine (placeLessI_any p0 p1 q0 q1 _ hs1 hs2).mono ?_
        rintro e w2 ⟨rfl, hb2⟩
        have HB2 := Lib.hid (HBA.out.trans (hb2.mono (by simp; omega)))
        have HA2 := Lib.hid (HAA.out.after hb2)
        have HX2 := Lib.hid (HBX.out.after hb2)
        have rN := HNX.out.after hb2
        clear hb2 HBA HAA HBX HNX
        cases hbt : plLI p0 p1 q0 q1
        · have HF := Lib.hid (TF.out hbt)
          go_wp2
          go_roundw
          case rel => exact ⟨k + 1, by omega, by go_num, HA2, by rw [HF.out]; exact HX2, HB2⟩
          case measure => simp [intOf]; omega
        · have HF := Lib.hid (TT.out hbt)
          have n0 : w2.cell? ⟨wr.heap.size, 0, none⟩ = some (.int .i64 p0) := rN.cell (by simp)
          have n1 : w2.cell? ⟨wr.heap.size, 1, none⟩ = some (.int .i64 p1) := rN.cell (by simp)
          have b0 : w2.cell? ⟨w.heap.size + 1, 0, none⟩ = some (.int .i64 q0) := HX2.out.cell (by omega)
          have b1 : w2.cell? ⟨w.heap.size + 1, 1, none⟩ = some (.int .i64 q1) := HX2.out.cell (by omega)
          have g0 := HX2.out.frozen 0
          have g1 := HX2.out.frozen 1
          have HX3 := Lib.hid (((HX2.out.set 0 (.int .i64 p0)).set 1 (.int .i64 p1)).congr (f' := ints [p0, p1]) (fun i hi => by match i, hi with | 0, _ => rfl | 1, _ => rfl))
          have HA3 := Lib.hid ((HA2.out.set_other (p := ⟨w.heap.size + 1, 0, none⟩) (by simp) (.int .i64 p0)).set_other (p := ⟨w.heap.size + 1, 1, none⟩) (by simp) (.int .i64 p1))
          have HB3 := Lib.hid ((HB2.out.setCell (p := ⟨w.heap.size + 1, 0, none⟩) (by simp) (.int .i64 p0)).setCell (p := ⟨w.heap.size + 1, 1, none⟩) (by simp) (.int .i64 p1))
          clear rN
          go_wp2
          go_roundw
          case rel => exact ⟨k + 1, by omega, by go_num, HA3, by rw [HF.out]; exact HX3, HB3⟩
          case measure => simp [intOf]; omega
      · obtain rfl : k = j := by omega
        have c0 : wr.cell? ⟨w.heap.size + 1, 0, none⟩ = some (.int .i64 (pbTo plLI xs k).1) := HQB.out.cell (by omega)
        have c1 : wr.cell? ⟨w.heap.size + 1, 1, none⟩ = some (.int .i64 (pbTo plLI xs k).2) := HQB.out.cell (by omega)
        have d0 : wr.cell? ⟨w.heap.size, 0, none⟩ = some (.int .i64 0) := HA.out.cell (by omega)
        have d1 : wr.cell? ⟨w.heap.size, 1, none⟩ = some (.int .i64 0) := HA.out.cell (by omega)
        have f0 := HA.out.frozen 0
        have f1 := HA.out.frozen 1
        go_wp2
        refine bodyPost_ret (v := .agg #[.int .i64 (pbTo plLI xs k).1, .int .i64 (pbTo plLI xs k).2]) (by simp [results, Try.results46, go_sem, *]) rfl ⟨by first | rfl | rw [Nat.add_sub_cancel], ?_⟩
        exact (HBL.out.setCell (p := ⟨w.heap.size, 0, none⟩) (Nat.le_refl _) _).setCell (p := ⟨w.heap.size, 1, none⟩) (Nat.le_refl _) _
end Go.Proofs.Ytdjhiegolojoaaa

