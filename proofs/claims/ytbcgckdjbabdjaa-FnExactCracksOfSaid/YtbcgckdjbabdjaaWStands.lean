/-
  Contracts: RowsOf in the program; StandsWith in the program and in the reference.
-/
import Derived.Test.YtbcgckdjbabdjaaWRowsS
import Derived.Test.YtbcgckdjbabdjaaWWts
namespace Go.Proofs.Ytbcgckdjbabdjaa
open Go.RowKit
set_option linter.unusedSimpArgs false

theorem sum_wm (zs ls : List Int) (q : Nat) {m : Nat} : ∀ k, k ≤ m → sumW (wmL zs ls q m) k = leftW zs ls q k ∧ sumM (wmL zs ls q m) k = leftM zs ls q k
  | 0, _ => ⟨rfl, rfl⟩
  | k + 1, hk => by
    have ih := sum_wm zs ls q (m := m) k (by omega)
    have h := wmL_nth zs ls q (m := m) (k := k) (by omega)
    simp only [sumW, sumM, leftW, leftM, ih.1, ih.2, h.1, h.2]
    exact ⟨trivial, trivial⟩
set_option maxRecDepth 100000 in
set_option maxHeartbeats 1600000 in
theorem iRowsOf_any (A : Option Addr) (n c : Nat) (zs : List Int) (B : Option Addr) (q d : Nat) (ls : List Int) (w : World) (h : RecsAt w w.heap.size 4 A n zs) (hn : n ≤ 1048576) (hl : RecsAt w w.heap.size 3 B q ls) (hq : q ≤ 1048576) :
    Calls Try.prog 132 #[.agg #[.slice A n c], .slice B q d] w (RowsPost w (rowsN zs n ls q) (rowsZ zs n ls q)) := by
  have b0 : Below w.heap.size w (w.alloc (.cells #[.slice A n c] 31)) := (Below.refl _ _).alloc (Nat.le_refl _) _
  have h1 := h.after b0
  have l1 := hl.after b0
  have bx0 : Box (w.alloc (.cells #[.slice A n c] 31)) w.heap.size (.slice A n c) := Box.new _ _ _
  cases hL : loadsB zs n ls q
  · have HF := Lib.hid (rows_f hL)
    go_enter Try.func132, Try.ntmps132
    go_wp2_with fail
    refine (iLoadsOk_any _ _ _ zs _ _ _ ls _ h1 hn l1 hq).mono ?_
    rw [hL]
    rintro e w1 ⟨rfl, hb1⟩
    have HB1 := Lib.hid (below_then b0 hb1)
    clear hb1
    go_wp2
    go_ret
    exact ⟨_, rfl, by rw [HF.out.1, HF.out.2]; exact OwnR.nil _ _ _ _, HB1.out⟩
  · have HT := Lib.hid (rows_t hL)
    have hA := (loadsB_out hL).1
    have hn8 := (archB_out hA).1
    have HE := Lib.hid (rowsL_congr (zs := zs) (n := n) (W := sumW (wmL zs ls q (n - 1))) (M := sumM (wmL zs ls q (n - 1))) (W' := leftW zs ls q) (M' := leftM zs ls q) (fun k hk => sum_wm zs ls q k (by omega)))
    have HWM : Hid (WMok (sumW (wmL zs ls q (n - 1))) (sumM (wmL zs ls q (n - 1))) n) := fun k hk => by
      have e := sum_wm zs ls q (m := n - 1) k (by omega)
      rw [e.1, e.2]
      exact wmok_left hL k hk
    go_enter Try.func132, Try.ntmps132
    go_wp2_with fail
    refine (iLoadsOk_any _ _ _ zs _ _ _ ls _ h1 hn l1 hq).mono ?_
    rw [hL]
    rintro e w1 ⟨rfl, hb1⟩
    have HB1 := Lib.hid (below_then b0 hb1)
    have bx1 := bx0.after hb1
    have h2 := h1.after hb1
    have l2 := l1.after hb1
    have cx1 := bx1.1
    clear hb1 b0 h1 l1 bx0 h hl
    go_wp2
    go_region_held3 (fun w' => w'.cell? ⟨w.heap.size, 0, none⟩ = some (.slice A n c)) (first | exact cx1 | exact cx2 | exact cx3)
      ((first
        | (go_at_call 60; refine (weightsOf_any _ _ _ zs _ _ _ ls _ (by exact h2) (by exact l2) hL).mono ?_; rintro e w2 ⟨g2, rfl, hg2, hr2, hbx2⟩; have hb2 := below_undrew hbx2; have h3 := h2.after hb2; have bx2 := bx1.after hb2; have cx2 := bx2.1; have HB2 := Lib.hid (below_then HB1.out hb2); have s2 : RecsAt w2 w2.heap.size 2 (some ⟨g2, 0, none⟩) (n - 1) (wmL zs ls q (n - 1)) := hr2.recs (wmL_len _ _ _ _))
        | (go_at_call 61; refine (rowsFor_any _ _ _ zs _ _ _ _ (by exact h3) (by exact s2) hA HWM.out).mono ?_; rintro e w3 ⟨v3, rfl, ho3, hb3⟩; have cx3 := (bx2.after hb3).1; have HB3 := Lib.hid (below_then HB2.out hb3))))
    obtain ⟨A3, c3, rfl, _⟩ := ho3.slice
    have HO3 := Lib.hid (ho3.weaken HB2.out.size)
    clear ho3 hb3 hb2 hbx2 hr2 h2 h3 l2 s2 bx1 bx2 cx1 cx2 cx3
    go_wp2
    go_ret
    exact ⟨_, rfl, by rw [HT.out.1, HT.out.2, ← HE.out]; exact HO3.out, HB3.out⟩
/-- A thrust passes all joints. -/
def stB (zs : List Int) (n : Nat) (ls : List Int) (q : Nat) (H V M D : Int) : Bool := fulAll (rowsZ zs n ls q) (rowsN zs n ls q) H V M D
theorem rowsN_le (zs : List Int) (n : Nat) (ls : List Int) (q : Nat) : rowsN zs n ls q ≤ 17 := by
  unfold rowsN
  split
  · rename_i h
    have := (archB_out (loadsB_out h).1).1
    omega
  · omega

set_option maxRecDepth 100000 in
set_option maxHeartbeats 1600000 in
theorem iStandsWith_any (A : Option Addr) (n c : Nat) (zs : List Int) (B : Option Addr) (q d : Nat) (ls : List Int) (H V M D : Int) (w : World) (h : RecsAt w w.heap.size 4 A n zs) (hn : n ≤ 1048576) (hl : RecsAt w w.heap.size 3 B q ls) (hq : q ≤ 1048576) :
    Calls Try.prog 94 #[.agg #[.slice A n c], .slice B q d, .agg #[.int .i64 H, .int .i64 V, .int .i64 M, .int .i64 D]] w fun e w' => e = .returned (.bool (stB zs n ls q H V M D)) ∧ Below w.heap.size w w' := by
  have at0 := AT.start w (.slice A n c) H V M D 31 61
  have b0 := at_below w (.slice A n c) H V M D 31 61
  have h1 := h.after b0
  have l1 := hl.after b0
  have a0 := at0.arch.1
  obtain ⟨t0, t1, t2, t3⟩ := at0.thr.1
  have hr17 := rowsN_le zs n ls q
  have HST : Hid (stB zs n ls q H V M D = fulAll (rowsZ zs n ls q) (rowsN zs n ls q) H V M D) := rfl
  generalize stB zs n ls q H V M D = sb at *
  clear b0 h hl
  go_enter Try.func94, Try.ntmps94
  go_wp2
  go_region_held3 (fun w' => w'.cell? ⟨w.heap.size, 0, none⟩ = some (.slice A n c) ∧ (w'.cell? ⟨w.heap.size + 1, 0, none⟩ = some (.int .i64 H) ∧ w'.cell? ⟨w.heap.size + 1, 1, none⟩ = some (.int .i64 V) ∧ w'.cell? ⟨w.heap.size + 1, 2, none⟩ = some (.int .i64 M) ∧ w'.cell? ⟨w.heap.size + 1, 3, none⟩ = some (.int .i64 D))) (first | exact ⟨a0, t0, t1, t2, t3⟩ | exact ⟨at2.arch.1, at2.thr.1⟩ | exact ⟨at3.arch.1, at3.thr.1⟩)
    ((first
      | (go_at_call 132; refine (iRowsOf_any _ _ _ zs _ _ _ ls _ (by exact h1) hn (by exact l1) hq).mono ?_; rintro e w2 ⟨v2, rfl, ho2, hbx2⟩; have hb2 := below_undrew hbx2; have at2 := at0.after hb2; obtain ⟨A2, c2, rfl, _⟩ := ho2.slice; have r2 := ho2.recs)
      | (go_at_call 131; refine (iFulfillsAll_any _ _ _ _ _ _ _ _ _ (by exact r2) (by omega)).mono ?_; rintro e w3 ⟨rfl, hb3⟩; have at3 := at2.after hb3)))
  have HB3 := Lib.hid at3.below
  clear at0 at2 at3 hb2 hb3 hbx2 ho2 r2 a0 t0 t1 t2 t3 h1 l1
  go_wp2
  go_ret
  exact ⟨ret_bool (by rw [HST.out]), HB3.out⟩

set_option maxRecDepth 100000 in
set_option maxHeartbeats 1600000 in
theorem sStandsWith_any (A : Option Addr) (n c : Nat) (zs : List Int) (B : Option Addr) (q d : Nat) (ls : List Int) (H V M D : Int) (w : World) (h : RecsAt w w.heap.size 4 A n zs) (hn : n ≤ 1048576) (hl : RecsAt w w.heap.size 3 B q ls) (hq : q ≤ 1048576) :
    Calls Try.prog 92 #[.agg #[.slice A n c], .slice B q d, .agg #[.int .i64 H, .int .i64 V, .int .i64 M, .int .i64 D]] w fun e w' => e = .returned (.bool (stB zs n ls q H V M D)) ∧ Below w.heap.size w w' := by
  have at0 := AT.start w (.slice A n c) H V M D 31 61
  have b0 := at_below w (.slice A n c) H V M D 31 61
  have h1 := h.after b0
  have l1 := hl.after b0
  have a0 := at0.arch.1
  obtain ⟨t0, t1, t2, t3⟩ := at0.thr.1
  have hr17 := rowsN_le zs n ls q
  have HST : Hid (stB zs n ls q H V M D = fulAll (rowsZ zs n ls q) (rowsN zs n ls q) H V M D) := rfl
  generalize stB zs n ls q H V M D = sb at *
  clear b0 h hl
  go_enter Try.func92, Try.ntmps92
  go_wp2
  go_region_held3 (fun w' => w'.cell? ⟨w.heap.size, 0, none⟩ = some (.slice A n c) ∧ (w'.cell? ⟨w.heap.size + 1, 0, none⟩ = some (.int .i64 H) ∧ w'.cell? ⟨w.heap.size + 1, 1, none⟩ = some (.int .i64 V) ∧ w'.cell? ⟨w.heap.size + 1, 2, none⟩ = some (.int .i64 M) ∧ w'.cell? ⟨w.heap.size + 1, 3, none⟩ = some (.int .i64 D))) (first | exact ⟨a0, t0, t1, t2, t3⟩ | exact ⟨at2.arch.1, at2.thr.1⟩ | exact ⟨at3.arch.1, at3.thr.1⟩)
    ((first
      | (go_at_call 99; refine (sRowsOf_any _ _ _ zs _ _ _ ls _ (by exact h1) hn (by exact l1) hq).mono ?_; rintro e w2 ⟨v2, rfl, ho2, hbx2⟩; have hb2 := below_undrew hbx2; have at2 := at0.after hb2; obtain ⟨A2, c2, rfl, _⟩ := ho2.slice; have r2 := ho2.recs)
      | (go_at_call 127; refine (sFulfillsAll_any _ _ _ _ _ _ _ _ _ (by exact r2) (by omega)).mono ?_; rintro e w3 ⟨rfl, hb3⟩; have at3 := at2.after hb3)))
  have HB3 := Lib.hid at3.below
  clear at0 at2 at3 hb2 hb3 hbx2 ho2 r2 a0 t0 t1 t2 t3 h1 l1
  go_wp2
  go_ret
  exact ⟨ret_bool (by rw [HST.out]), HB3.out⟩
end Go.Proofs.Ytbcgckdjbabdjaa
