/-
  Contracts: CracksOf in the program and in the reference.
-/
import Derived.Test.YtbcgckdjbabdjaaWStands
import Derived.Test.YtbcgckdjbabdjaaWMAt
import Derived.Test.YtbcgckdjbabdjaaApp
namespace Go.Proofs.Ytbcgckdjbabdjaa
open Go.RowKit
set_option linter.unusedSimpArgs false

section
variable (zs : List Int) (n : Nat) (ls : List Int) (q : Nat) (H V M D : Int)
/-- The note at joint k. -/
def crAt (k : Nat) : Int := if mIn zs n ls q H V M D (k : Int) = 0 then 1 else if mOut zs n ls q H V M D (k : Int) = 0 then 2 else 0
def crL (k : Nat) : List Int := (List.range k).map (crAt zs n ls q H V M D)
/-- The notes for a thrust. -/
def crRes : List Int := if stB zs n ls q H V M D = true then crL zs n ls q H V M D n else []
end
section
variable {zs : List Int} {n : Nat} {ls : List Int} {q : Nat} {H V M D : Int}
theorem crL_len (k : Nat) : (crL zs n ls q H V M D k).length = k := by simp [crL]
theorem crL_step (k : Nat) : crL zs n ls q H V M D k ++ [crAt zs n ls q H V M D k] = crL zs n ls q H V M D (k + 1) := by simp [crL, List.range_succ]
theorem crRes_t (h : stB zs n ls q H V M D = true) : crRes zs n ls q H V M D = crL zs n ls q H V M D n := by simp [crRes, h]
theorem crRes_f (h : stB zs n ls q H V M D = false) : crRes zs n ls q H V M D = [] := by simp [crRes, h]
theorem crRes_len : (crRes zs n ls q H V M D).length ≤ n := by
  unfold crRes
  split
  · rw [crL_len]; exact Nat.le_refl _
  · simp
end
def CrPost (w : World) (L : List Int) (e : Ending) (w' : World) : Prop :=
  ∃ A l c, e = .returned (.slice A l c) ∧ OwnV w' w.heap.size 3 (.slice A l c) L ∧ Below w.heap.size w w'
theorem OwnV.weakenV {w : World} {base base' : Nat} {E : TypeId} {v : Value} {xs : List Int} (h : OwnV w base E v xs) (hb : base' ≤ base) : OwnV w base' E v xs := by
  refine ⟨h.1, ?_⟩
  rcases h.2 with h2 | ⟨g, cap, cur, h1, h2, h3⟩
  · exact .inl h2
  · exact .inr ⟨g, cap, cur, h1, Nat.le_trans hb h2, h3⟩
theorem OwnV.belowV {w w' : World} {base : Nat} {E : TypeId} {v : Value} {xs : List Int} (h : OwnV w base E v xs) (hb : Below w.heap.size w w') : OwnV w' base E v xs := by
  refine ⟨h.1, ?_⟩
  rcases h.2 with h2 | ⟨g, cap, cur, h1, h2, h3, hr⟩
  · exact .inl h2
  · refine .inr ⟨g, cap, cur, h1, h2, (hb.block g ?_).trans h3, hr⟩
    exact (Array.getElem?_eq_some_iff.1 h3).1
theorem OwnV.sliceV {w : World} {base : Nat} {E : TypeId} {v : Value} {xs : List Int} (h : OwnV w base E v xs) : ∃ A l c, v = .slice A l c := by
  rcases h.form with ⟨rfl, _⟩ | ⟨g, cap, rfl, _⟩ <;> exact ⟨_, _, _, rfl⟩

theorem AT.keep2 {w wr w1 : World} {v : Value} {H V M D : Int} (h : AT w wr v H V M D) (hb : Below (w.heap.size + 2) wr w1) : AT w w1 v H V M D :=
  ⟨⟨(hb.cell (p := ⟨w.heap.size, 0, none⟩) (by simp)).trans h.arch.1, Nat.lt_of_lt_of_le h.arch.2 hb.size⟩,
   ⟨⟨(hb.cell (p := ⟨w.heap.size + 1, 0, none⟩) (by simp)).trans h.thr.1.1, (hb.cell (p := ⟨w.heap.size + 1, 1, none⟩) (by simp)).trans h.thr.1.2.1, (hb.cell (p := ⟨w.heap.size + 1, 2, none⟩) (by simp)).trans h.thr.1.2.2.1, (hb.cell (p := ⟨w.heap.size + 1, 3, none⟩) (by simp)).trans h.thr.1.2.2.2⟩, Nat.lt_of_lt_of_le h.thr.2 hb.size⟩,
   h.below.trans (hb.mono (by omega))⟩
set_option maxRecDepth 100000 in
set_option maxHeartbeats 3200000 in
theorem iCracksOf_any (A : Option Addr) (n c : Nat) (zs : List Int) (B : Option Addr) (q d : Nat) (ls : List Int) (H V M D : Int) (w : World) (h : RecsAt w w.heap.size 4 A n zs) (hn : n ≤ 1048576) (hl : RecsAt w w.heap.size 3 B q ls) (hq : q ≤ 1048576) :
    Calls Try.prog 43 #[.agg #[.slice A n c], .slice B q d, .agg #[.int .i64 H, .int .i64 V, .int .i64 M, .int .i64 D]] w (CrPost w (crRes zs n ls q H V M D)) := by
  have at0 := AT.start w (.slice A n c) H V M D 31 61
  have b0 := at_below w (.slice A n c) H V M D 31 61
  have h1 := h.after b0
  have l1 := hl.after b0
  have HAT := Lib.hid at0
  have HH := Lib.hid h
  have HL := Lib.hid hl
  have hs0 : ((w.alloc (.cells #[.slice A n c] 31)).alloc (.cells #[.int .i64 H, .int .i64 V, .int .i64 M, .int .i64 D] 61)).heap.size = w.heap.size + 2 := by simp
  clear at0 b0 h hl
  cases hS : stB zs n ls q H V M D
  · have HF := Lib.hid (crRes_f hS)
    clear hs0
    go_enter Try.func43, Try.ntmps43
    go_wp2_with fail
    refine (iStandsWith_any _ _ _ zs _ _ _ ls _ _ _ _ _ h1 hn l1 hq).mono ?_
    rw [hS]
    rintro e w1 ⟨rfl, hb1⟩
    have HB1 := Lib.hid (HAT.out.after hb1).below
    clear hb1
    go_wp2
    go_ret
    exact ⟨_, _, _, rfl, by rw [HF.out]; exact OwnV.nil _ _ _, HB1.out⟩
  have HT := Lib.hid (crRes_t hS)
  have HS0 := Lib.hid hs0
  clear hs0
  go_enter Try.func43, Try.ntmps43
  go_wp2_with fail
  refine (iStandsWith_any _ _ _ zs _ _ _ ls _ _ _ _ _ h1 hn l1 hq).mono ?_
  rw [hS]
  rintro e W1 ⟨rfl, hb1⟩
  have HA1 := Lib.hid (HAT.out.after hb1)
  have a1 := HA1.out.arch.1
  have hz1 := hb1.size
  rw [HS0.out] at hz1
  clear hb1 h1 l1 HAT
  go_wp2
  go_loopw [7, 19] (fun v7 v19 wr => ∃ (k : Nat), k ≤ n ∧ v19 = .int .i64 k ∧ Hid (OwnV wr W1.heap.size 3 v7 (crL zs n ls q H V M D k)) ∧ Hid (Below W1.heap.size W1 wr)) (fun _ v19 _ => n - (intOf v19).toNat)
  case atStart => exact ⟨0, Nat.zero_le _, rfl, Lib.hid (OwnV.nil _ _ _), Lib.hid (Below.refl _ _)⟩
  case round =>
    clear a1
    obtain ⟨k, hk, rfl, HO, HB⟩ := hrel
    have HA := Lib.hid (HA1.out.after HB.out)
    have hz := HB.out.size
    by_cases hlt : k < n
    · have a0 := HA.out.arch.1
      have t0 := HA.out.thr.1.1
      have t1 := HA.out.thr.1.2.1
      have t2 := HA.out.thr.1.2.2.1
      have t3 := HA.out.thr.1.2.2.2
      have r1 := HH.out.below HA.out.below |>.mono HA.out.below.size
      have r2 := HL.out.below HA.out.below |>.mono HA.out.below.size
      have HSTEP := Lib.hid (crL_step (zs := zs) (n := n) (ls := ls) (q := q) (H := H) (V := V) (M := M) (D := D) k)
      have HAT : Hid (∀ x y, mIn zs n ls q H V M D (k : Int) = x → mOut zs n ls q H V M D (k : Int) = y → crAt zs n ls q H V M D k = if x = 0 then 1 else if y = 0 then 2 else 0) := fun x y h1 h2 => by subst h1; subst h2; rfl
      go_wp2_with fail
      refine (iMomentsAt_any _ _ _ zs _ _ _ ls _ _ _ _ _ _ r1 hn r2 hq).mono ?_
      generalize mIn zs n ls q H V M D (k : Int) = x at *
      generalize mOut zs n ls q H V M D (k : Int) = y at *
      have HE := Lib.hid (HAT.out x y rfl rfl)
      rintro e w2 ⟨rfl, hb2⟩
      have HO2 := Lib.hid (HO.out.belowV hb2)
      have HB2 := Lib.hid (HB.out.trans (hb2.mono hz))
      have hz2 := HB2.out.size
      clear hb2 a0 t0 t1 t2 t3 r1 r2 HO HB HA HAT
      by_cases hx : x = 0
      · subst hx
        have HX := Lib.hid (show crL zs n ls q H V M D k ++ [1] = crL zs n ls q H V M D (k + 1) by rw [← HSTEP.out, HE.out]; rfl)
        have HBA := Lib.hid (HB2.out.alloc hz2 (.cells #[.int .i64 1] 3))
        go_wp2_with (at_builtin; refine wpList_app _ rfl (.tmp 36) (.tmp 37) 25 rfl W1.heap.size 3 Try.underlying25 infoInt _ (crL zs n ls q H V M D k) rfl (by exact HO2.out.alloc _) w2.heap.size 1 1 rfl (by exact cell_new1 _ _ _) W1.heap.size W1 (by exact HBA.out) (Nat.le_refl _) (by simp; omega) k (by exact crL_len k) (by omega) _ HX.out ?_; intro g' cap' w3 hown3 hb3)
        go_wp2
        go_roundw
        case rel => exact ⟨k + 1, by omega, by go_num, hown3, hb3⟩
        case measure => simp [intOf]; omega
      · have hxb : (x == 0) = false := by simpa using hx
        by_cases hy : y = 0
        · subst hy
          have HX := Lib.hid (show crL zs n ls q H V M D k ++ [2] = crL zs n ls q H V M D (k + 1) by rw [← HSTEP.out, HE.out, if_neg hx]; rfl)
          have HBA := Lib.hid (HB2.out.alloc hz2 (.cells #[.int .i64 2] 3))
          go_wp2_with (at_builtin; refine wpList_app _ rfl (.tmp 42) (.tmp 43) 25 rfl W1.heap.size 3 Try.underlying25 infoInt _ (crL zs n ls q H V M D k) rfl (by exact HO2.out.alloc _) w2.heap.size 1 2 rfl (by exact cell_new1 _ _ _) W1.heap.size W1 (by exact HBA.out) (Nat.le_refl _) (by simp; omega) k (by exact crL_len k) (by omega) _ HX.out ?_; intro g' cap' w3 hown3 hb3)
          go_wp2
          go_roundw
          case rel => exact ⟨k + 1, by omega, by go_num, hown3, hb3⟩
          case measure => simp [intOf]; omega
        · have hyb : (y == 0) = false := by simpa using hy
          have HX := Lib.hid (show crL zs n ls q H V M D k ++ [0] = crL zs n ls q H V M D (k + 1) by rw [← HSTEP.out, HE.out, if_neg hx, if_neg hy])
          have HBA := Lib.hid (HB2.out.alloc hz2 (.cells #[.int .i64 0] 3))
          go_wp2_with (at_builtin; refine wpList_app _ rfl (.tmp 30) (.tmp 31) 25 rfl W1.heap.size 3 Try.underlying25 infoInt _ (crL zs n ls q H V M D k) rfl (by exact HO2.out.alloc _) w2.heap.size 1 0 rfl (by exact cell_new1 _ _ _) W1.heap.size W1 (by exact HBA.out) (Nat.le_refl _) (by simp; omega) k (by exact crL_len k) (by omega) _ HX.out ?_; intro g' cap' w3 hown3 hb3)
          go_wp2
          go_roundw
          case rel => exact ⟨k + 1, by omega, by go_num, hown3, hb3⟩
          case measure => simp [intOf]; omega
    · obtain rfl : n = k := by omega
      obtain ⟨A9, l9, c9, rfl⟩ := HO.out.sliceV
      have HO9 := Lib.hid (HO.out.weakenV HA1.out.below.size)
      go_wp2
      go_ret
      exact ⟨_, _, _, rfl, by rw [HT.out]; exact HO9.out, HA.out.below⟩

set_option maxRecDepth 100000 in
set_option maxHeartbeats 3200000 in
theorem sCracksOf_any (A : Option Addr) (n c : Nat) (zs : List Int) (B : Option Addr) (q d : Nat) (ls : List Int) (H V M D : Int) (w : World) (h : RecsAt w w.heap.size 4 A n zs) (hn : n ≤ 1048576) (hl : RecsAt w w.heap.size 3 B q ls) (hq : q ≤ 1048576) :
    Calls Try.prog 42 #[.agg #[.slice A n c], .slice B q d, .agg #[.int .i64 H, .int .i64 V, .int .i64 M, .int .i64 D]] w (CrPost w (crRes zs n ls q H V M D)) := by
  have at0 := AT.start w (.slice A n c) H V M D 31 61
  have HH := Lib.hid h
  have HL := Lib.hid hl
  have hs0 : ((w.alloc (.cells #[.slice A n c] 31)).alloc (.cells #[.int .i64 H, .int .i64 V, .int .i64 M, .int .i64 D] 61)).heap.size = w.heap.size + 1 + 1 := by simp
  have HA0 := Lib.hid (at0.after (by rw [hs0]; exact (Below.refl _ _).alloc (by simp) (.cells #[] 3)))
  have HO0 : Hid (OwnV (((w.alloc (.cells #[.slice A n c] 31)).alloc (.cells #[.int .i64 H, .int .i64 V, .int .i64 M, .int .i64 D] 61)).alloc (.cells #[] 3)) (w.heap.size + 1 + 1) 3 (.slice (some ⟨w.heap.size + 1 + 1, 0, none⟩) 0 0) []) := by
    have h := (OwnI.new ((w.alloc (.cells #[.slice A n c] 31)).alloc (.cells #[.int .i64 H, .int .i64 V, .int .i64 M, .int .i64 D] 61)) 3).toV
    rw [hs0] at h
    exact h
  have HT : Hid (stB zs n ls q H V M D = true → crRes zs n ls q H V M D = crL zs n ls q H V M D n) := crRes_t
  have HF : Hid (stB zs n ls q H V M D = false → crRes zs n ls q H V M D = []) := crRes_f
  clear at0 h hl hs0
  go_enter Try.func42, Try.ntmps42
  go_wp2
  go_loopw [7, 8] (fun v7 v8 wr => ∃ (k : Nat), k ≤ n ∧ v8 = .int .i64 k ∧ Hid (stB zs n ls q H V M D = false → k = 0) ∧ Hid (OwnV wr (w.heap.size + 1 + 1) 3 v7 (crL zs n ls q H V M D k)) ∧ Hid (AT w wr (.slice A n c) H V M D)) (fun _ v8 _ => n - (intOf v8).toNat)
  case atStart => exact ⟨0, Nat.zero_le _, rfl, Lib.hid (fun _ => rfl), HO0, HA0⟩
  case round =>
    clear HO0 HA0
    obtain ⟨k, hk, rfl, HK, HO, HA⟩ := hrel
    have a0 := HA.out.arch.1
    have t0 := HA.out.thr.1.1
    have t1 := HA.out.thr.1.2.1
    have t2 := HA.out.thr.1.2.2.1
    have t3 := HA.out.thr.1.2.2.2
    have hz := HA.out.thr.2
    by_cases hlt : k < n
    · have r1 := HH.out.below HA.out.below |>.mono HA.out.below.size
      have r2 := HL.out.below HA.out.below |>.mono HA.out.below.size
      have HSTEP := Lib.hid (crL_step (zs := zs) (n := n) (ls := ls) (q := q) (H := H) (V := V) (M := M) (D := D) k)
      have HAT : Hid (∀ x y, mIn zs n ls q H V M D (k : Int) = x → mOut zs n ls q H V M D (k : Int) = y → crAt zs n ls q H V M D k = if x = 0 then 1 else if y = 0 then 2 else 0) := fun x y h1 h2 => by subst h1; subst h2; rfl
      go_wp2_with fail
      refine (sStandsWith_any _ _ _ zs _ _ _ ls _ _ _ _ _ r1 hn r2 hq).mono ?_
      rintro e w1 ⟨rfl, hb1⟩
      have HA1 := Lib.hid (HA.out.after hb1)
      have HO1 := Lib.hid (HO.out.belowV hb1)
      have s1 := r1.after hb1
      have s2 := r2.after hb1
      clear a0 t0 t1 t2 t3 hb1 r1 r2 HO HA
      cases hS : stB zs n ls q H V M D
      · have hk0 := HK.out hS
        subst hk0
        have HF1 := Lib.hid (HF.out hS)
        obtain ⟨A9, l9, c9, rfl⟩ := HO1.out.sliceV
        have HO9 := Lib.hid (HO1.out.weakenV (base' := w.heap.size) (by omega))
        go_wp2
        go_ret
        exact ⟨_, _, _, rfl, by rw [HF1.out]; exact HO9.out, HA1.out.below⟩
      have HK1 : Hid (stB zs n ls q H V M D = false → k + 1 = 0) := fun e => by rw [hS] at e; cases e
      have a0 := HA1.out.arch.1
      have t0 := HA1.out.thr.1.1
      have t1 := HA1.out.thr.1.2.1
      have t2 := HA1.out.thr.1.2.2.1
      have t3 := HA1.out.thr.1.2.2.2
      clear hS
      go_wp2_with fail
      refine (sMomentsAt_any _ _ _ zs _ _ _ ls _ _ _ _ _ _ s1 hn s2 hq).mono ?_
      generalize mIn zs n ls q H V M D (k : Int) = x at *
      generalize mOut zs n ls q H V M D (k : Int) = y at *
      have HE := Lib.hid (HAT.out x y rfl rfl)
      rintro e w2 ⟨rfl, hb2⟩
      have HA2 := Lib.hid (HA1.out.after hb2)
      have HO2 := Lib.hid (HO1.out.belowV hb2)
      have hz2 := HA2.out.thr.2
      clear a0 t0 t1 t2 t3 hb2 s1 s2 HO1 HA1 HAT
      by_cases hx : x = 0
      · by_cases hy : y = 0
        · have hxb : (x == 0) = true := by simpa using hx
          have hyb : (y == 0) = true := by simpa using hy
          have HX := Lib.hid (show crL zs n ls q H V M D k ++ [1] = crL zs n ls q H V M D (k + 1) by rw [← HSTEP.out, HE.out, if_pos hx])
          have HBA := Lib.hid ((Below.refl (w.heap.size + 2) w2).alloc (by omega) (.cells #[.int .i64 1] 3))
          clear hx hy
          go_wp2_with (at_builtin; refine wpList_app _ rfl (.tmp 38) (.tmp 40) 25 rfl (w.heap.size + 1 + 1) 3 Try.underlying25 infoInt _ (crL zs n ls q H V M D k) rfl (by exact HO2.out.alloc _) w2.heap.size 1 1 rfl (by exact cell_new1 _ _ _) (w.heap.size + 2) w2 (by exact HBA.out) (Nat.le_refl _) (by simp; omega) k (by exact crL_len k) (by omega) _ HX.out ?_; intro g' cap' w3 hown3 hb3)
          have HA3 := Lib.hid (HA2.out.keep2 hb3)
          clear hb3
          go_wp2
          go_roundw
          case rel => exact ⟨k + 1, by omega, by go_num, HK1, hown3, HA3⟩
          case measure => simp [intOf]; omega
        · have hxb : (x == 0) = true := by simpa using hx
          have hyb : (y == 0) = false := by simpa using hy
          have HX := Lib.hid (show crL zs n ls q H V M D k ++ [1] = crL zs n ls q H V M D (k + 1) by rw [← HSTEP.out, HE.out, if_pos hx])
          have HBA := Lib.hid ((Below.refl (w.heap.size + 2) w2).alloc (by omega) (.cells #[.int .i64 1] 3))
          clear hx hy
          go_wp2_with (at_builtin; refine wpList_app _ rfl (.tmp 38) (.tmp 40) 25 rfl (w.heap.size + 1 + 1) 3 Try.underlying25 infoInt _ (crL zs n ls q H V M D k) rfl (by exact HO2.out.alloc _) w2.heap.size 1 1 rfl (by exact cell_new1 _ _ _) (w.heap.size + 2) w2 (by exact HBA.out) (Nat.le_refl _) (by simp; omega) k (by exact crL_len k) (by omega) _ HX.out ?_; intro g' cap' w3 hown3 hb3)
          have HA3 := Lib.hid (HA2.out.keep2 hb3)
          clear hb3
          go_wp2
          go_roundw
          case rel => exact ⟨k + 1, by omega, by go_num, HK1, hown3, HA3⟩
          case measure => simp [intOf]; omega
      · by_cases hy : y = 0
        · have hxb : (x == 0) = false := by simpa using hx
          have hyb : (y == 0) = true := by simpa using hy
          have HX := Lib.hid (show crL zs n ls q H V M D k ++ [2] = crL zs n ls q H V M D (k + 1) by rw [← HSTEP.out, HE.out, if_neg hx, if_pos hy])
          have HBA := Lib.hid ((Below.refl (w.heap.size + 2) w2).alloc (by omega) (.cells #[.int .i64 2] 3))
          clear hx hy
          go_wp2_with (at_builtin; refine wpList_app _ rfl (.tmp 38) (.tmp 40) 25 rfl (w.heap.size + 1 + 1) 3 Try.underlying25 infoInt _ (crL zs n ls q H V M D k) rfl (by exact HO2.out.alloc _) w2.heap.size 1 2 rfl (by exact cell_new1 _ _ _) (w.heap.size + 2) w2 (by exact HBA.out) (Nat.le_refl _) (by simp; omega) k (by exact crL_len k) (by omega) _ HX.out ?_; intro g' cap' w3 hown3 hb3)
          have HA3 := Lib.hid (HA2.out.keep2 hb3)
          clear hb3
          go_wp2
          go_roundw
          case rel => exact ⟨k + 1, by omega, by go_num, HK1, hown3, HA3⟩
          case measure => simp [intOf]; omega
        · have hxb : (x == 0) = false := by simpa using hx
          have hyb : (y == 0) = false := by simpa using hy
          have HX := Lib.hid (show crL zs n ls q H V M D k ++ [0] = crL zs n ls q H V M D (k + 1) by rw [← HSTEP.out, HE.out, if_neg hx, if_neg hy])
          have HBA := Lib.hid ((Below.refl (w.heap.size + 2) w2).alloc (by omega) (.cells #[.int .i64 0] 3))
          clear hx hy
          go_wp2_with (at_builtin; refine wpList_app _ rfl (.tmp 38) (.tmp 40) 25 rfl (w.heap.size + 1 + 1) 3 Try.underlying25 infoInt _ (crL zs n ls q H V M D k) rfl (by exact HO2.out.alloc _) w2.heap.size 1 0 rfl (by exact cell_new1 _ _ _) (w.heap.size + 2) w2 (by exact HBA.out) (Nat.le_refl _) (by simp; omega) k (by exact crL_len k) (by omega) _ HX.out ?_; intro g' cap' w3 hown3 hb3)
          have HA3 := Lib.hid (HA2.out.keep2 hb3)
          clear hb3
          go_wp2
          go_roundw
          case rel => exact ⟨k + 1, by omega, by go_num, HK1, hown3, HA3⟩
          case measure => simp [intOf]; omega
    · obtain rfl : n = k := by omega
      obtain ⟨A9, l9, c9, rfl⟩ := HO.out.sliceV
      have HO9 := Lib.hid (HO.out.weakenV (base' := w.heap.size) (by omega))
      go_wp2
      go_ret
      refine ⟨_, _, _, rfl, ?_, HA.out.below⟩
      cases hS : stB zs n ls q H V M D
      · have hk0 := HK.out hS
        rw [HF.out hS]
        have h9 := HO9.out
        rw [show crL zs n ls q H V M D n = [] by rw [hk0]; rfl] at h9
        exact h9
      · rw [HT.out hS]; exact HO9.out
end Go.Proofs.Ytbcgckdjbabdjaa
