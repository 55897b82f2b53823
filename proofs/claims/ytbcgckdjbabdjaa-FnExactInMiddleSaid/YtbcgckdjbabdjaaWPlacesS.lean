/-
  Contract: the places of a push at all joints, in the reference.
-/
import Derived.Test.YtbcgckdjbabdjaaPPlaces
import Derived.Test.YtbcgckdjbabdjaaOwnC
namespace Go.Proofs.Ytbcgckdjbabdjaa
open Go.RowKit
set_option linter.unusedSimpArgs false

theorem infoInts : (Try.prog.info? 25).map (fun i => (i.zero, i.size, i.bytes)) = some (some (.slice none 0 0), 1, 24) := by kernel_rfl
/-- Slice value '.slice A m c' holds m slices of two ints each, flattened to L. -/
def PairsAt (w : World) (B : Nat) (A : Option Addr) (m : Nat) (L : List Int) : Prop :=
  0 < m → ∃ b off, A = some ⟨b, off, none⟩ ∧ b < B ∧ ∀ i, i < m → ∃ g, w.cell? ⟨b, off + i, none⟩ = some (.slice (some ⟨g, 0, none⟩) 2 2) ∧ g < B ∧ w.cell? ⟨g, 0, none⟩ = some (.int .i64 (nth L (i * 2))) ∧ w.cell? ⟨g, 1, none⟩ = some (.int .i64 (nth L (i * 2 + 1)))
theorem PairsAt.after {w w' : World} {A : Option Addr} {m : Nat} {L : List Int} (h : PairsAt w w.heap.size A m L) (hb : Below w.heap.size w w') : PairsAt w' w'.heap.size A m L := fun hm => by
  obtain ⟨b, off, e, hbl, hc⟩ := h hm
  refine ⟨b, off, e, Nat.lt_of_lt_of_le hbl hb.size, fun i hi => ?_⟩
  obtain ⟨g, h1, h2, h3, h4⟩ := hc i hi
  exact ⟨g, (hb.cell (p := ⟨b, off + i, none⟩) hbl).trans h1, Nat.lt_of_lt_of_le h2 hb.size, (hb.cell (p := ⟨g, 0, none⟩) h2).trans h3, (hb.cell (p := ⟨g, 1, none⟩) h2).trans h4⟩
def PlsSPost (w : World) (m : Nat) (L : List Int) (e : Ending) (w' : World) : Prop :=
  ∃ A c, e = .returned (.slice A m c) ∧ PairsAt w' w'.heap.size A m L ∧ m ≤ c ∧ Below w.heap.size w w'
/-- The rows behind the cells. -/
def RowsOf2 (w : World) (cs : List Value) (k : Nat) (N D : Nat → Int) : Prop := ∀ i, i < k → ∃ g, cs[i]? = some (.slice (some ⟨g, 0, none⟩) 2 2) ∧ RowF w g 3 2 (ints [N i, D i])
theorem RowsOf2.after {w w' : World} {cs : List Value} {k : Nat} {N D : Nat → Int} (h : RowsOf2 w cs k N D) (hb : Below w.heap.size w w') : RowsOf2 w' cs k N D := fun i hi => by
  obtain ⟨g, h1, h2⟩ := h i hi
  exact ⟨g, h1, h2.after hb⟩
theorem RowsOf2.snoc {w : World} {cs : List Value} {k g : Nat} {N D : Nat → Int} (h : RowsOf2 w cs k N D) (hl : cs.length = k) (hr : RowF w g 3 2 (ints [N k, D k])) : RowsOf2 w (cs ++ [.slice (some ⟨g, 0, none⟩) 2 2]) (k + 1) N D := fun i hi => by
  by_cases e : i = k
  · subst e
    exact ⟨g, by rw [← hl]; simp, hr⟩
  · obtain ⟨g', h1, h2⟩ := h i (by omega)
    exact ⟨g', by rw [List.getElem?_append_left (by omega)]; exact h1, h2⟩

set_option maxRecDepth 100000 in
set_option maxHeartbeats 3200000 in
theorem sPlacesOf_any (A : Option Addr) (n c : Nat) (zs : List Int) (B : Option Addr) (q d : Nat) (ls : List Int) (H V M D : Int) (w : World) (h : RecsAt w w.heap.size 4 A n zs) (hn : n ≤ 1048576) (hl : RecsAt w w.heap.size 3 B q ls) (hq : q ≤ 1048576) :
    Calls Try.prog 75 #[.agg #[.slice A n c], .slice B q d, .agg #[.int .i64 H, .int .i64 V, .int .i64 M, .int .i64 D]] w (PlsSPost w (pkLen zs n ls q H V M D) (pkLs zs n ls q H V M D)) := by
  have at0 := AT.start w (.slice A n c) H V M D 31 61
  have HH := Lib.hid h
  have HL := Lib.hid hl
  have HAT := Lib.hid at0
  have hs0 : ((w.alloc (.cells #[.slice A n c] 31)).alloc (.cells #[.int .i64 H, .int .i64 V, .int .i64 M, .int .i64 D] 61)).heap.size = w.heap.size + 1 + 1 := by simp
  have HS0 := Lib.hid hs0
  have HO0 : Hid (OwnC (((w.alloc (.cells #[.slice A n c] 31)).alloc (.cells #[.int .i64 H, .int .i64 V, .int .i64 M, .int .i64 D] 61)).alloc (.cells #[] 25)) (w.heap.size + 1 + 1) 25 (.slice (some ⟨w.heap.size + 1 + 1, 0, none⟩) 0 0) 0 []) := by
    have h := OwnC.new ((w.alloc (.cells #[.slice A n c] 31)).alloc (.cells #[.int .i64 H, .int .i64 V, .int .i64 M, .int .i64 D] 61)) 25
    rw [hs0] at h
    exact h
  have HB0 : Hid (Below (w.heap.size + 1 + 1) ((w.alloc (.cells #[.slice A n c] 31)).alloc (.cells #[.int .i64 H, .int .i64 V, .int .i64 M, .int .i64 D] 61)) (((w.alloc (.cells #[.slice A n c] 31)).alloc (.cells #[.int .i64 H, .int .i64 V, .int .i64 M, .int .i64 D] 61)).alloc (.cells #[] 25))) := by
    have h := (Below.refl (w.heap.size + 1 + 1) ((w.alloc (.cells #[.slice A n c] 31)).alloc (.cells #[.int .i64 H, .int .i64 V, .int .i64 M, .int .i64 D] 61))).alloc (by rw [hs0]; exact Nat.le_refl _) (.cells #[] 25)
    exact h
  have HAF : Hid (∀ k, k < n → pkB zs n ls q H V M D k = false → allPk zs n ls q H V M D = false) := fun k hk h => allPk_f hk h
  have HAT2 : Hid (allTo (pkB zs n ls q H V M D) n → allPk zs n ls q H V M D = true) := allPk_t
  clear at0 h hl hs0
  go_enter Try.func75, Try.ntmps75
  go_wp2
  go_loopw [7, 8] (fun v7 v8 wr => ∃ (k : Nat) (cs : List Value), v8 = .int .i64 k ∧ k ≤ n ∧ Hid (allTo (pkB zs n ls q H V M D) k) ∧ Hid (Below (w.heap.size + 1 + 1) ((w.alloc (.cells #[.slice A n c] 31)).alloc (.cells #[.int .i64 H, .int .i64 V, .int .i64 M, .int .i64 D] 61)) wr) ∧ Hid (OwnC wr (w.heap.size + 1 + 1) 25 v7 k cs) ∧ Hid (RowsOf2 wr cs k (pkN zs n ls q H V M D) (pkD zs n ls q H V M D))) (fun _ v8 _ => n - (intOf v8).toNat)
  case atStart => exact ⟨0, [], rfl, Nat.zero_le _, Lib.hid (allTo_0 _), HB0, HO0, fun i hi => absurd hi (by omega)⟩
  case round =>
    clear HB0 HO0
    obtain ⟨k, cs, rfl, hk, HP, HBW, HO, HR⟩ := hrel
    have HA := Lib.hid (HAT.out.after (by rw [HS0.out]; exact HBW.out))
    have a0 := HA.out.arch.1
    have t0 := HA.out.thr.1.1
    have t1 := HA.out.thr.1.2.1
    have t2 := HA.out.thr.1.2.2.1
    have t3 := HA.out.thr.1.2.2.2
    have r1 := HH.out.below HA.out.below |>.mono HA.out.below.size
    have r2 := HL.out.below HA.out.below |>.mono HA.out.below.size
    by_cases he : k < n
    · go_wp2_with fail
      refine (sPlaceAt_any _ _ _ zs _ _ _ ls _ _ _ _ _ _ r1 hn r2 hq).mono ?_
      rintro e w1 ⟨rfl, hb1⟩
      have hz0 : w.heap.size + 1 + 1 ≤ wr.heap.size := by have := HBW.out.size; rw [HS0.out] at this; exact this
      have HA1 := Lib.hid (HA.out.after hb1)
      have HO1 := Lib.hid (HO.out.below hb1)
      have HR1 := Lib.hid (HR.out.after hb1)
      have HBW1 := Lib.hid (HBW.out.trans (hb1.mono hz0))
      have hz1 : w.heap.size + 1 + 1 ≤ w1.heap.size := by have := hb1.size; omega
      clear hb1 r1 r2 a0 t0 t1 t2 t3 HA HO HR HBW
      cases hp : plcB zs n ls q H V M D (k : Int)
      · have HF := Lib.hid (HAF.out k (by omega) hp)
        have HBB := Lib.hid (HA1.out.below.alloc HA1.out.below.size (.cells #[] 25))
        clear hp
        go_wp2
        go_ret
        exact ⟨some ⟨w1.heap.size, 0, none⟩, 0, by rw [(pkLen_f HF.out).1]; rfl, fun hm => absurd hm (by rw [(pkLen_f HF.out).1]; omega), by rw [(pkLen_f HF.out).1]; exact Nat.le_refl _, HBB.out⟩
      · have HS := Lib.hid (allTo_step HP.out hp)
        have HNX : Hid (∀ N E, plcN zs n ls q H V M D (k : Int) = N → plcD zs n ls q H V M D (k : Int) = E → [pkN zs n ls q H V M D k, pkD zs n ls q H V M D k] = [N, E]) := fun N E h1 h2 => by rw [← h1, ← h2]; rfl
        generalize plcN zs n ls q H V M D (k : Int) = N at *
        generalize plcD zs n ls q H V M D (k : Int) = E at *
        have HX := Lib.hid (HNX.out N E rfl rfl)
        clear hp HNX
        have HBA := Lib.hid ((HBW1.out.alloc hz1 (.cells #[.int .i64 N, .int .i64 E] 3)).alloc (by simp; omega) (.cells #[.slice (some ⟨w1.heap.size, 0, none⟩) 2 2] 25))
        have hcn : ((w1.alloc (.cells #[.int .i64 N, .int .i64 E] 3)).alloc (.cells #[.slice (some ⟨w1.heap.size, 0, none⟩) 2 2] 25)).cell? ⟨w1.heap.size + 1, 0, none⟩ = some (.slice (some ⟨w1.heap.size, 0, none⟩) 2 2) := by
          have h := cell_new1 (w1.alloc (.cells #[.int .i64 N, .int .i64 E] 3)) (.slice (some ⟨w1.heap.size, 0, none⟩) 2 2) 25
          rw [World.size_alloc] at h
          exact h
        have HCN := Lib.hid hcn
        have HRN := Lib.hid ((rowF_new2 w1 N E 3).alloc (.cells #[.slice (some ⟨w1.heap.size, 0, none⟩) 2 2] 25))
        have hbs : w.heap.size + 1 + 1 ≤ ((w1.alloc (.cells #[.int .i64 N, .int .i64 E] 3)).alloc (.cells #[.slice (some ⟨w1.heap.size, 0, none⟩) 2 2] 25)).heap.size := by simp; omega
        have HRA : Hid (RowsOf2 ((w1.alloc (.cells #[.int .i64 N, .int .i64 E] 3)).alloc (.cells #[.slice (some ⟨w1.heap.size, 0, none⟩) 2 2] 25)) cs k (pkN zs n ls q H V M D) (pkD zs n ls q H V M D)) := HR1.out.after (((Below.refl _ _).alloc (Nat.le_refl _) _).alloc (by simp) _)
        clear hcn
        go_wp2_with (at_builtin; refine wpList_appC _ rfl (.tmp 32) (.tmp 36) 81 rfl (w.heap.size + 1 + 1) 25 24 (.slice none 0 0) Try.underlying81 infoInts rfl (by decide) _ k cs rfl (by exact (HO1.out.alloc _).alloc _) (w1.heap.size + 1) 1 (.slice (some ⟨w1.heap.size, 0, none⟩) 2 2) rfl rfl (by exact HCN.out) (by omega) (w.heap.size + 1 + 1) ((w.alloc (.cells #[.slice A n c] 31)).alloc (.cells #[.int .i64 H, .int .i64 V, .int .i64 M, .int .i64 D] 61)) (by exact HBA.out) (Nat.le_refl _) hbs ?_; intro g' cap' w3 hown3 hb3 hrow3)
        have HR3 : Hid (RowsOf2 w3 (cs ++ [.slice (some ⟨w1.heap.size, 0, none⟩) 2 2]) (k + 1) (pkN zs n ls q H V M D) (pkD zs n ls q H V M D)) :=
          RowsOf2.snoc (fun i hi => by obtain ⟨g, h1, h2⟩ := HRA.out i hi; exact ⟨g, h1, hrow3 _ _ _ _ (by decide) h2⟩) HO1.out.2 (by rw [HX.out]; exact hrow3 _ _ _ _ (by decide) HRN.out)
        go_wp2
        go_roundw
        case rel => exact ⟨k + 1, _, by go_num, by omega, HS, hb3, hown3, HR3⟩
        case measure => simp [intOf]; omega
    · obtain rfl : n = k := by omega
      have HF := Lib.hid (HAT2.out HP.out)
      obtain ⟨A7, c7, rfl, hc7⟩ := HO.out.slice
      have HPR : Hid (PairsAt wr wr.heap.size A7 n (pkL zs n ls q H V M D n)) := fun hm => by
        rcases HO.out.form with ⟨_, h2, _⟩ | ⟨g, cap, e, _, _, hgl, hcc⟩
        · omega
        · simp at e
          obtain ⟨rfl, rfl⟩ := e
          refine ⟨g, 0, rfl, hgl, fun i hi => ?_⟩
          obtain ⟨gi, h1, h2⟩ := HR.out i hi
          have hn2 := pkL_nth (zs := zs) (n := n) (ls := ls) (q := q) (H := H) (V := V) (M := M) (D := D) hi
          exact ⟨gi, by rw [Nat.zero_add, hcc i hi, h1], h2.lt, by rw [hn2.1]; exact h2.cell (by omega), by rw [hn2.2]; exact h2.cell (by omega)⟩
      have HBB := Lib.hid HA.out.below
      go_wp2
      go_ret
      exact ⟨A7, c7, by rw [(pkLen_t HF.out).1]; rfl, by rw [(pkLen_t HF.out).1, (pkLen_t HF.out).2]; exact HPR.out, by rw [(pkLen_t HF.out).1]; exact hc7, HBB.out⟩
end Go.Proofs.Ytbcgckdjbabdjaa
