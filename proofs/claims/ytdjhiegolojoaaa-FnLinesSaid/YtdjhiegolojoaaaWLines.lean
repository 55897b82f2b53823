/-
  Contracts: the places as slices, the joints touched, and a number in a list.
-/
import Derived.Test.YtdjhiegolojoaaaPLines
import Derived.Test.YtdjhiegolojoaaaWPlacesS
import Derived.Test.YtdjhiegolojoaaaApp
namespace Go.Proofs.Ytdjhiegolojoaaa
open Go.RowKit
set_option linter.unusedSimpArgs false
set_option linter.unusedVariables false

theorem ownV_low {w : World} {base base' : Nat} {E : TypeId} {v : Value} {xs : List Int} (h : OwnV w base E v xs) (hb : base' ≤ base) : OwnV w base' E v xs := by
  refine ⟨h.1, ?_⟩
  rcases h.2 with h2 | ⟨g, cap, cur, h1, h2, h3, hr⟩
  · exact .inl h2
  · exact .inr ⟨g, cap, cur, h1, by omega, h3, hr⟩
set_option maxRecDepth 100000 in
set_option maxHeartbeats 3200000 in
theorem iPlacesOf_any (A : Option Addr) (n c : Nat) (zs : List Int) (B : Option Addr) (q d : Nat) (ls : List Int) (H V M D : Int) (w : World) (h : RecsAt w w.heap.size 4 A n zs) (hn : n ≤ 1048576) (hl : RecsAt w w.heap.size 3 B q ls) (hq : q ≤ 1048576) :
    Calls Try.prog 15 #[.agg #[.slice A n c], .slice B q d, .agg #[.int .i64 H, .int .i64 V, .int .i64 M, .int .i64 D]] w (PlsSPost w (pkLen zs n ls q H V M D) (pkLs zs n ls q H V M D)) := by
  have at0 := AT.start w (.slice A n c) H V M D 41 46
  have b0 := at_below w (.slice A n c) H V M D 41 46
  have h1 := h.after b0
  have l1 := hl.after b0
  have HAT := Lib.hid at0
  have hle := pkLen_le8 zs n ls q H V M D
  clear at0 b0 h hl
  go_enter Try.func15, Try.ntmps15
  go_wp2_with fail
  refine (placesOf_any _ _ _ zs _ _ _ ls _ _ _ _ _ h1 (by omega) l1 hq).mono ?_
  generalize pkLs zs n ls q H V M D = L at *
  generalize pkLen zs n ls q H V M D = m at *
  rintro e W1 ⟨A7, c7, rfl, hrec, hc7, hb1⟩
  have B1 := Lib.hid (HAT.out.after hb1).below
  have HRC := Lib.hid hrec
  clear hb1 h1 l1 hrec HAT
  go_wp2
  go_loopw [7, 15] (fun v7 v15 wr => ∃ (k : Nat) (cs : List Value), k ≤ m ∧ v15 = .int .i64 k ∧ Hid (OwnC wr W1.heap.size 53 v7 k cs) ∧ Hid (RowsOf2 wr cs k (fun i => nth L (i * 2)) (fun i => nth L (i * 2 + 1))) ∧ Hid (Below W1.heap.size W1 wr)) (fun _ v15 _ => m - (intOf v15).toNat)
  case atStart => exact ⟨0, [], Nat.zero_le _, rfl, Lib.hid ⟨World.ownsRow_nil _ _ _ _, rfl⟩, Lib.hid (fun i hi => absurd hi (by omega)), Lib.hid (Below.refl _ _)⟩
  case round =>
    obtain ⟨k, cs, hk, rfl, HO, HR, HB⟩ := hrel
    by_cases hlt : k < m
    · obtain ⟨b, off, rfl, hbl, hc⟩ := HRC.out.2 (by omega)
      have x0 : wr.cell? ⟨b, off + k * 2, none⟩ = some (.int .i64 (nth L (k * 2))) := (HB.out.cell (p := ⟨b, off + k * 2, none⟩) hbl).trans (hc (k * 2) (by omega))
      have x1 : wr.cell? ⟨b, off + k * 2 + 1, none⟩ = some (.int .i64 (nth L (k * 2 + 1))) := (HB.out.cell (p := ⟨b, off + k * 2 + 1, none⟩) hbl).trans (hc (k * 2 + 1) (by omega))
      obtain ⟨N, hN⟩ : ∃ N, nth L (k * 2) = N := ⟨_, rfl⟩
      obtain ⟨E, hE⟩ : ∃ E, nth L (k * 2 + 1) = E := ⟨_, rfl⟩
      have HN := Lib.hid hN
      have HE := Lib.hid hE
      rw [hN] at x0
      rw [hE] at x1
      have hz := HB.out.size
      have ki : (k : Int) < (m : Int) := by omega
      have k0 : (0 : Int) ≤ (k : Int) := by omega
      have bn := rowF_new2 wr N E 89
      have y0 : (wr.alloc (.cells #[.int .i64 N, .int .i64 E] 89)).cell? ⟨wr.heap.size, 0, none⟩ = some (.int .i64 N) := bn.cell (by omega)
      have y1 : (wr.alloc (.cells #[.int .i64 N, .int .i64 E] 89)).cell? ⟨wr.heap.size, 1, none⟩ = some (.int .i64 E) := bn.cell (by omega)
      have hba : Below wr.heap.size wr (((wr.alloc (.cells #[.int .i64 N, .int .i64 E] 89)).alloc (.cells #[.int .i64 N, .int .i64 E] 3)).alloc (.cells #[.slice (some ⟨wr.heap.size + 1, 0, none⟩) 2 2] 53)) := ((((Below.refl _ _).alloc (Nat.le_refl _) _).alloc (by simp) _).alloc (by simp; omega) _)
      have HBA := Lib.hid (HB.out.trans (hba.mono hz))
      have HOA := Lib.hid (HO.out.below hba)
      have HRA := Lib.hid (HR.out.after hba)
      have HCN : Hid ((((wr.alloc (.cells #[.int .i64 N, .int .i64 E] 89)).alloc (.cells #[.int .i64 N, .int .i64 E] 3)).alloc (.cells #[.slice (some ⟨wr.heap.size + 1, 0, none⟩) 2 2] 53)).cell? ⟨wr.heap.size + 1 + 1, 0, none⟩ = some (.slice (some ⟨wr.heap.size + 1, 0, none⟩) 2 2)) := Lib.hid (by
        have h := cell_new1 ((wr.alloc (.cells #[.int .i64 N, .int .i64 E] 89)).alloc (.cells #[.int .i64 N, .int .i64 E] 3)) (.slice (some ⟨wr.heap.size + 1, 0, none⟩) 2 2) 53
        simp only [World.size_alloc] at h
        exact h)
      have HRN : Hid (RowF (((wr.alloc (.cells #[.int .i64 N, .int .i64 E] 89)).alloc (.cells #[.int .i64 N, .int .i64 E] 3)).alloc (.cells #[.slice (some ⟨wr.heap.size + 1, 0, none⟩) 2 2] 53)) (wr.heap.size + 1) 3 2 (ints [N, E])) := Lib.hid (by
        have h := rowF_new2 (wr.alloc (.cells #[.int .i64 N, .int .i64 E] 89)) N E 3
        simp only [World.size_alloc] at h
        exact h.alloc _)
      have hbs : W1.heap.size ≤ (((wr.alloc (.cells #[.int .i64 N, .int .i64 E] 89)).alloc (.cells #[.int .i64 N, .int .i64 E] 3)).alloc (.cells #[.slice (some ⟨wr.heap.size + 1, 0, none⟩) 2 2] 53)).heap.size := HBA.out.size
      clear hc bn hba hN hE
      go_wp2_with (at_builtin; refine wpList_appC _ rfl (.tmp 19) (.tmp 25) 49 rfl W1.heap.size 53 24 (.slice none 0 0) Try.underlying49 infoInts rfl (by decide) _ k cs rfl (by exact HOA.out) (wr.heap.size + 1 + 1) 1 (.slice (some ⟨wr.heap.size + 1, 0, none⟩) 2 2) rfl rfl (by exact HCN.out) (by omega) W1.heap.size W1 (by exact HBA.out) (Nat.le_refl _) hbs ?_; intro g' cap' w3 hown3 hb3 hrow3)
      have HR3 : Hid (RowsOf2 w3 (cs ++ [.slice (some ⟨wr.heap.size + 1, 0, none⟩) 2 2]) (k + 1) (fun i => nth L (i * 2)) (fun i => nth L (i * 2 + 1))) :=
        RowsOf2.snoc (fun i hi => by obtain ⟨g, h1, h2⟩ := HRA.out i hi; exact ⟨g, h1, hrow3 _ _ _ _ (by decide) h2⟩) HO.out.2 (by rw [HN.out, HE.out]; exact hrow3 _ _ _ _ (by decide) HRN.out)
      go_wp2
      go_roundw
      case rel => exact ⟨k + 1, _, by omega, by go_num, hown3, HR3, hb3⟩
      case measure => simp [intOf]; omega
    · obtain rfl : m = k := by omega
      obtain ⟨A9, c9, rfl, hc9⟩ := HO.out.slice
      have HPR : Hid (PairsAt wr wr.heap.size A9 m L) := fun hm => by
        rcases HO.out.form with ⟨_, h2, _⟩ | ⟨g, cap, e, _, _, hgl, hcc⟩
        · omega
        · simp at e
          obtain ⟨rfl, rfl⟩ := e
          refine ⟨g, 0, rfl, hgl, fun i hi => ?_⟩
          obtain ⟨gi, h1, h2⟩ := HR.out i hi
          exact ⟨gi, by rw [Nat.zero_add, hcc i hi, h1], h2.lt, h2.cell (by omega), h2.cell (by omega)⟩
      have HBB := Lib.hid (B1.out.trans (HB.out.mono B1.out.size))
      go_wp2
      go_ret
      exact ⟨A9, c9, rfl, HPR.out, hc9, HBB.out⟩

set_option maxRecDepth 100000 in
set_option maxHeartbeats 3200000 in
theorem iTouched_any (A : Option Addr) (n c : Nat) (zs : List Int) (B : Option Addr) (q d : Nat) (ls : List Int) (H V M D : Int) (w : World) (h : RecsAt w w.heap.size 4 A n zs) (hn : n ≤ 1048576) (hl : RecsAt w w.heap.size 3 B q ls) (hq : q ≤ 1048576) :
    Calls Try.prog 17 #[.agg #[.slice A n c], .slice B q d, .agg #[.int .i64 H, .int .i64 V, .int .i64 M, .int .i64 D]] w (IntsPost w (tchL (pkLs zs n ls q H V M D) (pkLen zs n ls q H V M D))) := by
  have at0 := AT.start w (.slice A n c) H V M D 41 46
  have b0 := at_below w (.slice A n c) H V M D 41 46
  have h1 := h.after b0
  have l1 := hl.after b0
  have HAT := Lib.hid at0
  have hle := pkLen_le8 zs n ls q H V M D
  clear at0 b0 h hl
  go_enter Try.func17, Try.ntmps17
  go_wp2_with fail
  refine (placesOf_any _ _ _ zs _ _ _ ls _ _ _ _ _ h1 (by omega) l1 hq).mono ?_
  generalize pkLs zs n ls q H V M D = L at *
  generalize pkLen zs n ls q H V M D = m at *
  rintro e W1 ⟨A7, c7, rfl, hrec, hc7, hb1⟩
  have B1 := Lib.hid (HAT.out.after hb1).below
  have HRC := Lib.hid hrec
  clear hb1 h1 l1 hrec HAT
  go_wp2
  go_loopw [7, 15] (fun v7 v15 wr => ∃ (k j : Nat) (T : List Int) (A9 : Option Addr) (c9 : Nat), k ≤ m ∧ v15 = .int .i64 k ∧ v7 = .slice A9 j c9 ∧ T.length = j ∧ j ≤ k ∧ Hid (tchL L k = T) ∧ Hid (OwnV wr W1.heap.size 3 (.slice A9 j c9) T) ∧ Hid (Below W1.heap.size W1 wr)) (fun _ v15 _ => m - (intOf v15).toNat)
  case atStart => exact ⟨0, 0, [], _, _, Nat.zero_le _, rfl, rfl, rfl, Nat.le_refl _, Lib.hid rfl, Lib.hid (OwnV.nil _ _ _), Lib.hid (Below.refl _ _)⟩
  case round =>
    obtain ⟨k, j, T, A9, c9, hk, rfl, rfl, hT, hj, HTT, HO, HB⟩ := hrel
    by_cases hlt : k < m
    · obtain ⟨b, off, rfl, hbl, hc⟩ := HRC.out.2 (by omega)
      have x0 : wr.cell? ⟨b, off + k * 2, none⟩ = some (.int .i64 (nth L (k * 2))) := (HB.out.cell (p := ⟨b, off + k * 2, none⟩) hbl).trans (hc (k * 2) (by omega))
      have x1 : wr.cell? ⟨b, off + k * 2 + 1, none⟩ = some (.int .i64 (nth L (k * 2 + 1))) := (HB.out.cell (p := ⟨b, off + k * 2 + 1, none⟩) hbl).trans (hc (k * 2 + 1) (by omega))
      have hf : tchB L k = (decide (nth L (k * 2) = 0) || decide (nth L (k * 2) = nth L (k * 2 + 1))) := rfl
      have HS1 : Hid (tchB L k = true → tchL L (k + 1) = T ++ [(k : Int)]) := Lib.hid (fun e => by rw [tchL_t e, HTT.out])
      have HS0 : Hid (tchB L k = false → tchL L (k + 1) = T) := Lib.hid (fun e => by rw [tchL_f e, HTT.out])
      have HF := Lib.hid hf
      clear hf hc
      generalize nth L (k * 2) = N at *
      generalize nth L (k * 2 + 1) = E at *
      have hz := HB.out.size
      have ki : (k : Int) < (m : Int) := by omega
      have k0 : (0 : Int) ≤ (k : Int) := by omega
      have bn := rowF_new2 wr N E 89
      have y0 : (wr.alloc (.cells #[.int .i64 N, .int .i64 E] 89)).cell? ⟨wr.heap.size, 0, none⟩ = some (.int .i64 N) := bn.cell (by omega)
      have y1 : (wr.alloc (.cells #[.int .i64 N, .int .i64 E] 89)).cell? ⟨wr.heap.size, 1, none⟩ = some (.int .i64 E) := bn.cell (by omega)
      have hba : Below wr.heap.size wr (wr.alloc (.cells #[.int .i64 N, .int .i64 E] 89)) := (Below.refl _ _).alloc (Nat.le_refl _) _
      have HBA := Lib.hid (HB.out.trans (hba.mono hz))
      have HOA := Lib.hid (HO.out.below hba)
      have hbs : W1.heap.size ≤ (wr.alloc (.cells #[.int .i64 N, .int .i64 E] 89)).heap.size := HBA.out.size
      clear bn hba
      cases ht : tchB L k
      · have HN := Lib.hid (HS0.out ht)
        rw [HF.out] at ht
        simp only [Bool.or_eq_false_iff, decide_eq_false_iff_not] at ht
        have b1 : (N == 0) = false := by simpa using ht.1
        have b2 : (N == E) = false := by simpa using ht.2
        clear ht
        go_wp2
        go_roundw
        case rel => exact ⟨k + 1, j, T, _, _, by omega, by go_num, rfl, hT, by omega, HN, HOA, HBA⟩
        case measure => simp [intOf]; omega
      · have HN := Lib.hid (HS1.out ht)
        rw [HF.out] at ht
        simp only [Bool.or_eq_true, decide_eq_true_eq] at ht
        have HBB := Lib.hid (HBA.out.alloc hbs (.cells #[.int .i64 (k : Int)] 3))
        have HCN : Hid (((wr.alloc (.cells #[.int .i64 N, .int .i64 E] 89)).alloc (.cells #[.int .i64 (k : Int)] 3)).cell? ⟨wr.heap.size + 1, 0, none⟩ = some (.int .i64 (k : Int))) := Lib.hid (by
          have h := cell_new1 (wr.alloc (.cells #[.int .i64 N, .int .i64 E] 89)) (.int .i64 (k : Int)) 3
          simp only [World.size_alloc] at h
          exact h)
        by_cases hN0 : N = 0
        · have b1 : (N == 0) = true := by simpa using hN0
          clear hN0 ht
          go_wp2_with (at_builtin; refine wpList_app _ rfl (.tmp 30) (.tmp 32) 53 rfl W1.heap.size 3 Try.underlying53 infoInt _ T rfl (by exact HOA.out.alloc _) (wr.heap.size + 1) 1 (k : Int) rfl (by exact HCN.out) W1.heap.size W1 (by exact HBB.out) (Nat.le_refl _) (by exact HBB.out.size) j hT (by omega) _ rfl ?_; intro g' cap' w3 hown3 hb3)
          go_roundw
          case rel => exact ⟨k + 1, j + 1, _, _, cap', by omega, by go_num, rfl, by simp [hT], by omega, HN, hown3, hb3⟩
          case measure => simp [intOf]; omega
        · have hNE : N = E := by rcases ht with h | h; exact absurd h hN0; exact h
          have b1 : (N == 0) = false := by simpa using hN0
          have b2 : (N == E) = true := by simpa using hNE
          clear hN0 hNE ht
          go_wp2_with (at_builtin; refine wpList_app _ rfl (.tmp 30) (.tmp 32) 53 rfl W1.heap.size 3 Try.underlying53 infoInt _ T rfl (by exact HOA.out.alloc _) (wr.heap.size + 1) 1 (k : Int) rfl (by exact HCN.out) W1.heap.size W1 (by exact HBB.out) (Nat.le_refl _) (by exact HBB.out.size) j hT (by omega) _ rfl ?_; intro g' cap' w3 hown3 hb3)
          go_roundw
          case rel => exact ⟨k + 1, j + 1, _, _, cap', by omega, by go_num, rfl, by simp [hT], by omega, HN, hown3, hb3⟩
          case measure => simp [intOf]; omega
    · obtain rfl : m = k := by omega
      have HBB := Lib.hid (B1.out.trans (HB.out.mono B1.out.size))
      have HO9 : Hid (OwnV wr w.heap.size 3 (.slice A9 j c9) (tchL L m)) := Lib.hid (by rw [HTT.out]; exact ownV_low HO.out B1.out.size)
      go_wp2
      go_ret
      exact intsPost (by have := HO9.out; exact this) HBB.out

set_option maxRecDepth 100000 in
set_option maxHeartbeats 1600000 in
theorem has_any (A : Option Addr) (n c : Nat) (xs : List Int) (x : Int) (w : World) (h : IntsAt w w.heap.size A n xs) (hn : n ≤ 1048576) :
    Calls Try.prog 19 #[.slice A n c, .int .i64 x] w fun e w' => e = .returned (.bool (hasI xs x n)) ∧ w = w' := by
  have H := Lib.hid h
  clear h
  go_enter Try.func19, Try.ntmps19
  go_wp2
  go_loopw [5] (fun v5 wr => ∃ k : Nat, v5 = .int .i64 k ∧ k ≤ n ∧ Hid (hasI xs x k = false) ∧ wr = w) (fun v5 _ => n - (intOf v5).toNat)
  case atStart => exact ⟨0, rfl, Nat.zero_le _, Lib.hid rfl, rfl⟩
  case round =>
    obtain ⟨k, rfl, hk, HF, rfl⟩ := hrel
    by_cases hlt : k < n
    · obtain ⟨b, off, rfl, hbl, hc⟩ := H.out.2 (by omega)
      have x0 := hc k hlt
      have ki : (k : Int) < (n : Int) := by omega
      have k0 : (0 : Int) ≤ (k : Int) := by omega
      have ek : IntKind.i64.wrap ((k : Int) + 1) = (k : Int) + 1 := IntWalk.i64_in _ (by omega)
      have HS : Hid (hasI xs x (k + 1) = decide (nth xs k = x)) := Lib.hid (by simp [hasI, HF.out])
      have HT : Hid (nth xs k = x → hasI xs x n = true) := Lib.hid (fun e => (hasI_iff xs x n).2 ⟨k, hlt, e⟩)
      clear hc
      generalize nth xs k = y at *
      by_cases e : y = x
      · have HY := Lib.hid (HT.out e)
        go_wp2
        go_ret
        exact ⟨ret_bool HY.out.symm, by first | rfl | trivial⟩
      · have HN : Hid (hasI xs x (k + 1) = false) := Lib.hid (by rw [HS.out]; exact decide_eq_false e)
        go_wp2
        go_roundw
        case rel => exact ⟨k + 1, by go_num, by omega, HN, by first | rfl | trivial⟩
        case measure => simp [intOf]; omega
    · obtain rfl : n = k := by omega
      have nn : ¬ (n : Int) < (n : Int) := by omega
      go_wp2
      go_ret
      exact ⟨ret_bool HF.out.symm, by first | rfl | trivial⟩
end Go.Proofs.Ytdjhiegolojoaaa
