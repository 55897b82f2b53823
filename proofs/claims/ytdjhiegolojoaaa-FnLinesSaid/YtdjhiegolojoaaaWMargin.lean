/-
  Contracts: MarginOf in the program and in the reference.
-/
import Derived.Test.YtdjhiegolojoaaaPMargin
import Derived.Test.YtdjhiegolojoaaaWPlacesS
import Derived.BigRegion
namespace Go.Proofs.Ytdjhiegolojoaaa
open Go.RowKit
set_option linter.unusedSimpArgs false

def MgPost (w : World) (L : List Int) (m : Nat) (e : Ending) (w' : World) : Prop := e = .returned (.tuple #[.int .i64 (mgN L m), .int .i64 (mgD L m), .bool (decide (0 < m))]) ∧ Below w.heap.size w w'
theorem pk_all {zs : List Int} {n : Nat} {ls : List Int} {q : Nat} {H V M D : Int} : PlAll (pkLs zs n ls q H V M D) (pkLen zs n ls q H V M D) := by
  intro i hi
  cases h : allPk zs n ls q H V M D
  · rw [(pkLen_f h).1] at hi; omega
  · rw [(pkLen_t h).1] at hi
    rw [(pkLen_t h).2, (pkL_nth hi).1, (pkL_nth hi).2]
    exact pkB_ok (allB_out h i hi)
theorem pkLen_leM (zs : List Int) (n : Nat) (ls : List Int) (q : Nat) (H V M D : Int) : pkLen zs n ls q H V M D ≤ n := by
  unfold pkLen
  split <;> omega
theorem pkLen_le8 (zs : List Int) (n : Nat) (ls : List Int) (q : Nat) (H V M D : Int) : pkLen zs n ls q H V M D ≤ 8 := by
  cases h : allPk zs n ls q H V M D
  · rw [(pkLen_f h).1]; omega
  · rw [(pkLen_t h).1]
    by_cases e : n = 0
    · omega
    · have h1 : plcB zs n ls q H V M D ((0 : Nat) : Int) = true := allB_out h 0 (by omega)
      simp only [plcB, insB, Bool.and_eq_true] at h1
      exact (archB_out (loadsB_out (pushB_out h1.1.1).1).1).1.2
theorem dbl_ok {L : List Int} {m : Nat} (h : PlAll L m) : ∀ i, i < 2 * m → plOkI (dblL L m) i := by
  intro i hi
  have hk : i / 2 < m := by omega
  obtain ⟨h1, h2, h3, h4, _⟩ := h (i / 2) hk
  obtain ⟨d0, d1, d2, d3⟩ := dblL_nth L hk
  unfold plOkI plB
  rcases Nat.mod_two_eq_zero_or_one i with e | e
  · rw [show i * 2 + 1 = i / 2 * 4 + 1 by omega, show i * 2 = i / 2 * 4 by omega, d0, d1]; omega
  · rw [show i * 2 + 1 = i / 2 * 4 + 3 by omega, show i * 2 = i / 2 * 4 + 2 by omega, d2, d3]; omega
theorem OwnR.capM {w : World} {base : Nat} {E : TypeId} {K n : Nat} {A : Option Addr} {c : Nat} {xs : List Int} (h : OwnR w base E K (.slice A n c) n xs) : c ≤ 9223372036854775807 := by
  rcases h.1.2 with ⟨h1, _⟩ | ⟨g, cap, cur, h1, _, _, _, h5, _⟩
  · simp at h1; omega
  · simp at h1
    unfold maxLen at h5
    omega
theorem mg_t {L : List Int} {m : Nat} (h : 0 < m) : mgN L m = (mgTo L m).1 ∧ mgD L m = (mgTo L m).2 := by
  simp [mgN, mgD, show ¬ m = 0 by omega]

set_option maxRecDepth 100000 in
set_option maxHeartbeats 3200000 in
theorem iMargin_any (A : Option Addr) (n c : Nat) (zs : List Int) (B : Option Addr) (q d : Nat) (ls : List Int) (H V M D : Int) (w : World) (h : RecsAt w w.heap.size 4 A n zs) (hn : n ≤ 1048576) (hl : RecsAt w w.heap.size 3 B q ls) (hq : q ≤ 1048576) :
    Calls Try.prog 16 #[.agg #[.slice A n c], .slice B q d, .agg #[.int .i64 H, .int .i64 V, .int .i64 M, .int .i64 D]] w (MgPost w (pkLs zs n ls q H V M D) (pkLen zs n ls q H V M D)) := by
  have at0 := AT.start w (.slice A n c) H V M D 41 46
  have b0 := at_below w (.slice A n c) H V M D 41 46
  have h1 := h.after b0
  have l1 := hl.after b0
  have HAT := Lib.hid at0
  have HPK := Lib.hid (pk_all (zs := zs) (n := n) (ls := ls) (q := q) (H := H) (V := V) (M := M) (D := D))
  have hle := pkLen_le8 zs n ls q H V M D
  clear at0 b0 h hl
  go_enter Try.func16, Try.ntmps16
  go_wp2_with fail
  refine (placesOf_any _ _ _ zs _ _ _ ls _ _ _ _ _ h1 (by omega) l1 hq).mono ?_
  generalize pkLs zs n ls q H V M D = L at *
  generalize pkLen zs n ls q H V M D = m at *
  rintro e W1 ⟨A7, c7, rfl, hrec, hc7, hb1⟩
  have B1 := Lib.hid (HAT.out.after hb1).below
  have HRC := Lib.hid hrec
  clear hb1 h1 l1 hrec HAT
  go_wp2
  go_loopw [9, 18] (fun v9 v18 wr => ∃ (k : Nat), k ≤ m ∧ v18 = .int .i64 k ∧ Hid (OwnR wr W1.heap.size 89 2 v9 (k * 2) (dblL L k)) ∧ Hid (Below W1.heap.size W1 wr)) (fun _ v18 _ => m - (intOf v18).toNat)
  case atStart => exact ⟨0, Nat.zero_le _, rfl, Lib.hid (OwnR.nil _ _ _ _), Lib.hid (Below.refl _ _)⟩
  case round =>
    obtain ⟨k, hk, rfl, HO, HB⟩ := hrel
    by_cases hlt : k < m
    · obtain ⟨b, off, rfl, hbl, hc⟩ := HRC.out.2 (by omega)
      obtain ⟨g1, g2, g3, g4, _⟩ := HPK.out k hlt
      have x0 : wr.cell? ⟨b, off + k * 2, none⟩ = some (.int .i64 (nth L (k * 2))) := (HB.out.cell (p := ⟨b, off + k * 2, none⟩) hbl).trans (hc (k * 2) (by omega))
      have x1 : wr.cell? ⟨b, off + k * 2 + 1, none⟩ = some (.int .i64 (nth L (k * 2 + 1))) := (HB.out.cell (p := ⟨b, off + k * 2 + 1, none⟩) hbl).trans (hc (k * 2 + 1) (by omega))
      have HX : Hid (dblL L k ++ [nth L (k * 2), nth L (k * 2 + 1), nth L (k * 2 + 1) - nth L (k * 2), nth L (k * 2 + 1)] = dblL L (k + 1)) := rfl
      generalize nth L (k * 2) = N at *
      generalize nth L (k * 2 + 1) = E at *
      have hz := HB.out.size
      have ki : (k : Int) < (m : Int) := by omega
      have k0 : (0 : Int) ≤ (k : Int) := by omega
      have ew : IntKind.i64.wrap (E - N) = E - N := IntWalk.i64_in _ (by omega)
      have bn := rowF_new2 wr N E 89
      have y0 : (wr.alloc (.cells #[.int .i64 N, .int .i64 E] 89)).cell? ⟨wr.heap.size, 0, none⟩ = some (.int .i64 N) := bn.cell (by omega)
      have y1 : (wr.alloc (.cells #[.int .i64 N, .int .i64 E] 89)).cell? ⟨wr.heap.size, 1, none⟩ = some (.int .i64 E) := bn.cell (by omega)
      have HBA := Lib.hid ((HB.out.alloc hz (.cells #[.int .i64 N, .int .i64 E] 89)).alloc (by simp; omega) (.cells #[.int .i64 N, .int .i64 E, .int .i64 (E - N), .int .i64 E] 89))
      have hW0 : W1.heap.size ≤ ((wr.alloc (.cells #[.int .i64 N, .int .i64 E] 89)).alloc (.cells #[.int .i64 N, .int .i64 E, .int .i64 (E - N), .int .i64 E] 89)).heap.size := HBA.out.size
      have HCN : Hid (∀ i, i < 2 * 2 → ((wr.alloc (.cells #[.int .i64 N, .int .i64 E] 89)).alloc (.cells #[.int .i64 N, .int .i64 E, .int .i64 (E - N), .int .i64 E] 89)).cell? ⟨wr.heap.size + 1, i, none⟩ = some (.int .i64 (nth [N, E, E - N, E] i))) := by
        intro i hi
        have h := World.rowIs_alloc (wr.alloc (.cells #[.int .i64 N, .int .i64 E] 89)) #[.int .i64 N, .int .i64 E, .int .i64 (E - N), .int .i64 E] 89 (ints [N, E, E - N, E]) (fun i hi => by simp at hi; match i, hi with | 0, _ => rfl | 1, _ => rfl | 2, _ => rfl | 3, _ => rfl)
        rw [World.size_alloc] at h
        exact World.rowIs.cell h (by simpa using hi)
      have HOA := Lib.hid ((HO.out.alloc (.cells #[.int .i64 N, .int .i64 E] 89)).alloc (.cells #[.int .i64 N, .int .i64 E, .int .i64 (E - N), .int .i64 E] 89))
      clear hc bn g1 g2 g3 g4
      go_wp2_with (at_builtin; refine wpList_appR _ rfl (.tmp 22) (.tmp 32) 86 rfl W1.heap.size 89 2 16 #[.int .i64 0, .int .i64 0] Try.underlying86 infoPlace rfl (by decide) (by decide) _ (k * 2) (dblL L k) rfl (by exact HOA.out) (wr.heap.size + 1) 2 2 [N, E, E - N, E] rfl rfl (by exact HCN.out) (by omega) W1.heap.size W1 (by exact HBA.out) (Nat.le_refl _) hW0 _ HX.out ?_ (by omega); intro g' cap' w3 hown3 hb3)
      go_wp2
      go_roundw
      case rel => exact ⟨k + 1, by omega, by go_num, by rw [show (k + 1) * 2 = k * 2 + 2 by omega]; exact hown3, hb3⟩
      case measure => simp [intOf]; omega
    · obtain rfl : m = k := by omega
      obtain ⟨A9, c9, rfl, hc9⟩ := HO.out.slice
      have HR := Lib.hid HO.out.recs
      have hcap := HO.out.capM
      by_cases hm0 : m = 0
      · subst hm0
        have e0 : (((0 : Nat) : Int) * 2 == 0) = true := rfl
        have HBB := Lib.hid (B1.out.trans (HB.out.mono B1.out.size))
        go_wp2
        go_ret3
        exact ⟨rfl, HBB.out⟩
      · have hm1 : (((m * 2 : Nat) : Int) == 0) = false := by simp; omega
        have HDB := Lib.hid (dbl_best HPK.out (m - 1) (by omega))
        have HOK := Lib.hid (dbl_ok HPK.out)
        have HMT := Lib.hid (mg_t (L := L) (show 0 < m by omega))
        go_wp2_with fail
        refine (bestPlace_any _ (m * 2) c9 (dblL L m) _ (by exact HR.out) (by omega) (by omega) hc9 hcap (fun i hi => HOK.out i (by omega))).mono ?_
        rw [show m * 2 - 1 = 2 * (m - 1) + 1 by omega, HDB.out, show m - 1 + 1 = m by omega]
        rintro e w2 ⟨rfl, hb2⟩
        have HB2 := Lib.hid ((B1.out.trans (HB.out.mono B1.out.size)).trans (hb2.mono (by have := B1.out.size; have := HB.out.size; omega)))
        clear hb2
        generalize (mgTo L m).1 = r1 at *
        generalize (mgTo L m).2 = r2 at *
        have hz2 := HB2.out.size
        have bn := rowF_new2 w2 r1 r2 89
        have y0 : (w2.alloc (.cells #[.int .i64 r1, .int .i64 r2] 89)).cell? ⟨w2.heap.size, 0, none⟩ = some (.int .i64 r1) := bn.cell (by omega)
        have y1 : (w2.alloc (.cells #[.int .i64 r1, .int .i64 r2] 89)).cell? ⟨w2.heap.size, 1, none⟩ = some (.int .i64 r2) := bn.cell (by omega)
        have HBA := Lib.hid (HB2.out.alloc hz2 (.cells #[.int .i64 r1, .int .i64 r2] 89))
        clear bn
        go_wp2
        go_region
        all_goals
          go_wp2
          go_ret3
          exact ⟨by rw [HMT.out.1, HMT.out.2, decide_eq_true (show 0 < m by omega)]; rfl, below_drewN HBA.out _⟩

theorem min_if (N E : Int) : (if E - N < N then E - N else N) = min N (E - N) := by
  by_cases h : E - N < N
  · rw [if_pos h, Int.min_eq_right (by omega)]
  · rw [if_neg h, Int.min_eq_left (by omega)]
theorem tdiv_one' (x : Int) : Int.tdiv x ((1 : Nat) : Int) = x := by simp
end Go.Proofs.Ytdjhiegolojoaaa
