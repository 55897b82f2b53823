/-
  Contracts: HighestJoint in the reference and in the program.
-/
import Derived.Test.YtbcgckdjbabdjaaWPlaces
import Derived.Test.YtbcgckdjbabdjaaWPlacesS
import Derived.Test.YtbcgckdjbabdjaaWPLess
namespace Go.Proofs.Ytbcgckdjbabdjaa
open Go.RowKit
set_option linter.unusedSimpArgs false

theorem pk_ok {zs : List Int} {n : Nat} {ls : List Int} {q : Nat} {H V M D : Int} : ∀ i, i < pkLen zs n ls q H V M D → PlOk (nth (pkLs zs n ls q H V M D) (i * 2)) (nth (pkLs zs n ls q H V M D) (i * 2 + 1)) := by
  intro i hi
  cases h : allPk zs n ls q H V M D
  · rw [(pkLen_f h).1] at hi; omega
  · rw [(pkLen_t h).1] at hi
    rw [(pkLen_t h).2, (pkL_nth hi).1, (pkL_nth hi).2]
    exact pkB_ok (allB_out h i hi)
theorem pkLen_le (zs : List Int) (n : Nat) (ls : List Int) (q : Nat) (H V M D : Int) : pkLen zs n ls q H V M D ≤ n := by
  unfold pkLen
  split <;> omega
/-- The numbers of place i, not negative. -/
def plU (L : List Int) (i : Nat) : Nat := (nth L (i * 2)).toNat
def plV (L : List Int) (i : Nat) : Nat := (nth L (i * 2 + 1)).toNat
structure PlN (L : List Int) (i : Nat) : Prop where
  u : nth L (i * 2) = (plU L i : Int)
  v : nth L (i * 2 + 1) = (plV L i : Int)
  uo : okU (plU L i)
  vo : okU (plV L i)
  v0 : 0 < plV L i
theorem plN_of {L : List Int} {i : Nat} (h : PlOk (nth L (i * 2)) (nth L (i * 2 + 1))) : PlN L i := by
  obtain ⟨h1, h2, h3, h4, _⟩ := h
  exact ⟨by unfold plU; omega, by unfold plV; omega, by unfold plU okU; omega, by unfold plV okU; omega, by unfold plV; omega⟩
/-- The joint with the greatest place among the first k; -1 if there is none. -/
def hbTo (L : List Int) : Nat → Option Nat
  | 0 => none
  | k + 1 => match hbTo L k with
    | none => some k
    | some b => if plLess (plU L b) (plV L b) (plU L k) (plV L k) = true then some k else some b
def hbI : Option Nat → Int
  | none => -1
  | some b => b
theorem hb_none {L : List Int} {k : Nat} (h : hbTo L k = none) : hbTo L (k + 1) = some k := by simp [hbTo, h]
theorem hb_t {L : List Int} {k b : Nat} (h : hbTo L k = some b) (h2 : plLess (plU L b) (plV L b) (plU L k) (plV L k) = true) : hbTo L (k + 1) = some k := by simp [hbTo, h, h2]
theorem hb_f {L : List Int} {k b : Nat} (h : hbTo L k = some b) (h2 : plLess (plU L b) (plV L b) (plU L k) (plV L k) = false) : hbTo L (k + 1) = some b := by simp [hbTo, h, h2]
theorem hb_lt {L : List Int} : ∀ {k b : Nat}, hbTo L k = some b → b < k
  | 0, b, h => by simp [hbTo] at h
  | k + 1, b, h => by
    cases e : hbTo L k with
    | none => rw [hb_none e] at h; cases h; omega
    | some b' =>
      have ih := hb_lt e
      cases e2 : plLess (plU L b') (plV L b') (plU L k) (plV L k)
      · rw [hb_f e e2] at h; cases h; omega
      · rw [hb_t e e2] at h; cases h; omega

set_option maxRecDepth 100000 in
set_option maxHeartbeats 3200000 in
theorem iHighest_any (A : Option Addr) (n c : Nat) (zs : List Int) (B : Option Addr) (q d : Nat) (ls : List Int) (H V M D : Int) (w : World) (h : RecsAt w w.heap.size 4 A n zs) (hn : n ≤ 1048576) (hl : RecsAt w w.heap.size 3 B q ls) (hq : q ≤ 1048576) :
    Calls Try.prog 32 #[.agg #[.slice A n c], .slice B q d, .agg #[.int .i64 H, .int .i64 V, .int .i64 M, .int .i64 D]] w fun e w' => e = .returned (.int .i64 (hbI (hbTo (pkLs zs n ls q H V M D) (pkLen zs n ls q H V M D)))) ∧ Below w.heap.size w w' := by
  have at0 := AT.start w (.slice A n c) H V M D 31 61
  have b0 := at_below w (.slice A n c) H V M D 31 61
  have h1 := h.after b0
  have l1 := hl.after b0
  have HAT := Lib.hid at0
  have HPK := Lib.hid (pk_ok (zs := zs) (n := n) (ls := ls) (q := q) (H := H) (V := V) (M := M) (D := D))
  have hle := pkLen_le zs n ls q H V M D
  clear at0 b0 h hl
  go_enter Try.func32, Try.ntmps32
  go_wp2_with fail
  refine (placesOf_any _ _ _ zs _ _ _ ls _ _ _ _ _ h1 hn l1 hq).mono ?_
  generalize hLE : pkLs zs n ls q H V M D = L at *
  generalize hME : pkLen zs n ls q H V M D = m at *
  have HLM := Lib.hid (And.intro hLE hME)
  clear hLE hME
  rintro e W1 ⟨A7, c7, rfl, hrec, hc7, hb1⟩
  have B1 := Lib.hid (HAT.out.after hb1).below
  have HRC := Lib.hid hrec
  clear hb1 h1 l1 hrec HAT
  go_wp2
  go_loopw [7, 17] (fun v7 v17 wr => ∃ (k : Nat) (best : Option Nat), k ≤ m ∧ v17 = .int .i64 k ∧ v7 = .int .i64 (hbI best) ∧ Hid (hbTo L k = best) ∧ Hid (Below W1.heap.size W1 wr)) (fun _ v17 _ => m - (intOf v17).toNat)
  case atStart => exact ⟨0, none, Nat.zero_le _, rfl, rfl, Lib.hid rfl, Lib.hid (Below.refl _ _)⟩
  case round =>
    obtain ⟨k, best, hk, rfl, rfl, HE, HB⟩ := hrel
    by_cases hlt : k < m
    · obtain ⟨b, off, rfl, hbl, hc⟩ := HRC.out.2 (by omega)
      obtain ⟨pu, pv, puo, pvo, pv0⟩ := plN_of (HPK.out k hlt)
      have x0 : wr.cell? ⟨b, off + k * 2, none⟩ = some (.int .i64 (plU L k)) := (HB.out.cell (p := ⟨b, off + k * 2, none⟩) hbl).trans ((hc (k * 2) (by omega)).trans (by rw [pu]))
      have x1 : wr.cell? ⟨b, off + k * 2 + 1, none⟩ = some (.int .i64 (plV L k)) := (HB.out.cell (p := ⟨b, off + k * 2 + 1, none⟩) hbl).trans ((hc (k * 2 + 1) (by omega)).trans (by rw [pv]))
      have hz := HB.out.size
      have ki : (k : Int) < (m : Int) := by omega
      have k0 : (0 : Int) ≤ (k : Int) := by omega
      have HBA := Lib.hid (HB.out.alloc hz (.cells #[.int .i64 (plU L k), .int .i64 (plV L k)] 124))
      have bn := rowF_new2 wr (plU L k) (plV L k) 124
      have y0 : (wr.alloc (.cells #[.int .i64 (plU L k), .int .i64 (plV L k)] 124)).cell? ⟨wr.heap.size, 0, none⟩ = some (.int .i64 (plU L k)) := bn.cell (by omega)
      have y1 : (wr.alloc (.cells #[.int .i64 (plU L k), .int .i64 (plV L k)] 124)).cell? ⟨wr.heap.size, 1, none⟩ = some (.int .i64 (plV L k)) := bn.cell (by omega)
      clear bn
      cases best with
      | none =>
        have HS := Lib.hid (hb_none HE.out)
        simp only [hbI]
        clear hc y0 y1
        go_wp2
        refine wp_region_held_drew (S := fun _ => True) (by kernel_rfl) (by trivial) (fun hHeld => ?_)
        refine take_heldS (i := 0) (d := 22) rfl rfl (by kernel_rfl) (by kernel_rfl) (by kernel_rfl) (fun _ _ _ h => h) (by kernel_rfl) (fun w hSw => by (try dsimp only at hSw); go_simp; try rfl) (by assumption) ?_
        try simp only [Act.put, List.setIfInBounds_toArray, List.set_cons_zero, List.set_cons_succ]
        refine take_heldS (i := 1) (d := 23) (v := (.bool true)) rfl rfl (by kernel_rfl) (by kernel_rfl) (by kernel_rfl) (fun _ _ _ h => h) (by kernel_rfl) (fun w hSw => by (try dsimp only at hSw); go_simp; try rfl) (by assumption) ?_
        try simp only [Act.put, List.setIfInBounds_toArray, List.set_cons_zero, List.set_cons_succ]
        refine take_heldS (i := 2) (d := 24) (v := (.bool true)) rfl rfl (by kernel_rfl) (by kernel_rfl) (by kernel_rfl) (fun _ _ _ h => h) (by kernel_rfl) (fun w hSw => by (try dsimp only at hSw); go_simp; try rfl) (by assumption) ?_
        try simp only [Act.put, List.setIfInBounds_toArray, List.set_cons_zero, List.set_cons_succ]
        refine skip_heldS (i := 3) (d := 25) rfl rfl (by kernel_rfl) (by kernel_rfl) (by kernel_rfl) (fun _ _ _ h => h) (by kernel_rfl) (by assumption) ?_
        try simp only [Act.put, List.setIfInBounds_toArray, List.set_cons_zero, List.set_cons_succ]
        refine skip_heldS (i := 4) (d := 26) rfl rfl (by kernel_rfl) (by kernel_rfl) (by kernel_rfl) (fun _ _ _ h => h) (by kernel_rfl) (by assumption) ?_
        try simp only [Act.put, List.setIfInBounds_toArray, List.set_cons_zero, List.set_cons_succ]
        refine skip_heldS (i := 5) (d := 27) rfl rfl (by kernel_rfl) (by kernel_rfl) (by kernel_rfl) (fun _ _ _ h => h) (by kernel_rfl) (by assumption) ?_
        try simp only [Act.put, List.setIfInBounds_toArray, List.set_cons_zero, List.set_cons_succ]
        refine skip_heldS (i := 6) (d := 28) rfl rfl (by kernel_rfl) (by kernel_rfl) (by kernel_rfl) (fun _ _ _ h => h) (by kernel_rfl) (by assumption) ?_
        try simp only [Act.put, List.setIfInBounds_toArray, List.set_cons_zero, List.set_cons_succ]
        refine skip_heldS (i := 7) (d := 29) rfl rfl (by kernel_rfl) (by kernel_rfl) (by kernel_rfl) (fun _ _ _ h => h) (by kernel_rfl) (by assumption) ?_
        try simp only [Act.put, List.setIfInBounds_toArray, List.set_cons_zero, List.set_cons_succ]
        refine skip_heldS (i := 8) (d := 30) rfl rfl (by kernel_rfl) (by kernel_rfl) (by kernel_rfl) (fun _ _ _ h => h) (by kernel_rfl) (by assumption) ?_
        try simp only [Act.put, List.setIfInBounds_toArray, List.set_cons_zero, List.set_cons_succ]
        refine take_heldS (i := 9) (d := 31) rfl rfl (by kernel_rfl) (by kernel_rfl) (by kernel_rfl) (fun _ _ _ h => h) (by kernel_rfl) (fun w hSw => by (try dsimp only at hSw); go_simp; try rfl) (by assumption) ?_
        try simp only [Act.put, List.setIfInBounds_toArray, List.set_cons_zero, List.set_cons_succ]
        refine wpAnyH_done (by kernel_rfl) ?_ _
        go_wp2
        go_roundw
        case rel => exact ⟨k + 1, some k, by omega, by go_num, rfl, HS, Lib.hid HBA.out.drew⟩
        case measure => simp [intOf]; omega
      | some bi =>
        have hbk := hb_lt HE.out
        obtain ⟨qu, qv, quo, qvo, qv0⟩ := plN_of (HPK.out bi (by omega))
        have z0 : (wr.alloc (.cells #[.int .i64 (plU L k), .int .i64 (plV L k)] 124)).cell? ⟨b, off + bi * 2, none⟩ = some (.int .i64 (plU L bi)) := (World.cell?_alloc_lt wr _ ⟨b, off + bi * 2, none⟩ (by show b < wr.heap.size; omega)).trans ((HB.out.cell (p := ⟨b, off + bi * 2, none⟩) hbl).trans ((hc (bi * 2) (by omega)).trans (by rw [qu])))
        have z1 : (wr.alloc (.cells #[.int .i64 (plU L k), .int .i64 (plV L k)] 124)).cell? ⟨b, off + bi * 2 + 1, none⟩ = some (.int .i64 (plV L bi)) := (World.cell?_alloc_lt wr _ ⟨b, off + bi * 2 + 1, none⟩ (by show b < wr.heap.size; omega)).trans ((HB.out.cell (p := ⟨b, off + bi * 2 + 1, none⟩) hbl).trans ((hc (bi * 2 + 1) (by omega)).trans (by rw [qv])))
        have bi0 : (0 : Int) ≤ (bi : Int) := by omega
        have bi1 : (bi : Int) < (m : Int) := by omega
        have bi2 : ¬ (bi : Int) < 0 := by omega
        have hbb : b < wr.heap.size := by omega
        have HT := Lib.hid (fun e => hb_t HE.out e)
        have HF := Lib.hid (fun e => hb_f HE.out e)
        simp only [hbI]
        clear hc pu pv qu qv
        cases hc2 : plLess (plU L bi) (plV L bi) (plU L k) (plV L k)
        all_goals
          go_wp2
          go_region_held3 (fun w' => w'.cell? ⟨b, off + bi * 2, none⟩ = some (.int .i64 (plU L bi)) ∧ w'.cell? ⟨b, off + bi * 2 + 1, none⟩ = some (.int .i64 (plV L bi)) ∧ w'.cell? ⟨wr.heap.size, 0, none⟩ = some (.int .i64 (plU L k)) ∧ w'.cell? ⟨wr.heap.size, 1, none⟩ = some (.int .i64 (plV L k))) (first | exact ⟨z0, z1, y0, y1⟩ | exact ⟨(hcc _ _ (by simp; omega)).trans z0, (hcc _ _ (by simp; omega)).trans z1, (hcc _ _ (by simp)).trans y0, (hcc _ _ (by simp)).trans y1⟩)
            ((go_at_call 79; refine (placeLess_any _ _ _ _ _ quo qvo puo pvo).mono ?_; rw [hc2]; rintro e w2 ⟨rfl, hb2⟩; obtain ⟨hcc, hff⟩ := bcell hb2))
          have HB2 := Lib.hid (HBA.out.drew.trans (hb2.mono (by simp; omega)))
          clear hcc hff hb2
        · have HS := Lib.hid (HF.out hc2)
          go_wp2
          go_roundw
          case rel => exact ⟨k + 1, some bi, by omega, by go_num, rfl, HS, HB2⟩
          case measure => simp [intOf]; omega
        · have HS := Lib.hid (HT.out hc2)
          go_wp2
          go_roundw
          case rel => exact ⟨k + 1, some k, by omega, by go_num, rfl, HS, HB2⟩
          case measure => simp [intOf]; omega
    · obtain rfl : m = k := by omega
      go_wp2
      go_ret
      exact ⟨ret_int (by rw [HLM.out.1, HLM.out.2, HE.out]), B1.out.trans (HB.out.mono B1.out.size)⟩

set_option maxRecDepth 100000 in
set_option maxHeartbeats 3200000 in
theorem sHighest_any (A : Option Addr) (n c : Nat) (zs : List Int) (B : Option Addr) (q d : Nat) (ls : List Int) (H V M D : Int) (w : World) (h : RecsAt w w.heap.size 4 A n zs) (hn : n ≤ 1048576) (hl : RecsAt w w.heap.size 3 B q ls) (hq : q ≤ 1048576) :
    Calls Try.prog 29 #[.agg #[.slice A n c], .slice B q d, .agg #[.int .i64 H, .int .i64 V, .int .i64 M, .int .i64 D]] w fun e w' => e = .returned (.int .i64 (hbI (hbTo (pkLs zs n ls q H V M D) (pkLen zs n ls q H V M D)))) ∧ Below w.heap.size w w' := by
  have at0 := AT.start w (.slice A n c) H V M D 31 61
  have b0 := at_below w (.slice A n c) H V M D 31 61
  have h1 := h.after b0
  have l1 := hl.after b0
  have HAT := Lib.hid at0
  have HPK := Lib.hid (pk_ok (zs := zs) (n := n) (ls := ls) (q := q) (H := H) (V := V) (M := M) (D := D))
  have hle := pkLen_le zs n ls q H V M D
  clear at0 b0 h hl
  go_enter Try.func29, Try.ntmps29
  go_wp2_with fail
  refine (sPlacesOf_any _ _ _ zs _ _ _ ls _ _ _ _ _ h1 hn l1 hq).mono ?_
  generalize hLE : pkLs zs n ls q H V M D = L at *
  generalize hME : pkLen zs n ls q H V M D = m at *
  have HLM := Lib.hid (And.intro hLE hME)
  clear hLE hME
  rintro e W1 ⟨A7, c7, rfl, hrec, hc7, hb1⟩
  have B1 := Lib.hid (HAT.out.after hb1).below
  have HRC := Lib.hid hrec
  clear hb1 h1 l1 hrec HAT
  go_wp2
  go_loopw [8, 9] (fun v8 v9 wr => ∃ (k : Nat) (best : Option Nat), k ≤ m ∧ v9 = .int .i64 k ∧ v8 = .int .i64 (hbI best) ∧ Hid (hbTo L k = best) ∧ Hid (Below W1.heap.size W1 wr)) (fun _ v9 _ => m - (intOf v9).toNat)
  case atStart => exact ⟨0, none, Nat.zero_le _, rfl, rfl, Lib.hid rfl, Lib.hid (Below.refl _ _)⟩
  case round =>
    obtain ⟨k, best, hk, rfl, rfl, HE, HB⟩ := hrel
    by_cases hlt : k < m
    · obtain ⟨b, off, rfl, hbl, hc⟩ := HRC.out (by omega)
      have ki : (k : Int) < (m : Int) := by omega
      have k0 : (0 : Int) ≤ (k : Int) := by omega
      have hz := HB.out.size
      cases best with
      | none =>
        have HS := Lib.hid (hb_none HE.out)
        simp only [hbI]
        clear hc
        go_wp2
        refine wp_region_held_drew (S := fun _ => True) (by kernel_rfl) (by trivial) (fun hHeld => ?_)
        refine take_heldS (i := 0) (d := 20) rfl rfl (by kernel_rfl) (by kernel_rfl) (by kernel_rfl) (fun _ _ _ h => h) (by kernel_rfl) (fun w hSw => by (try dsimp only at hSw); go_simp; try rfl) (by assumption) ?_
        try simp only [Act.put, List.setIfInBounds_toArray, List.set_cons_zero, List.set_cons_succ]
        refine take_heldS (i := 1) (d := 21) (v := (.bool true)) rfl rfl (by kernel_rfl) (by kernel_rfl) (by kernel_rfl) (fun _ _ _ h => h) (by kernel_rfl) (fun w hSw => by (try dsimp only at hSw); go_simp; try rfl) (by assumption) ?_
        try simp only [Act.put, List.setIfInBounds_toArray, List.set_cons_zero, List.set_cons_succ]
        refine take_heldS (i := 2) (d := 22) (v := (.bool true)) rfl rfl (by kernel_rfl) (by kernel_rfl) (by kernel_rfl) (fun _ _ _ h => h) (by kernel_rfl) (fun w hSw => by (try dsimp only at hSw); go_simp; try rfl) (by assumption) ?_
        try simp only [Act.put, List.setIfInBounds_toArray, List.set_cons_zero, List.set_cons_succ]
        refine skip_heldS (i := 3) (d := 23) rfl rfl (by kernel_rfl) (by kernel_rfl) (by kernel_rfl) (fun _ _ _ h => h) (by kernel_rfl) (by assumption) ?_
        try simp only [Act.put, List.setIfInBounds_toArray, List.set_cons_zero, List.set_cons_succ]
        refine skip_heldS (i := 4) (d := 24) rfl rfl (by kernel_rfl) (by kernel_rfl) (by kernel_rfl) (fun _ _ _ h => h) (by kernel_rfl) (by assumption) ?_
        try simp only [Act.put, List.setIfInBounds_toArray, List.set_cons_zero, List.set_cons_succ]
        refine skip_heldS (i := 5) (d := 25) rfl rfl (by kernel_rfl) (by kernel_rfl) (by kernel_rfl) (fun _ _ _ h => h) (by kernel_rfl) (by assumption) ?_
        try simp only [Act.put, List.setIfInBounds_toArray, List.set_cons_zero, List.set_cons_succ]
        refine skip_heldS (i := 6) (d := 26) rfl rfl (by kernel_rfl) (by kernel_rfl) (by kernel_rfl) (fun _ _ _ h => h) (by kernel_rfl) (by assumption) ?_
        try simp only [Act.put, List.setIfInBounds_toArray, List.set_cons_zero, List.set_cons_succ]
        refine skip_heldS (i := 7) (d := 27) rfl rfl (by kernel_rfl) (by kernel_rfl) (by kernel_rfl) (fun _ _ _ h => h) (by kernel_rfl) (by assumption) ?_
        try simp only [Act.put, List.setIfInBounds_toArray, List.set_cons_zero, List.set_cons_succ]
        refine skip_heldS (i := 8) (d := 28) rfl rfl (by kernel_rfl) (by kernel_rfl) (by kernel_rfl) (fun _ _ _ h => h) (by kernel_rfl) (by assumption) ?_
        try simp only [Act.put, List.setIfInBounds_toArray, List.set_cons_zero, List.set_cons_succ]
        refine skip_heldS (i := 9) (d := 29) rfl rfl (by kernel_rfl) (by kernel_rfl) (by kernel_rfl) (fun _ _ _ h => h) (by kernel_rfl) (by assumption) ?_
        try simp only [Act.put, List.setIfInBounds_toArray, List.set_cons_zero, List.set_cons_succ]
        refine skip_heldS (i := 10) (d := 30) rfl rfl (by kernel_rfl) (by kernel_rfl) (by kernel_rfl) (fun _ _ _ h => h) (by kernel_rfl) (by assumption) ?_
        try simp only [Act.put, List.setIfInBounds_toArray, List.set_cons_zero, List.set_cons_succ]
        refine skip_heldS (i := 11) (d := 31) rfl rfl (by kernel_rfl) (by kernel_rfl) (by kernel_rfl) (fun _ _ _ h => h) (by kernel_rfl) (by assumption) ?_
        try simp only [Act.put, List.setIfInBounds_toArray, List.set_cons_zero, List.set_cons_succ]
        refine skip_heldS (i := 12) (d := 32) rfl rfl (by kernel_rfl) (by kernel_rfl) (by kernel_rfl) (fun _ _ _ h => h) (by kernel_rfl) (by assumption) ?_
        try simp only [Act.put, List.setIfInBounds_toArray, List.set_cons_zero, List.set_cons_succ]
        refine skip_heldS (i := 13) (d := 33) rfl rfl (by kernel_rfl) (by kernel_rfl) (by kernel_rfl) (fun _ _ _ h => h) (by kernel_rfl) (by assumption) ?_
        try simp only [Act.put, List.setIfInBounds_toArray, List.set_cons_zero, List.set_cons_succ]
        refine skip_heldS (i := 14) (d := 34) rfl rfl (by kernel_rfl) (by kernel_rfl) (by kernel_rfl) (fun _ _ _ h => h) (by kernel_rfl) (by assumption) ?_
        try simp only [Act.put, List.setIfInBounds_toArray, List.set_cons_zero, List.set_cons_succ]
        refine skip_heldS (i := 15) (d := 35) rfl rfl (by kernel_rfl) (by kernel_rfl) (by kernel_rfl) (fun _ _ _ h => h) (by kernel_rfl) (by assumption) ?_
        try simp only [Act.put, List.setIfInBounds_toArray, List.set_cons_zero, List.set_cons_succ]
        refine skip_heldS (i := 16) (d := 36) rfl rfl (by kernel_rfl) (by kernel_rfl) (by kernel_rfl) (fun _ _ _ h => h) (by kernel_rfl) (by assumption) ?_
        try simp only [Act.put, List.setIfInBounds_toArray, List.set_cons_zero, List.set_cons_succ]
        refine skip_heldS (i := 17) (d := 37) rfl rfl (by kernel_rfl) (by kernel_rfl) (by kernel_rfl) (fun _ _ _ h => h) (by kernel_rfl) (by assumption) ?_
        try simp only [Act.put, List.setIfInBounds_toArray, List.set_cons_zero, List.set_cons_succ]
        refine skip_heldS (i := 18) (d := 38) rfl rfl (by kernel_rfl) (by kernel_rfl) (by kernel_rfl) (fun _ _ _ h => h) (by kernel_rfl) (by assumption) ?_
        try simp only [Act.put, List.setIfInBounds_toArray, List.set_cons_zero, List.set_cons_succ]
        refine skip_heldS (i := 19) (d := 39) rfl rfl (by kernel_rfl) (by kernel_rfl) (by kernel_rfl) (fun _ _ _ h => h) (by kernel_rfl) (by assumption) ?_
        try simp only [Act.put, List.setIfInBounds_toArray, List.set_cons_zero, List.set_cons_succ]
        refine skip_heldS (i := 20) (d := 40) rfl rfl (by kernel_rfl) (by kernel_rfl) (by kernel_rfl) (fun _ _ _ h => h) (by kernel_rfl) (by assumption) ?_
        try simp only [Act.put, List.setIfInBounds_toArray, List.set_cons_zero, List.set_cons_succ]
        refine skip_heldS (i := 21) (d := 41) rfl rfl (by kernel_rfl) (by kernel_rfl) (by kernel_rfl) (fun _ _ _ h => h) (by kernel_rfl) (by assumption) ?_
        try simp only [Act.put, List.setIfInBounds_toArray, List.set_cons_zero, List.set_cons_succ]
        refine skip_heldS (i := 22) (d := 42) rfl rfl (by kernel_rfl) (by kernel_rfl) (by kernel_rfl) (fun _ _ _ h => h) (by kernel_rfl) (by assumption) ?_
        try simp only [Act.put, List.setIfInBounds_toArray, List.set_cons_zero, List.set_cons_succ]
        refine skip_heldS (i := 23) (d := 43) rfl rfl (by kernel_rfl) (by kernel_rfl) (by kernel_rfl) (fun _ _ _ h => h) (by kernel_rfl) (by assumption) ?_
        try simp only [Act.put, List.setIfInBounds_toArray, List.set_cons_zero, List.set_cons_succ]
        refine skip_heldS (i := 24) (d := 44) rfl rfl (by kernel_rfl) (by kernel_rfl) (by kernel_rfl) (fun _ _ _ h => h) (by kernel_rfl) (by assumption) ?_
        try simp only [Act.put, List.setIfInBounds_toArray, List.set_cons_zero, List.set_cons_succ]
        refine skip_heldS (i := 25) (d := 45) rfl rfl (by kernel_rfl) (by kernel_rfl) (by kernel_rfl) (fun _ _ _ h => h) (by kernel_rfl) (by assumption) ?_
        try simp only [Act.put, List.setIfInBounds_toArray, List.set_cons_zero, List.set_cons_succ]
        refine skip_heldS (i := 26) (d := 46) rfl rfl (by kernel_rfl) (by kernel_rfl) (by kernel_rfl) (fun _ _ _ h => h) (by kernel_rfl) (by assumption) ?_
        try simp only [Act.put, List.setIfInBounds_toArray, List.set_cons_zero, List.set_cons_succ]
        refine skip_heldS (i := 27) (d := 47) rfl rfl (by kernel_rfl) (by kernel_rfl) (by kernel_rfl) (fun _ _ _ h => h) (by kernel_rfl) (by assumption) ?_
        try simp only [Act.put, List.setIfInBounds_toArray, List.set_cons_zero, List.set_cons_succ]
        refine take_heldS (i := 28) (d := 48) rfl rfl (by kernel_rfl) (by kernel_rfl) (by kernel_rfl) (fun _ _ _ h => h) (by kernel_rfl) (fun w hSw => by (try dsimp only at hSw); go_simp; try rfl) (by assumption) ?_
        try simp only [Act.put, List.setIfInBounds_toArray, List.set_cons_zero, List.set_cons_succ]
        refine wpAnyH_done (by kernel_rfl) ?_ _
        go_wp2
        go_roundw
        case rel => exact ⟨k + 1, some k, by omega, by go_num, rfl, HS, Lib.hid HB.out.drew⟩
        case measure => simp [intOf]; omega
      | some bi =>
        have hbk := hb_lt HE.out
        obtain ⟨pu, pv, puo, pvo, pv0⟩ := plN_of (HPK.out k hlt)
        obtain ⟨qu, qv, quo, qvo, qv0⟩ := plN_of (HPK.out bi (by omega))
        obtain ⟨gk, k1, k2, k3, k4⟩ := hc k hlt
        obtain ⟨gb, j1, j2, j3, j4⟩ := hc bi (by omega)
        rw [pu] at k3
        rw [pv] at k4
        rw [qu] at j3
        rw [qv] at j4
        replace k1 := (HB.out.cell (p := ⟨b, off + k, none⟩) hbl).trans k1
        replace k3 := (HB.out.cell (p := ⟨gk, 0, none⟩) k2).trans k3
        replace k4 := (HB.out.cell (p := ⟨gk, 1, none⟩) k2).trans k4
        replace j1 := (HB.out.cell (p := ⟨b, off + bi, none⟩) hbl).trans j1
        replace j3 := (HB.out.cell (p := ⟨gb, 0, none⟩) j2).trans j3
        replace j4 := (HB.out.cell (p := ⟨gb, 1, none⟩) j2).trans j4
        have bi0 : (0 : Int) ≤ (bi : Int) := by omega
        have bi1 : (bi : Int) < (m : Int) := by omega
        have bi2 : ¬ (bi : Int) < 0 := by omega
        have HT := Lib.hid (fun e => hb_t HE.out e)
        have HF := Lib.hid (fun e => hb_f HE.out e)
        simp only [hbI]
        clear hc pu pv qu qv
        cases hc2 : plLess (plU L bi) (plV L bi) (plU L k) (plV L k)
        all_goals
          go_wp2
          go_region_held3 (fun w' => (w'.cell? ⟨b, off + bi, none⟩ = some (.slice (some ⟨gb, 0, none⟩) 2 2) ∧ w'.cell? ⟨gb, 0, none⟩ = some (.int .i64 (plU L bi)) ∧ w'.cell? ⟨gb, 1, none⟩ = some (.int .i64 (plV L bi))) ∧ (w'.cell? ⟨b, off + k, none⟩ = some (.slice (some ⟨gk, 0, none⟩) 2 2) ∧ w'.cell? ⟨gk, 0, none⟩ = some (.int .i64 (plU L k)) ∧ w'.cell? ⟨gk, 1, none⟩ = some (.int .i64 (plV L k)))) (exact ⟨⟨j1, j3, j4⟩, ⟨k1, k3, k4⟩⟩)
            ((go_at_call 76; refine (l14Less_any _ _ _ _ _ quo qvo puo pvo qv0 pv0).mono ?_; rw [hc2]; rintro e w2 ⟨rfl, m2, rfl⟩))
          have HB2 := Lib.hid (below_drewN HB.out (1 + m2))
        · have HS := Lib.hid (HF.out hc2)
          go_wp2
          go_roundw
          case rel => exact ⟨k + 1, some bi, by omega, by go_num, rfl, HS, HB2⟩
          case measure => simp [intOf]; omega
        · have HS := Lib.hid (HT.out hc2)
          go_wp2
          go_roundw
          case rel => exact ⟨k + 1, some k, by omega, by go_num, rfl, HS, HB2⟩
          case measure => simp [intOf]; omega
    · obtain rfl : m = k := by omega
      go_wp2
      go_ret
      exact ⟨ret_int (by rw [HLM.out.1, HLM.out.2, HE.out]), B1.out.trans (HB.out.mono B1.out.size)⟩
end Go.Proofs.Ytbcgckdjbabdjaa
