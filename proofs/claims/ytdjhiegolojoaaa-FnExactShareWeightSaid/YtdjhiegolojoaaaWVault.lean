/-
  Contracts: VaultOk, in the reference and in the program.
-/
import Derived.Test.YtdjhiegolojoaaaWLoads
import Derived.Test.YtdjhiegolojoaaaNest
import Derived.Deep.RegionHeld3
namespace Go.Proofs.Ytdjhiegolojoaaa
open Go.RowKit
set_option linter.unusedSimpArgs false

def ribB (L M : List (Nat × List Int)) (i : Nat) : Bool := loadsB (rowZ L i) (rowN L i) (rowZ M i) (rowN M i)
def vaultB (L : List (Nat × List Int)) (n : Nat) (M : List (Nat × List Int)) (q : Nat) : Bool := inB (n : Int) 1 5 && (decide (q = n) && allB (ribB L M) n)
theorem vaultB_1 (L M : List (Nat × List Int)) {n : Nat} (q : Nat) (h : inB (n : Int) 1 5 = false) : vaultB L n M q = false := by simp [vaultB, h]
theorem vaultB_2 (L M : List (Nat × List Int)) {n q : Nat} (h : ¬ q = n) : vaultB L n M q = false := by simp [vaultB, h]
theorem vaultB_3 {L M : List (Nat × List Int)} {n : Nat} (q : Nat) {k : Nat} (hk : k < n) (h : ribB L M k = false) : vaultB L n M q = false := by simp [vaultB, allB_f hk h]
theorem vaultB_t {L M : List (Nat × List Int)} {n q : Nat} (h1 : inB (n : Int) 1 5 = true) (h2 : q = n) (h : allTo (ribB L M) n) : vaultB L n M q = true := by simp [vaultB, allB_t h, h1, h2]
theorem vaultB_out {L M : List (Nat × List Int)} {n q : Nat} (h : vaultB L n M q = true) : (1 ≤ n ∧ n ≤ 5) ∧ q = n ∧ allTo (ribB L M) n := by
  simp only [vaultB, Bool.and_eq_true, decide_eq_true_eq, inB_iff] at h
  exact ⟨by omega, h.2.1, allB_out h.2.2⟩
theorem cell_newA (w : World) (u v : Value) (t : TypeId) : (w.alloc (.cells #[u, v] t)).cell? ⟨w.heap.size, 0, none⟩ = some u := World.rowIs.cell (World.rowIs_alloc w #[u, v] t (fun i => if i = 0 then u else v) (fun i hi => by simp at hi; match i, hi with | 0, _ => rfl | 1, _ => rfl)) (by simp)
theorem cell_newB (w : World) (u v : Value) (t : TypeId) : (w.alloc (.cells #[u, v] t)).cell? ⟨w.heap.size, 1, none⟩ = some v := World.rowIs.cell (World.rowIs_alloc w #[u, v] t (fun i => if i = 0 then u else v) (fun i hi => by simp at hi; match i, hi with | 0, _ => rfl | 1, _ => rfl)) (by simp)

set_option maxRecDepth 100000 in
set_option maxHeartbeats 1600000 in
theorem sVaultOk_any (A : Option Addr) (n c : Nat) (L : List (Nat × List Int)) (B : Option Addr) (q d : Nat) (M : List (Nat × List Int)) (w : World) (h : NestAt w w.heap.size 4 A n L) (hn : n ≤ 1048576) (hr : ∀ i, i < n → rowN L i ≤ 1048576) (hl : NestAt w w.heap.size 3 B q M) (hq : q ≤ 1048576) (hs : ∀ i, i < q → rowN M i ≤ 1048576) :
    Calls Try.prog 25 #[.agg #[.slice A n c, .slice B q d]] w fun e w' => e = .returned (.bool (vaultB L n M q)) ∧ Below w.heap.size w w' := by
  have HA := Lib.hid ((Below.refl w.heap.size w).alloc (Nat.le_refl _) (.cells #[.slice A n c, .slice B q d] 30))
  have H := Lib.hid h
  have HL := Lib.hid hl
  have HR := Lib.hid hr
  have HS := Lib.hid hs
  clear h hl hr hs
  cases hB : inB (n : Int) 1 5
  · have HF := Lib.hid (vaultB_1 L M q hB)
    go_enter Try.func25, Try.ntmps25
    go_wp2_with (go_at_call 26; refine (l01In_any _ _ _ _).mono ?_; rw [hB]; rintro e w' ⟨rfl, rfl⟩)
    go_ret
    exact ⟨ret_bool HF.out.symm, HA.out⟩
  by_cases hqn : q = n
  · subst hqn
    have hd : ((q : Int) != (q : Int)) = false := by simp
    have HT := Lib.hid (fun h3 => vaultB_t (L := L) (M := M) hB (rfl : q = q) h3)
    go_enter Try.func25, Try.ntmps25
    go_wp2_with (go_at_call 26; refine (l01In_any _ _ _ _).mono ?_; rw [hB]; rintro e w' ⟨rfl, rfl⟩)
    go_loopw [3] (fun i wr => ∃ k : Nat, k ≤ q ∧ i = .int .i64 k ∧ allTo (ribB L M) k ∧ wr.cell? ⟨w.heap.size, 0, none⟩ = some (.slice A q c) ∧ wr.cell? ⟨w.heap.size, 1, none⟩ = some (.slice B q d) ∧ Below w.heap.size w wr) (fun i _ => q - (intOf i).toNat)
    case atStart => exact ⟨0, Nat.zero_le _, rfl, allTo_0 _, cell_newA _ _ _ _, cell_newB _ _ _ _, HA.out⟩
    case round =>
      clear HA hB
      obtain ⟨k, hk, rfl, hag, hbox, hbox', hb⟩ := hrel
      have HB := Lib.hid hb
      have hgl := World.block_lt_of_cell? wr _ hbox
      simp only at hgl
      by_cases hlt : k < q
      · obtain ⟨b, off, rfl, hbB, hc⟩ := H.out.2 (by omega)
        obtain ⟨b', off', rfl, hbB', hc'⟩ := HL.out.2 (by omega)
        obtain ⟨Ak, ck, hx, hrec, _, _⟩ := hc k hlt
        obtain ⟨Bk, dk, hy, hrec', _, _⟩ := hc' k hlt
        have x0 : wr.cell? ⟨b, off + k, none⟩ = some (.slice Ak (rowN L k) ck) := (hb.cell (by exact hbB)).trans hx
        have y0 : wr.cell? ⟨b', off' + k, none⟩ = some (.slice Bk (rowN M k) dk) := (hb.cell (by exact hbB')).trans hy
        have r1 := (hrec.below hb).mono hb.size
        have r2 := (hrec'.below hb).mono hb.size
        have hrk := HR.out k hlt
        have hsk := HS.out k hlt
        have hz := hb.size
        have ki : (k : Int) < (q : Int) := by omega
        have k0 : (0 : Int) ≤ (k : Int) := by omega
        clear hc hc' hb hx hy hrec hrec'
        cases hp : ribB L M k
        all_goals
          have hp' := hp
          unfold ribB at hp'
          go_wp2
          go_region_held3 (fun w' => w'.cell? ⟨w.heap.size, 0, none⟩ = some (.slice (some ⟨b, off, none⟩) q c) ∧ w'.cell? ⟨w.heap.size, 1, none⟩ = some (.slice (some ⟨b', off', none⟩) q d) ∧ w'.cell? ⟨b, off + k, none⟩ = some (.slice Ak (rowN L k) ck) ∧ w'.cell? ⟨b', off' + k, none⟩ = some (.slice Bk (rowN M k) dk)) (first | exact ⟨hbox, hbox', x0, y0⟩ | (refine ⟨?_, ?_, ?_, ?_⟩ <;> (rw [hcc _ _ (by simp <;> omega)]; assumption))) ((go_at_call 51; refine (sLoadsOk_any _ _ _ (rowZ L k) _ _ _ (rowZ M k) _ (by exact r1) hrk (by exact r2) hsk).mono ?_; rw [hp']; rintro e w1 ⟨rfl, hb1⟩; obtain ⟨hcc, hff⟩ := bcell hb1))
          have HB1 := Lib.hid (HB.out.drew.trans (hb1.mono (by simp; omega)))
          have hbx1 := (hb1.cell (p := ⟨w.heap.size, 0, none⟩) (by simp; omega)).trans hbox
          have hbx2 := (hb1.cell (p := ⟨w.heap.size, 1, none⟩) (by simp; omega)).trans hbox'
          clear hcc hff hb1 hp'
        · have HF := Lib.hid (vaultB_3 q hlt hp)
          go_wp2
          go_ret
          exact ⟨ret_bool HF.out.symm, HB1.out⟩
        · have HST := Lib.hid (allTo_step hag hp)
          clear hag
          go_wp2
          go_roundw
          case rel => exact ⟨k + 1, by omega, by go_num, HST.out, hbx1, hbx2, HB1.out⟩
          case measure => first | (simp [intOf]; done) | (simp [intOf]; omega)
      · obtain rfl : k = q := by omega
        have HF := Lib.hid (HT.out hag)
        clear hb hag
        go_wp2
        go_ret
        exact ⟨ret_bool HF.out.symm, HB.out⟩
  · have HF := Lib.hid (vaultB_2 L M hqn)
    have hd : ((q : Int) != (n : Int)) = true := by simp; omega
    clear hqn
    go_enter Try.func25, Try.ntmps25
    go_wp2_with (go_at_call 26; refine (l01In_any _ _ _ _).mono ?_; rw [hB]; rintro e w' ⟨rfl, rfl⟩)
    go_ret
    exact ⟨ret_bool HF.out.symm, HA.out⟩

set_option maxRecDepth 100000 in
set_option maxHeartbeats 1600000 in
theorem iVaultOk_any (A : Option Addr) (n c : Nat) (L : List (Nat × List Int)) (B : Option Addr) (q d : Nat) (M : List (Nat × List Int)) (w : World) (h : NestAt w w.heap.size 4 A n L) (hn : n ≤ 1048576) (hr : ∀ i, i < n → rowN L i ≤ 1048576) (hl : NestAt w w.heap.size 3 B q M) (hq : q ≤ 1048576) (hs : ∀ i, i < q → rowN M i ≤ 1048576) :
    Calls Try.prog 30 #[.agg #[.slice A n c, .slice B q d]] w fun e w' => e = .returned (.bool (vaultB L n M q)) ∧ Below w.heap.size w w' := by
  have HA := Lib.hid ((Below.refl w.heap.size w).alloc (Nat.le_refl _) (.cells #[.slice A n c, .slice B q d] 30))
  have H := Lib.hid h
  have HL := Lib.hid hl
  have HR := Lib.hid hr
  have HS := Lib.hid hs
  clear h hl hr hs
  cases hB : inB (n : Int) 1 5
  · have HF := Lib.hid (vaultB_1 L M q hB)
    go_enter Try.func30, Try.ntmps30
    go_wp2_with (go_at_call 31; refine (within_any _ _ _ _).mono ?_; rw [hB]; rintro e w' ⟨rfl, rfl⟩)
    go_ret
    exact ⟨ret_bool HF.out.symm, HA.out⟩
  by_cases hqn : q = n
  · subst hqn
    have hd : ((q : Int) != (q : Int)) = false := by simp
    have HT := Lib.hid (fun h3 => vaultB_t (L := L) (M := M) hB (rfl : q = q) h3)
    go_enter Try.func30, Try.ntmps30
    go_wp2_with (go_at_call 31; refine (within_any _ _ _ _).mono ?_; rw [hB]; rintro e w' ⟨rfl, rfl⟩)
    go_loopw [22] (fun i wr => ∃ k : Nat, k ≤ q ∧ i = .int .i64 k ∧ allTo (ribB L M) k ∧ wr.cell? ⟨w.heap.size, 0, none⟩ = some (.slice A q c) ∧ wr.cell? ⟨w.heap.size, 1, none⟩ = some (.slice B q d) ∧ Below w.heap.size w wr) (fun i _ => q - (intOf i).toNat)
    case atStart => exact ⟨0, Nat.zero_le _, rfl, allTo_0 _, cell_newA _ _ _ _, cell_newB _ _ _ _, HA.out⟩
    case round =>
      clear HA hB
      obtain ⟨k, hk, rfl, hag, hbox, hbox', hb⟩ := hrel
      have HB := Lib.hid hb
      have hgl := World.block_lt_of_cell? wr _ hbox
      simp only at hgl
      by_cases hlt : k < q
      · obtain ⟨b, off, rfl, hbB, hc⟩ := H.out.2 (by omega)
        obtain ⟨b', off', rfl, hbB', hc'⟩ := HL.out.2 (by omega)
        obtain ⟨Ak, ck, hx, hrec, _, _⟩ := hc k hlt
        obtain ⟨Bk, dk, hy, hrec', _, _⟩ := hc' k hlt
        have x0 : wr.cell? ⟨b, off + k, none⟩ = some (.slice Ak (rowN L k) ck) := (hb.cell (by exact hbB)).trans hx
        have hz := hb.size
        have y0 : (wr.alloc (.cells #[.slice Ak (rowN L k) ck] 41)).cell? ⟨b', off' + k, none⟩ = some (.slice Bk (rowN M k) dk) := (World.cell?_alloc_lt _ _ _ (by simp; omega)).trans ((hb.cell (by exact hbB')).trans hy)
        have v0 : (wr.alloc (.cells #[.slice Ak (rowN L k) ck] 41)).cell? ⟨w.heap.size, 0, none⟩ = some (.slice (some ⟨b, off, none⟩) q c) := (World.cell?_alloc_lt _ _ _ (by simp; omega)).trans hbox
        have v1 : (wr.alloc (.cells #[.slice Ak (rowN L k) ck] 41)).cell? ⟨w.heap.size, 1, none⟩ = some (.slice (some ⟨b', off', none⟩) q d) := (World.cell?_alloc_lt _ _ _ (by simp; omega)).trans hbox'
        have v2 : (wr.alloc (.cells #[.slice Ak (rowN L k) ck] 41)).cell? ⟨wr.heap.size, 0, none⟩ = some (.slice Ak (rowN L k) ck) := cell_new0 _ _ _
        have r1 := (((hrec.below hb).mono hb.size).alloc (Nat.le_refl _) (.cells #[.slice Ak (rowN L k) ck] 41)).mono (B' := (wr.alloc (.cells #[.slice Ak (rowN L k) ck] 41)).heap.size) (by simp)
        have r2 := (((hrec'.below hb).mono hb.size).alloc (Nat.le_refl _) (.cells #[.slice Ak (rowN L k) ck] 41)).mono (B' := (wr.alloc (.cells #[.slice Ak (rowN L k) ck] 41)).heap.size) (by simp)
        have HB0 := Lib.hid (hb.alloc hz (.cells #[.slice Ak (rowN L k) ck] 41))
        have hrk := HR.out k hlt
        have hsk := HS.out k hlt
        have ki : (k : Int) < (q : Int) := by omega
        have k0 : (0 : Int) ≤ (k : Int) := by omega
        clear hc hc' hb hx hy hrec hrec'
        cases hp : ribB L M k
        all_goals
          have hp' := hp
          unfold ribB at hp'
          go_wp2
          go_region_held3 (fun w' => w'.cell? ⟨wr.heap.size, 0, none⟩ = some (.slice Ak (rowN L k) ck) ∧ w'.cell? ⟨w.heap.size, 1, none⟩ = some (.slice (some ⟨b', off', none⟩) q d) ∧ w'.cell? ⟨b', off' + k, none⟩ = some (.slice Bk (rowN M k) dk)) (first | exact ⟨v2, v1, y0⟩ | (refine ⟨?_, ?_, ?_⟩ <;> (rw [hcc _ _ (by simp <;> omega)]; assumption))) ((go_at_call 56; refine (iLoadsOk_any _ _ _ (rowZ L k) _ _ _ (rowZ M k) _ (by exact r1) hrk (by exact r2) hsk).mono ?_; rw [hp']; rintro e w1 ⟨rfl, hb1⟩; obtain ⟨hcc, hff⟩ := bcell hb1))
          have HB1 := Lib.hid (HB0.out.drew.trans (hb1.mono (by simp; omega)))
          have hbx1 := (hb1.cell (p := ⟨w.heap.size, 0, none⟩) (by simp; omega)).trans v0
          have hbx2 := (hb1.cell (p := ⟨w.heap.size, 1, none⟩) (by simp; omega)).trans v1
          clear hcc hff hb1 hp'
        · have HF := Lib.hid (vaultB_3 q hlt hp)
          go_wp2
          go_ret
          exact ⟨ret_bool HF.out.symm, HB1.out⟩
        · have HST := Lib.hid (allTo_step hag hp)
          clear hag
          go_wp2
          go_roundw
          case rel => exact ⟨k + 1, by omega, by go_num, HST.out, hbx1, hbx2, HB1.out⟩
          case measure => first | (simp [intOf]; done) | (simp [intOf]; omega)
      · obtain rfl : k = q := by omega
        have HF := Lib.hid (HT.out hag)
        clear hb hag
        go_wp2
        go_ret
        exact ⟨ret_bool HF.out.symm, HB.out⟩
  · have HF := Lib.hid (vaultB_2 L M hqn)
    have hd : ((q : Int) != (n : Int)) = true := by simp; omega
    clear hqn
    go_enter Try.func30, Try.ntmps30
    go_wp2_with (go_at_call 31; refine (within_any _ _ _ _).mono ?_; rw [hB]; rintro e w' ⟨rfl, rfl⟩)
    go_ret
    exact ⟨ret_bool HF.out.symm, HA.out⟩
end Go.Proofs.Ytdjhiegolojoaaa
