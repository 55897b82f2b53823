/-
  Contracts: the weight of a vault, in the reference and in the program.
-/
import Derived.Test.YtbcgckdjbabdjaaWTotal
import Derived.Test.YtbcgckdjbabdjaaWVault
namespace Go.Proofs.Ytbcgckdjbabdjaa
open Go.RowKit
set_option linter.unusedSimpArgs false

def totV (L M : List (Nat × List Int)) (k : Nat) : Int := lfW (rowZ L k) (rowN L k) (rowZ M k) (rowN M k) ((rowN L k : Int) - 1)
def vwTo (L M : List (Nat × List Int)) : Nat → Int
  | 0 => 0
  | k + 1 => vwTo L M k + totV L M k
theorem totV_bd (L M : List (Nat × List Int)) (k : Nat) : -1400000 ≤ totV L M k ∧ totV L M k ≤ 1400000 := lfW_bd _ _ _ _ _
theorem vwTo_bd (L M : List (Nat × List Int)) : ∀ k : Nat, -(1400000 * (k : Int)) ≤ vwTo L M k ∧ vwTo L M k ≤ 1400000 * (k : Int)
  | 0 => by simp [vwTo]
  | k + 1 => by
    have ih := vwTo_bd L M k
    have := totV_bd L M k
    simp only [vwTo]
    omega
def vwI (L : List (Nat × List Int)) (n : Nat) (M : List (Nat × List Int)) (q : Nat) : Int := if vaultB L n M q = true then vwTo L M n else 0
theorem vwI_t {L : List (Nat × List Int)} {n : Nat} {M : List (Nat × List Int)} {q : Nat} (h : vaultB L n M q = true) : vwI L n M q = vwTo L M n := by simp [vwI, h]
theorem vwI_f {L : List (Nat × List Int)} {n : Nat} {M : List (Nat × List Int)} {q : Nat} (h : vaultB L n M q = false) : vwI L n M q = 0 := by simp [vwI, h]

set_option maxRecDepth 100000 in
set_option maxHeartbeats 1600000 in
theorem iVaultWeight_any (A : Option Addr) (n c : Nat) (L : List (Nat × List Int)) (B : Option Addr) (q d : Nat) (M : List (Nat × List Int)) (w : World) (h : NestAt w w.heap.size 4 A n L) (hn : n ≤ 1048576) (hr : ∀ i, i < n → rowN L i ≤ 1048576) (hl : NestAt w w.heap.size 3 B q M) (hq : q ≤ 1048576) (hs : ∀ i, i < q → rowN M i ≤ 1048576) :
    Calls Try.prog 26 #[.agg #[.slice A n c, .slice B q d]] w fun e w' => e = .returned (.int .i64 (vwI L n M q)) ∧ Below w.heap.size w w' := by
  have b0 : Below w.heap.size w (w.alloc (.cells #[.slice A n c, .slice B q d] 50)) := (Below.refl _ _).alloc (Nat.le_refl _) _
  have bx0 : Box2 (w.alloc (.cells #[.slice A n c, .slice B q d] 50)) w.heap.size (.slice A n c) (.slice B q d) := Box2.new _ _ _ _
  have h1 := h.after b0
  have l1 := hl.after b0
  cases hB : vaultB L n M q
  · have HF := Lib.hid (vwI_f hB)
    go_enter Try.func26, Try.ntmps26
    go_wp2_with fail
    refine (iVaultOk_any _ _ _ L _ _ _ M _ h1 hn hr l1 hq hs).mono ?_
    rw [hB]
    rintro e w1 ⟨rfl, hb1⟩
    go_wp2
    go_ret
    exact ⟨ret_int HF.out.symm, below_then b0 hb1⟩
  · have HT := Lib.hid (vwI_t hB)
    obtain ⟨hn5, hqn, _⟩ := vaultB_out hB
    subst hqn
    have H := Lib.hid h
    have HL := Lib.hid hl
    have HR := Lib.hid hr
    have HS := Lib.hid hs
    go_enter Try.func26, Try.ntmps26
    go_wp2_with fail
    refine (iVaultOk_any _ _ _ L _ _ _ M _ h1 hn hr l1 hq hs).mono ?_
    rw [hB]
    rintro e W1 ⟨rfl, hb1⟩
    have BX1 := bx0.after hb1
    have B1 := Lib.hid (below_then b0 hb1)
    have cx0 := BX1.1
    have cx1 := BX1.2.1
    have BX := Lib.hid BX1
    clear hb1 b0 bx0 h1 l1 h hl hr hs hB BX1
    go_wp2
    go_loopw [3, 12] (fun s i wr => ∃ k : Nat, k ≤ q ∧ i = .int .i64 k ∧ s = .int .i64 (vwTo L M k) ∧ Hid (Box2 wr w.heap.size (.slice A q c) (.slice B q d)) ∧ Hid (Below w.heap.size w wr)) (fun _ i _ => q - (intOf i).toNat)
    case atStart => exact ⟨0, Nat.zero_le _, rfl, rfl, BX, B1⟩
    case round =>
      clear BX B1 cx0 cx1
      obtain ⟨k, hk, rfl, rfl, HX, HB⟩ := hrel
      by_cases hlt : k < q
      · have hb := HB.out
        obtain ⟨b, off, rfl, hbB, hc⟩ := H.out.2 (by omega)
        obtain ⟨b', off', rfl, hbB', hc'⟩ := HL.out.2 (by omega)
        obtain ⟨Ak, ck, hx, hrec, _, _⟩ := hc k hlt
        obtain ⟨Bk, dk, hy, hrec', _, _⟩ := hc' k hlt
        have x0 : wr.cell? ⟨b, off + k, none⟩ = some (.slice Ak (rowN L k) ck) := (hb.cell (by exact hbB)).trans hx
        have y0 : wr.cell? ⟨b', off' + k, none⟩ = some (.slice Bk (rowN M k) dk) := (hb.cell (by exact hbB')).trans hy
        have hba : Below wr.heap.size wr (wr.alloc (.cells #[.slice Ak (rowN L k) ck] 31)) := (Below.refl _ _).alloc (Nat.le_refl _) _
        have r1 := ((hrec.below hb).mono hb.size).after hba
        have r2 := ((hrec'.below hb).mono hb.size).after hba
        have hrk := HR.out k hlt
        have hsk := HS.out k hlt
        have hz := hb.size
        have ki : (k : Int) < (q : Int) := by omega
        have k0 : (0 : Int) ≤ (k : Int) := by omega
        have HBA := Lib.hid (hb.alloc hz (.cells #[.slice Ak (rowN L k) ck] 31))
        have HXA := Lib.hid (HX.out.after hba)
        have bn : (wr.alloc (.cells #[.slice Ak (rowN L k) ck] 31)).cell? ⟨wr.heap.size, 0, none⟩ = some (.slice Ak (rowN L k) ck) := cell_new1 _ _ _
        have v1 := HXA.out.2.1
        have vl := HXA.out.2.2
        have ya : (wr.alloc (.cells #[.slice Ak (rowN L k) ck] 31)).cell? ⟨b', off' + k, none⟩ = some (.slice Bk (rowN M k) dk) := (hba.cell (p := ⟨b', off' + k, none⟩) (by show b' < wr.heap.size; omega)).trans y0
        have cx0 := HX.out.1
        have hb'l : b' < wr.heap.size := by omega
        have hvb := vwTo_bd L M k
        have htb := totV_bd L M k
        have es : IntKind.i64.wrap (vwTo L M k + lfW (rowZ L k) (rowN L k) (rowZ M k) (rowN M k) ((rowN L k : Int) - 1)) = vwTo L M (k + 1) := IntWalk.i64_in (vwTo L M k + totV L M k) (by omega)
        clear hc hc' hx hy hrec hrec' hb hvb htb
        go_wp2
        go_region_held3 (fun w' => w'.cell? ⟨w.heap.size, 1, none⟩ = some (.slice (some ⟨b', off', none⟩) q d) ∧ w'.cell? ⟨b', off' + k, none⟩ = some (.slice Bk (rowN M k) dk) ∧ w'.cell? ⟨wr.heap.size, 0, none⟩ = some (.slice Ak (rowN L k) ck)) (first | exact ⟨v1, ya, bn⟩ | exact ⟨(hcc _ _ (by simp; omega)).trans v1, (hcc _ _ (by simp; omega)).trans ya, (hcc _ _ (by simp)).trans bn⟩)
          ((go_at_call 72; refine (iTotalOf_any _ _ _ (rowZ L k) _ _ _ (rowZ M k) _ (by exact r1) hrk (by exact r2) hsk).mono ?_; rintro e w1 ⟨rfl, hb1⟩; obtain ⟨hcc, hff⟩ := bcell hb1))
        have HB2 := Lib.hid (HBA.out.drew.trans (hb1.mono (by simp; omega)))
        have HX2 : Hid (Box2 w1 w.heap.size (.slice (some ⟨b, off, none⟩) q c) (.slice (some ⟨b', off', none⟩) q d)) := (show Box2 (wr.alloc _).drew _ _ _ from HXA.out).after hb1
        clear hcc hff hb1
        go_wp2
        go_roundw
        case rel => exact ⟨k + 1, by omega, by go_num, by rfl, HX2, HB2⟩
        case measure => simp [intOf]; omega
      · obtain rfl : q = k := by omega
        go_wp2
        go_ret
        exact ⟨ret_int HT.out.symm, HB.out⟩

set_option maxRecDepth 100000 in
set_option maxHeartbeats 1600000 in
theorem sVaultWeight_any (A : Option Addr) (n c : Nat) (L : List (Nat × List Int)) (B : Option Addr) (q d : Nat) (M : List (Nat × List Int)) (w : World) (h : NestAt w w.heap.size 4 A n L) (hn : n ≤ 1048576) (hr : ∀ i, i < n → rowN L i ≤ 1048576) (hl : NestAt w w.heap.size 3 B q M) (hq : q ≤ 1048576) (hs : ∀ i, i < q → rowN M i ≤ 1048576) :
    Calls Try.prog 24 #[.agg #[.slice A n c, .slice B q d]] w fun e w' => e = .returned (.int .i64 (vwI L n M q)) ∧ Below w.heap.size w w' := by
  have b0 : Below w.heap.size w (w.alloc (.cells #[.slice A n c, .slice B q d] 50)) := (Below.refl _ _).alloc (Nat.le_refl _) _
  have bx0 : Box2 (w.alloc (.cells #[.slice A n c, .slice B q d] 50)) w.heap.size (.slice A n c) (.slice B q d) := Box2.new _ _ _ _
  have H := Lib.hid h
  have HL := Lib.hid hl
  have HR := Lib.hid hr
  have HS := Lib.hid hs
  have B0 := Lib.hid b0
  have BX := Lib.hid bx0
  clear h hl b0 bx0
  cases hB : vaultB L n M q
  · have HF := Lib.hid (vwI_f hB)
    go_enter Try.func24, Try.ntmps24
    go_wp2
    go_loopw [3, 4] (fun s i wr => s = .int .i64 0 ∧ i = .int .i64 0 ∧ Hid (Box2 wr w.heap.size (.slice A n c) (.slice B q d)) ∧ Hid (Below w.heap.size w wr)) (fun _ i _ => n - (intOf i).toNat)
    case atStart => exact ⟨rfl, rfl, BX, B0⟩
    case round =>
      clear BX B0
      obtain ⟨rfl, rfl, HX, HB⟩ := hrel
      have cx0 := HX.out.1
      have cx1 := HX.out.2.1
      by_cases h0 : n = 0
      · subst h0
        go_wp2
        go_ret
        exact ⟨ret_int HF.out.symm, HB.out⟩
      · have hpos : (0 : Int) < (n : Int) := by omega
        have hpos' : 0 < n := by omega
        have r1 := (H.out.below HB.out).mono HB.out.size
        have r2 := (HL.out.below HB.out).mono HB.out.size
        clear h0
        go_wp2_with fail
        refine (sVaultOk_any _ _ _ L _ _ _ M _ r1 hn hr r2 hq hs).mono ?_
        rw [hB]
        rintro e w1 ⟨rfl, hb1⟩
        have HB1 := Lib.hid (HB.out.trans (hb1.mono HB.out.size))
        clear hb1
        go_wp2
        go_ret
        exact ⟨ret_int HF.out.symm, HB1.out⟩
  · have HT := Lib.hid (vwI_t hB)
    obtain ⟨hn5, hqn, _⟩ := vaultB_out hB
    subst hqn
    go_enter Try.func24, Try.ntmps24
    go_wp2
    go_loopw [3, 4] (fun s i wr => ∃ k : Nat, k ≤ q ∧ i = .int .i64 k ∧ s = .int .i64 (vwTo L M k) ∧ Hid (Box2 wr w.heap.size (.slice A q c) (.slice B q d)) ∧ Hid (Below w.heap.size w wr)) (fun _ i _ => q - (intOf i).toNat)
    case atStart => exact ⟨0, Nat.zero_le _, rfl, rfl, BX, B0⟩
    case round =>
      clear BX B0
      obtain ⟨k, hk, rfl, rfl, HX, HB⟩ := hrel
      have cx0 := HX.out.1
      have cx1 := HX.out.2.1
      by_cases hlt : k < q
      · have ki : (k : Int) < (q : Int) := by omega
        have k0 : (0 : Int) ≤ (k : Int) := by omega
        have r1 := (H.out.below HB.out).mono HB.out.size
        have r2 := (HL.out.below HB.out).mono HB.out.size
        go_wp2_with fail
        refine (sVaultOk_any _ _ _ L _ _ _ M _ r1 hn hr r2 hq hs).mono ?_
        rw [hB]
        rintro e W2 ⟨rfl, hb2⟩
        have hb := HB.out.trans (hb2.mono HB.out.size)
        have HB2 := Lib.hid hb
        have HX2 := Lib.hid (HX.out.after hb2)
        obtain ⟨b, off, rfl, hbB, hc⟩ := H.out.2 (by omega)
        obtain ⟨b', off', rfl, hbB', hc'⟩ := HL.out.2 (by omega)
        obtain ⟨Ak, ck, hx, hrec, _, _⟩ := hc k hlt
        obtain ⟨Bk, dk, hy, hrec', _, _⟩ := hc' k hlt
        have x0 : W2.cell? ⟨b, off + k, none⟩ = some (.slice Ak (rowN L k) ck) := (hb.cell (by exact hbB)).trans hx
        have y0 : W2.cell? ⟨b', off' + k, none⟩ = some (.slice Bk (rowN M k) dk) := (hb.cell (by exact hbB')).trans hy
        have r3 := (hrec.below hb).mono hb.size
        have r4 := (hrec'.below hb).mono hb.size
        have hrk := HR.out k hlt
        have hsk := HS.out k hlt
        have hz := hb.size
        have v0 := HX2.out.1
        have v1 := HX2.out.2.1
        have vl := HX2.out.2.2
        have hvb := vwTo_bd L M k
        have htb := totV_bd L M k
        have es : IntKind.i64.wrap (vwTo L M k + lfW (rowZ L k) (rowN L k) (rowZ M k) (rowN M k) ((rowN L k : Int) - 1)) = vwTo L M (k + 1) := IntWalk.i64_in (vwTo L M k + totV L M k) (by omega)
        have bl1 : b < W2.heap.size := by omega
        have bl2 : b' < W2.heap.size := by omega
        clear hc hc' hx hy hrec hrec' hb hvb htb hb2 r1 r2 cx0 cx1
        go_wp2
        go_region_held3 (fun w' => w'.cell? ⟨w.heap.size, 0, none⟩ = some (.slice (some ⟨b, off, none⟩) q c) ∧ w'.cell? ⟨w.heap.size, 1, none⟩ = some (.slice (some ⟨b', off', none⟩) q d) ∧ w'.cell? ⟨b, off + k, none⟩ = some (.slice Ak (rowN L k) ck) ∧ w'.cell? ⟨b', off' + k, none⟩ = some (.slice Bk (rowN M k) dk)) (first | exact ⟨v0, v1, x0, y0⟩ | exact ⟨(hcc _ _ (by simp; omega)).trans v0, (hcc _ _ (by simp; omega)).trans v1, (hcc _ _ (by simp; omega)).trans x0, (hcc _ _ (by simp; omega)).trans y0⟩)
          ((go_at_call 68; refine (sTotalOf_any _ _ _ (rowZ L k) _ _ _ (rowZ M k) _ (by exact r3) hrk (by exact r4) hsk).mono ?_; rintro e w1 ⟨rfl, hb1⟩; obtain ⟨hcc, hff⟩ := bcell hb1))
        have HB3 := Lib.hid (HB2.out.drew.trans (hb1.mono (by simp; omega)))
        have HX3 : Hid (Box2 w1 w.heap.size (.slice (some ⟨b, off, none⟩) q c) (.slice (some ⟨b', off', none⟩) q d)) := (show Box2 W2.drew _ _ _ from HX2.out).after hb1
        clear hcc hff hb1
        go_wp2
        go_roundw
        case rel => exact ⟨k + 1, by omega, by go_num, by rfl, HX3, HB3⟩
        case measure => simp [intOf]; omega
      · obtain rfl : q = k := by omega
        go_wp2
        go_ret
        exact ⟨ret_int HT.out.symm, HB.out⟩
end Go.Proofs.Ytbcgckdjbabdjaa
