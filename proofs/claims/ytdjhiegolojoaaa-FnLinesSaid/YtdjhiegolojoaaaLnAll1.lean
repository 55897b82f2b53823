import Derived.Test.YtdjhiegolojoaaaWPlaces
import Derived.Test.YtdjhiegolojoaaaWPlacesS
import Derived.Test.YtdjhiegolojoaaaWPLess
import Derived.Test.YtdjhiegolojoaaaLawKit
import Derived.Test.YtdjhiegolojoaaaRow
import Derived.Test.YtdjhiegolojoaaaProg
import Derived.WalkKit
import Derived.Outline
import Derived.Test.YtdjhiegolojoaaaOnly
import Derived.Laws.BitsAllLaws
import Derived.Laws.BitsLemmas
import Derived.IntWalk
import Derived.BigQuiet
import Derived.Test.YtdjhiegolojoaaaWArch
import Derived.Test.YtdjhiegolojoaaaOwnR
import Derived.Test.YtdjhiegolojoaaaBoxS
import Derived.Deep.RegionHeld3
import Derived.BigRegion
import Derived.Deep.DeepCutAuto
import Derived.Test.YtdjhiegolojoaaaPLeft
import Derived.Test.YtdjhiegolojoaaaPGcd
import Derived.Test.YtdjhiegolojoaaaPGeo
import Derived.Test.YtdjhiegolojoaaaWThr
import Derived.Test.YtdjhiegolojoaaaWMom
import Derived.Test.YtdjhiegolojoaaaHeld
import Derived.Deep.RegionLaw
import Derived.WalkMore
import Derived.ScopeJumps
section
/-
  Contracts: HighestJoint in the reference and in the program.
-/
namespace Go.Proofs.Ytdjhiegolojoaaa
open Go.RowKit
set_option linter.unusedSimpArgs false

theorem pk_ok {zs : List Int} {n : Nat} {ls : List Int} {q : Nat} {H V M D : Int} : ∀ i, i < pkLen zs n ls q H V M D → PlOk (nth (pkLs zs n ls q H V M D) (i * 2)) (nth (pkLs zs n ls q H V M D) (i * 2 + 1)) := by
  intro i hi
  cases h : allPk zs n ls q H V M D
  · rw [(pkLen_f h).1] at hi; omega
  · rw [(pkLen_t h).1] at hi
    rw [(pkLen_t h).2, (pkL_nth hi).1, (pkL_nth hi).2]
    exact pkB_ok (allB_out h i hi)
theorem pkLen_le (zs : List Int) (n : Nat) (ls : List Int) (q : Nat) (H V M D : Int) : pkLen zs n ls q H V M D ≤ n := by
  unfold pkLen
  split <;> omega
/-- The numbers of place i, not negative. -/
def plU (L : List Int) (i : Nat) : Nat := (nth L (i * 2)).toNat
def plV (L : List Int) (i : Nat) : Nat := (nth L (i * 2 + 1)).toNat
structure PlN (L : List Int) (i : Nat) : Prop where
  u : nth L (i * 2) = (plU L i : Int)
  v : nth L (i * 2 + 1) = (plV L i : Int)
  uo : okU (plU L i)
  vo : okU (plV L i)
  v0 : 0 < plV L i
theorem plN_of {L : List Int} {i : Nat} (h : PlOk (nth L (i * 2)) (nth L (i * 2 + 1))) : PlN L i := by
  obtain ⟨h1, h2, h3, h4, _⟩ := h
  exact ⟨by unfold plU; omega, by unfold plV; omega, by unfold plU okU; omega, by unfold plV okU; omega, by unfold plV; omega⟩
/-- The joint with the greatest place among the first k; -1 if there is none. -/
def hbTo (L : List Int) : Nat → Option Nat
  | 0 => none
  | k + 1 => match hbTo L k with
    | none => some k
    | some b => if plLess (plU L b) (plV L b) (plU L k) (plV L k) = true then some k else some b
def hbI : Option Nat → Int
  | none => -1
  | some b => b
theorem hb_none {L : List Int} {k : Nat} (h : hbTo L k = none) : hbTo L (k + 1) = some k := by simp [hbTo, h]
theorem hb_t {L : List Int} {k b : Nat} (h : hbTo L k = some b) (h2 : plLess (plU L b) (plV L b) (plU L k) (plV L k) = true) : hbTo L (k + 1) = some k := by simp [hbTo, h, h2]
theorem hb_f {L : List Int} {k b : Nat} (h : hbTo L k = some b) (h2 : plLess (plU L b) (plV L b) (plU L k) (plV L k) = false) : hbTo L (k + 1) = some b := by simp [hbTo, h, h2]
theorem hb_lt {L : List Int} : ∀ {k b : Nat}, hbTo L k = some b → b < k
  | 0, b, h => by simp [hbTo] at h
  | k + 1, b, h => by
    cases e : hbTo L k with
    | none => rw [hb_none e] at h; cases h; omega
    | some b' =>
      have ih := hb_lt e
      cases e2 : plLess (plU L b') (plV L b') (plU L k) (plV L k)
      · rw [hb_f e e2] at h; cases h; omega
      · rw [hb_t e e2] at h; cases h; omega

set_option maxRecDepth 100000 in
set_option maxHeartbeats 3200000 in
theorem iHighest_any (A : Option Addr) (n c : Nat) (zs : List Int) (B : Option Addr) (q d : Nat) (ls : List Int) (H V M D : Int) (w : World) (h : RecsAt w w.heap.size 4 A n zs) (hn : n ≤ 1048576) (hl : RecsAt w w.heap.size 3 B q ls) (hq : q ≤ 1048576) :
    Calls Try.prog 18 #[.agg #[.slice A n c], .slice B q d, .agg #[.int .i64 H, .int .i64 V, .int .i64 M, .int .i64 D]] w fun e w' => e = .returned (.int .i64 (hbI (hbTo (pkLs zs n ls q H V M D) (pkLen zs n ls q H V M D)))) ∧ Below w.heap.size w w' := by
  have at0 := AT.start w (.slice A n c) H V M D 41 46
  have b0 := at_below w (.slice A n c) H V M D 41 46
  have h1 := h.after b0
  have l1 := hl.after b0
  have HAT := Lib.hid at0
  have HPK := Lib.hid (pk_ok (zs := zs) (n := n) (ls := ls) (q := q) (H := H) (V := V) (M := M) (D := D))
  have hle := pkLen_le zs n ls q H V M D
  clear at0 b0 h hl
  go_enter Try.func18, Try.ntmps18
  go_wp2_with fail
  refine (placesOf_any _ _ _ zs _ _ _ ls _ _ _ _ _ h1 hn l1 hq).mono ?_
  generalize hLE : pkLs zs n ls q H V M D = L at *
  generalize hME : pkLen zs n ls q H V M D = m at *
  have HLM := Lib.hid (And.intro hLE hME)
  clear hLE hME
  rintro e W1 ⟨A7, c7, rfl, hrec, hc7, hb1⟩
  have B1 := Lib.hid (HAT.out.after hb1).below
  have HRC := Lib.hid hrec
  clear hb1 h1 l1 hrec HAT
  go_wp2
  go_loopw [7, 17] (fun v7 v17 wr => ∃ (k : Nat) (best : Option Nat), k ≤ m ∧ v17 = .int .i64 k ∧ v7 = .int .i64 (hbI best) ∧ Hid (hbTo L k = best) ∧ Hid (Below W1.heap.size W1 wr)) (fun _ v17 _ => m - (intOf v17).toNat)
  case atStart => exact ⟨0, none, Nat.zero_le _, rfl, rfl, Lib.hid rfl, Lib.hid (Below.refl _ _)⟩
  case round =>
    obtain ⟨k, best, hk, rfl, rfl, HE, HB⟩ := hrel
    by_cases hlt : k < m
    · obtain ⟨b, off, rfl, hbl, hc⟩ := HRC.out.2 (by omega)
      obtain ⟨pu, pv, puo, pvo, pv0⟩ := plN_of (HPK.out k hlt)
      have x0 : wr.cell? ⟨b, off + k * 2, none⟩ = some (.int .i64 (plU L k)) := (HB.out.cell (p := ⟨b, off + k * 2, none⟩) hbl).trans ((hc (k * 2) (by omega)).trans (by rw [pu]))
      have x1 : wr.cell? ⟨b, off + k * 2 + 1, none⟩ = some (.int .i64 (plV L k)) := (HB.out.cell (p := ⟨b, off + k * 2 + 1, none⟩) hbl).trans ((hc (k * 2 + 1) (by omega)).trans (by rw [pv]))
      have hz := HB.out.size
      have ki : (k : Int) < (m : Int) := by omega
      have k0 : (0 : Int) ≤ (k : Int) := by omega
      have HBA := Lib.hid (HB.out.alloc hz (.cells #[.int .i64 (plU L k), .int .i64 (plV L k)] 89))
      have bn := rowF_new2 wr (plU L k) (plV L k) 89
      have y0 : (wr.alloc (.cells #[.int .i64 (plU L k), .int .i64 (plV L k)] 89)).cell? ⟨wr.heap.size, 0, none⟩ = some (.int .i64 (plU L k)) := bn.cell (by omega)
      have y1 : (wr.alloc (.cells #[.int .i64 (plU L k), .int .i64 (plV L k)] 89)).cell? ⟨wr.heap.size, 1, none⟩ = some (.int .i64 (plV L k)) := bn.cell (by omega)
      clear bn
      cases best with
      | none =>
        have HS := Lib.hid (hb_none HE.out)
        simp only [hbI]
        clear hc y0 y1
        go_wp2
        refine wp_region_held_drew (S := fun _ => True) (by kernel_rfl) (by trivial) (fun hHeld => ?_)
        refine take_heldS (i := 0) (d := 22) rfl rfl (by kernel_rfl) (by kernel_rfl) (by kernel_rfl) (fun _ _ _ h => h) (by kernel_rfl) (fun w hSw => by (try dsimp only at hSw); go_simp; try rfl) (by assumption) ?_
        try simp only [Act.put, List.setIfInBounds_toArray, List.set_cons_zero, List.set_cons_succ]
        refine take_heldS (i := 1) (d := 23) (v := (.bool true)) rfl rfl (by kernel_rfl) (by kernel_rfl) (by kernel_rfl) (fun _ _ _ h => h) (by kernel_rfl) (fun w hSw => by (try dsimp only at hSw); go_simp; try rfl) (by assumption) ?_
        try simp only [Act.put, List.setIfInBounds_toArray, List.set_cons_zero, List.set_cons_succ]
        refine take_heldS (i := 2) (d := 24) (v := (.bool true)) rfl rfl (by kernel_rfl) (by kernel_rfl) (by kernel_rfl) (fun _ _ _ h => h) (by kernel_rfl) (fun w hSw => by (try dsimp only at hSw); go_simp; try rfl) (by assumption) ?_
        try simp only [Act.put, List.setIfInBounds_toArray, List.set_cons_zero, List.set_cons_succ]
        refine skip_heldS (i := 3) (d := 25) rfl rfl (by kernel_rfl) (by kernel_rfl) (by kernel_rfl) (fun _ _ _ h => h) (by kernel_rfl) (by assumption) ?_
        try simp only [Act.put, List.setIfInBounds_toArray, List.set_cons_zero, List.set_cons_succ]
        refine skip_heldS (i := 4) (d := 26) rfl rfl (by kernel_rfl) (by kernel_rfl) (by kernel_rfl) (fun _ _ _ h => h) (by kernel_rfl) (by assumption) ?_
        try simp only [Act.put, List.setIfInBounds_toArray, List.set_cons_zero, List.set_cons_succ]
        refine skip_heldS (i := 5) (d := 27) rfl rfl (by kernel_rfl) (by kernel_rfl) (by kernel_rfl) (fun _ _ _ h => h) (by kernel_rfl) (by assumption) ?_
        try simp only [Act.put, List.setIfInBounds_toArray, List.set_cons_zero, List.set_cons_succ]
        refine skip_heldS (i := 6) (d := 28) rfl rfl (by kernel_rfl) (by kernel_rfl) (by kernel_rfl) (fun _ _ _ h => h) (by kernel_rfl) (by assumption) ?_
        try simp only [Act.put, List.setIfInBounds_toArray, List.set_cons_zero, List.set_cons_succ]
        refine skip_heldS (i := 7) (d := 29) rfl rfl (by kernel_rfl) (by kernel_rfl) (by kernel_rfl) (fun _ _ _ h => h) (by kernel_rfl) (by assumption) ?_
        try simp only [Act.put, List.setIfInBounds_toArray, List.set_cons_zero, List.set_cons_succ]
        refine skip_heldS (i := 8) (d := 30) rfl rfl (by kernel_rfl) (by kernel_rfl) (by kernel_rfl) (fun _ _ _ h => h) (by kernel_rfl) (by assumption) ?_
        try simp only [Act.put, List.setIfInBounds_toArray, List.set_cons_zero, List.set_cons_succ]
        refine take_heldS (i := 9) (d := 31) rfl rfl (by kernel_rfl) (by kernel_rfl) (by kernel_rfl) (fun _ _ _ h => h) (by kernel_rfl) (fun w hSw => by (try dsimp only at hSw); go_simp; try rfl) (by assumption) ?_
        try simp only [Act.put, List.setIfInBounds_toArray, List.set_cons_zero, List.set_cons_succ]
        refine wpAnyH_done (by kernel_rfl) ?_ _
        go_wp2
        go_roundw
        case rel => exact ⟨k + 1, some k, by omega, by go_num, rfl, HS, Lib.hid HBA.out.drew⟩
        case measure => simp [intOf]; omega
      | some bi =>
        have hbk := hb_lt HE.out
        obtain ⟨qu, qv, quo, qvo, qv0⟩ := plN_of (HPK.out bi (by omega))
        have z0 : (wr.alloc (.cells #[.int .i64 (plU L k), .int .i64 (plV L k)] 89)).cell? ⟨b, off + bi * 2, none⟩ = some (.int .i64 (plU L bi)) := (World.cell?_alloc_lt wr _ ⟨b, off + bi * 2, none⟩ (by show b < wr.heap.size; omega)).trans ((HB.out.cell (p := ⟨b, off + bi * 2, none⟩) hbl).trans ((hc (bi * 2) (by omega)).trans (by rw [qu])))
        have z1 : (wr.alloc (.cells #[.int .i64 (plU L k), .int .i64 (plV L k)] 89)).cell? ⟨b, off + bi * 2 + 1, none⟩ = some (.int .i64 (plV L bi)) := (World.cell?_alloc_lt wr _ ⟨b, off + bi * 2 + 1, none⟩ (by show b < wr.heap.size; omega)).trans ((HB.out.cell (p := ⟨b, off + bi * 2 + 1, none⟩) hbl).trans ((hc (bi * 2 + 1) (by omega)).trans (by rw [qv])))
        have bi0 : (0 : Int) ≤ (bi : Int) := by omega
        have bi1 : (bi : Int) < (m : Int) := by omega
        have bi2 : ¬ (bi : Int) < 0 := by omega
        have hbb : b < wr.heap.size := by omega
        have HT := Lib.hid (fun e => hb_t HE.out e)
        have HF := Lib.hid (fun e => hb_f HE.out e)
        simp only [hbI]
        clear hc pu pv qu qv
        cases hc2 : plLess (plU L bi) (plV L bi) (plU L k) (plV L k)
        all_goals
          go_wp2
          go_region_held3 (fun w' => w'.cell? ⟨b, off + bi * 2, none⟩ = some (.int .i64 (plU L bi)) ∧ w'.cell? ⟨b, off + bi * 2 + 1, none⟩ = some (.int .i64 (plV L bi)) ∧ w'.cell? ⟨wr.heap.size, 0, none⟩ = some (.int .i64 (plU L k)) ∧ w'.cell? ⟨wr.heap.size, 1, none⟩ = some (.int .i64 (plV L k))) (first | exact ⟨z0, z1, y0, y1⟩ | exact ⟨(hcc _ _ (by simp; omega)).trans z0, (hcc _ _ (by simp; omega)).trans z1, (hcc _ _ (by simp)).trans y0, (hcc _ _ (by simp)).trans y1⟩)
            ((go_at_call 47; refine (placeLess_any _ _ _ _ _ quo qvo puo pvo).mono ?_; rw [hc2]; rintro e w2 ⟨rfl, hb2⟩; obtain ⟨hcc, hff⟩ := bcell hb2))
          have HB2 := Lib.hid (HBA.out.drew.trans (hb2.mono (by simp; omega)))
          clear hcc hff hb2
        · have HS := Lib.hid (HF.out hc2)
          go_wp2
          go_roundw
          case rel => exact ⟨k + 1, some bi, by omega, by go_num, rfl, HS, HB2⟩
          case measure => simp [intOf]; omega
        · have HS := Lib.hid (HT.out hc2)
          go_wp2
          go_roundw
          case rel => exact ⟨k + 1, some k, by omega, by go_num, rfl, HS, HB2⟩
          case measure => simp [intOf]; omega
    · obtain rfl : m = k := by omega
      go_wp2
      go_ret
      exact ⟨ret_int (by rw [HLM.out.1, HLM.out.2, HE.out]), B1.out.trans (HB.out.mono B1.out.size)⟩

end Go.Proofs.Ytdjhiegolojoaaa
end

section
/-
  Words: a slice of bytes that reads as a list. No Go function is spoken of here.
-/
namespace Go.Proofs.Ytdjhiegolojoaaa
open Go.ChangeShapes Go.WideShapes Go.ChangeAt Go.RowKit

/-- Slice value '.slice A n c' holds the bytes zs in world w, in a block below B. -/
def BytesAt (w : World) (B : Nat) (A : Option Addr) (n : Nat) (zs : List Int) : Prop :=
  (zs.length = n ∧ ∀ k, 0 ≤ nth zs k ∧ nth zs k ≤ 255) ∧ (0 < n → ∃ b off, A = some ⟨b, off, none⟩ ∧ b < B ∧ ∀ k, k < n → w.cell? ⟨b, off + k, none⟩ = some (.int .u8 (nth zs k)))
section
variable {w w' : World} {B B' n : Nat} {A : Option Addr} {zs : List Int}
theorem BytesAt.mono (h : BytesAt w B A n zs) (hB : B ≤ B') : BytesAt w B' A n zs :=
  ⟨h.1, fun hn => by
    obtain ⟨b, off, e, hb, hc⟩ := h.2 hn
    exact ⟨b, off, e, by omega, hc⟩⟩
theorem BytesAt.below (h : BytesAt w B A n zs) (hb : Below B w w') : BytesAt w' B A n zs :=
  ⟨h.1, fun hn => by
    obtain ⟨b, off, e, hb', hc⟩ := h.2 hn
    exact ⟨b, off, e, hb', fun k hk' => (hb.cell (p := ⟨b, off + k, none⟩) hb').trans (hc k hk')⟩⟩
theorem BytesAt.after (h : BytesAt w w.heap.size A n zs) (hb : Below w.heap.size w w') : BytesAt w' w'.heap.size A n zs := (h.below hb).mono hb.size
theorem u8_bounds {n : Int} (h : (Lit.int .u8 n).wf = true) : 0 ≤ n ∧ n ≤ 255 := by
  simp [Lit.wf, IntKind.min, IntKind.max, IntKind.signed, IntKind.bits] at h
  omega
end
/-- An argument of type []byte, opened. -/
theorem open_bytes_arg {H : Type} {enc : TypeId × Value → H} {P : Program} {W : World} {base : Nat} {t e : TypeId} {v : Value} {d : DataW H} {p : List MemPlace} (ht : P.underlying t = some (.slice e)) (he : P.underlying e = some (.int .u8)) (hc : P.cellsOf e = 1)
    (hv : Value.okWide P W .any base t v) (h : DataW.Trod enc P W 0 (fun _ => true) true t v d p) (hlt : ∀ x ∈ p, x.block < W.heap.size) :
    ∃ (A : Option Addr) (n c : Nat) (zs : List Int), v = .slice A n c ∧ BytesAt W W.heap.size A n zs ∧ n ≤ maxLen ∧ n ≤ c := by
  obtain ⟨A, n, c, rfl⟩ := okWide_slice ht hv
  obtain ⟨fuel, hf⟩ := h
  rcases open_ints ht he hc hf with ⟨h0, _⟩ | ⟨a, len, cap, ys, h1, _, hl, hm, hy, hx, hcell, hwf⟩
  · simp [Value.cells] at h0
    obtain ⟨rfl, rfl, rfl⟩ := h0
    exact ⟨_, _, _, [], rfl, ⟨⟨rfl, fun k => by simp [nth]⟩, fun h => absurd h (by omega)⟩, by simp [maxLen], Nat.le_refl _⟩
  · simp [Value.cells] at h1
    obtain ⟨rfl, rfl, rfl⟩ := h1
    simp only [if_true] at hy
    have hw : ∀ k, 0 ≤ nth (ys.take n) k ∧ nth (ys.take n) k ≤ 255 := by
      intro k
      by_cases hk : k < (ys.take n).length
      · rw [nth_get _ _ hk]
        exact u8_bounds (hwf _ (List.mem_of_mem_take (List.getElem_mem hk)))
      · simp [nth, List.getD, List.getElem?_eq_none (Nat.le_of_not_lt hk)]
    refine ⟨_, _, _, ys.take n, rfl, ⟨⟨by simp; omega, hw⟩, fun hn => ?_⟩, by omega, hl⟩
    obtain ⟨b, off, rfl, hc'⟩ := ints_at hcell (by omega)
    refine ⟨b, off, rfl, ?_, fun k hk => ?_⟩
    · have hpx : p = MemPlace.row ⟨b, off, none⟩ ys.length := by simpa using congrArg Prod.snd hx
      have : MemPlace.cell b off ∈ p := by
        rw [hpx]
        simp [MemPlace.row]
        omega
      exact hlt _ this
    · rw [hc' k (by omega)]
      have : nth (ys.take n) k = ys.getD k 0 := by
        simp [nth, List.getD, hk]
      rw [this]
end Go.Proofs.Ytdjhiegolojoaaa
end

section
/-
  Contracts: the cursor of the draws: it yields some number within its bounds, and only its own block turns.
-/
namespace Go.Proofs.Ytdjhiegolojoaaa
open Go.RowKit
set_option linter.unusedSimpArgs false

theorem and_low (a : Int) (m : Nat) (hm : m < 9223372036854775808) : 0 ≤ bits .and .i64 a (m : Int) ∧ bits .and .i64 a (m : Int) ≤ (m : Int) := by
  show 0 ≤ IntKind.i64.wrap ((BitVec.ofInt 64 a &&& BitVec.ofInt 64 (m : Int)).toNat : Int) ∧ IntKind.i64.wrap ((BitVec.ofInt 64 a &&& BitVec.ofInt 64 (m : Int)).toNat : Int) ≤ (m : Int)
  have e : (BitVec.ofInt 64 (m : Int)).toNat = m := by
    rw [BitVec.ofInt_natCast, BitVec.toNat_ofNat]; exact Nat.mod_eq_of_lt (by omega)
  rw [BitVec.toNat_and, e]
  have h := Nat.and_le_right (n := (BitVec.ofInt 64 a).toNat) (m := m)
  rw [IntWalk.i64_in _ (by omega)]
  omega
theorem Only.drewN {g : Nat} {w w' : World} (h : Only g w w') (k : Nat) : Only g w (w'.drewN k) := ⟨h.os, h.tape, h.output, h.size, h.block⟩
/-- The cursor's block: the bytes, the place, the number. -/
def Cur (w : World) (g : Nat) (A : Option Addr) (n c i : Nat) (h : Int) : Prop := RowF w g 112 3 (fun j => match j with | 0 => .slice A n c | 1 => .int .i64 (i : Int) | _ => .int .i64 h)
theorem Cur.after {w w' : World} {g : Nat} {A : Option Addr} {n c i : Nat} {h : Int} (hc : Cur w g A n c i h) (hb : Below w.heap.size w w') : Cur w' g A n c i h := RowF.after hc hb
/-- Some cursor over these bytes. -/
def CurAt (w : World) (g : Nat) (A : Option Addr) (n c : Nat) : Prop := ∃ (i : Nat) (h : Int), i ≤ n ∧ Cur w g A n c i h
theorem CurAt.after {w w' : World} {g : Nat} {A : Option Addr} {n c : Nat} (hc : CurAt w g A n c) (hb : Below w.heap.size w w') : CurAt w' g A n c := by
  obtain ⟨i, h, hi, hc⟩ := hc
  exact ⟨i, h, hi, hc.after hb⟩

set_option maxRecDepth 100000 in
set_option maxHeartbeats 1600000 in
theorem l01New_any (A : Option Addr) (n c : Nat) (zs : List Int) (w : World) (h : BytesAt w w.heap.size A n zs) (hn : n ≤ 1048576) :
    Calls Try.prog 40 #[.slice A n c] w fun e w' => ∃ g, e = .returned (.pointer (some ⟨g, 0, none⟩)) ∧ w.heap.size ≤ g ∧ CurAt w' g A n c ∧ Below w.heap.size w w' := by
  have H := Lib.hid h
  clear h
  go_enter Try.func40, Try.ntmps40
  go_wp2
  go_loop [3, 4] (fun m i => ∃ (k : Nat) (x : Int), k ≤ n ∧ i = .int .i64 k ∧ m = .int .i64 x) (fun _ i => n - (intOf i).toNat)
  case atStart => exact ⟨0, _, Nat.zero_le _, rfl, rfl⟩
  case round =>
    obtain ⟨k, x, hk, rfl, rfl⟩ := hrel
    by_cases hlt : k < n ∧ k < 4000
    · obtain ⟨b, off, rfl, hbB, hc⟩ := H.out.2 (by omega)
      have hx := hc k hlt.1
      have ki : (k : Int) < (n : Int) := by omega
      have k0 : (0 : Int) ≤ (k : Int) := by omega
      have k4 : (k : Int) < 4000 := by omega
      clear hc
      go_wp2
      go_round
      case rel => exact ⟨k + 1, _, by omega, by go_num, rfl⟩
      case measure => simp [intOf]; omega
    · have HB := Lib.hid ((Below.refl w.heap.size w).alloc (Nat.le_refl _) (.cells #[.slice A n c, .int .i64 0, .int .i64 x] 112))
      have HC : Hid (Cur (w.alloc (.cells #[.slice A n c, .int .i64 0, .int .i64 x] 112)) w.heap.size A n c 0 x) := RowF.of_row (World.rowIs_alloc w #[.slice A n c, .int .i64 0, .int .i64 x] 112 _ (fun j hj => by simp at hj; match j, hj with | 0, _ => rfl | 1, _ => rfl | 2, _ => rfl))
      by_cases h1 : k < n
      · have k1 : (k : Int) < (n : Int) := by omega
        have k4 : ¬ (k : Int) < 4000 := by omega
        go_wp2
        go_ret
        exact ⟨_, rfl, Nat.le_refl _, ⟨0, x, Nat.zero_le _, HC.out⟩, HB.out⟩
      · have k1 : ¬ (k : Int) < (n : Int) := by omega
        go_wp2
        go_ret
        exact ⟨_, rfl, Nat.le_refl _, ⟨0, x, Nat.zero_le _, HC.out⟩, HB.out⟩
/-- A number from 0 to m - 1 comes back; only the cursor turns. -/
def DrawPost (w : World) (g : Nat) (A : Option Addr) (n c : Nat) (m : Int) (e : Ending) (w' : World) : Prop := ∃ r : Int, e = .returned (.int .i64 r) ∧ 0 ≤ r ∧ r < m ∧ CurAt w' g A n c ∧ Only g w w'

set_option maxRecDepth 100000 in
set_option maxHeartbeats 3200000 in
theorem l01Byte_any (g : Nat) (A : Option Addr) (n c : Nat) (zs : List Int) (w : World) (h : BytesAt w g A n zs) (hn : n ≤ 1048576) (hc : CurAt w g A n c) :
    Calls Try.prog 100 #[.pointer (some ⟨g, 0, none⟩)] w (DrawPost w g A n c 256) := by
  obtain ⟨i, x, hi, hc⟩ := hc
  have HC := Lib.hid hc
  have c0 : w.cell? ⟨g, 0, none⟩ = some (.slice A n c) := hc.cell (i := 0) (by omega)
  have c1 : w.cell? ⟨g, 1, none⟩ = some (.int .i64 (i : Int)) := hc.cell (i := 1) (by omega)
  have c2 : w.cell? ⟨g, 2, none⟩ = some (.int .i64 x) := hc.cell (i := 2) (by omega)
  have f1 := hc.frozen 1
  have f2 := hc.frozen 2
  go_enter Try.func100, Try.ntmps100
  go_wp2_with fail
  generalize wrap64 (wrap64 (x * 6364136223846793005) + 1442695040888963407) = y
  have HC1 : Hid (Cur (w.setCell ⟨g, 2, none⟩ (.int .i64 y)) g A n c i y) := (RowF.set HC.out 2 (.int .i64 y)).congr (fun j hj => by match j, hj with | 0, _ => rfl | 1, _ => rfl | 2, _ => rfl)
  have HO1 := Lib.hid (Only.setCell (Only.refl g w) 2 (.int .i64 y))
  have hb1 : ∀ k, k < n → ∃ b off, A = some ⟨b, off, none⟩ ∧ (w.setCell ⟨g, 2, none⟩ (.int .i64 y)).cell? ⟨b, off + k, none⟩ = some (.int .u8 (nth zs k)) := fun k hk => by
    obtain ⟨b, off, e, hb, hcc⟩ := h.2 (by omega)
    exact ⟨b, off, e, (HO1.out.cell (p := ⟨b, off + k, none⟩) (by simp; omega)).trans (hcc k hk)⟩
  have HB1 := Lib.hid hb1
  generalize w.setCell ⟨g, 2, none⟩ (.int .i64 y) = w1 at *
  have hz := h.1
  clear c0 c1 c2 f1 f2 hb1 hc HC h
  have c0 : w1.cell? ⟨g, 0, none⟩ = some (.slice A n c) := RowF.cell HC1.out (i := 0) (by omega)
  have c1 : w1.cell? ⟨g, 1, none⟩ = some (.int .i64 (i : Int)) := RowF.cell HC1.out (i := 1) (by omega)
  have c2 : w1.cell? ⟨g, 2, none⟩ = some (.int .i64 y) := RowF.cell HC1.out (i := 2) (by omega)
  have f1 := RowF.frozen HC1.out 1
  go_quiet (fail)
  have hr := and_low (bits BinOp.xor IntKind.i64 (y / 8589934592) (y / 35184372088832)) 255 (by omega)
  have e255 : ((255 : Nat) : Int) = 255 := rfl
  rw [e255] at hr
  generalize bits BinOp.and IntKind.i64 (bits BinOp.xor IntKind.i64 (y / 8589934592) (y / 35184372088832)) 255 = r at *
  clear e255
  go_wp2_with fail
  by_cases hlt : i < n
  · obtain ⟨b, off, rfl, hx⟩ := HB1.out i hlt
    have hzz := hz.2 i
    have ki : (i : Int) < (n : Int) := by omega
    have k0 : (0 : Int) ≤ (i : Int) := by omega
    go_quiet (fail)
    go_wp2_with fail
    go_quiet (fail)
    have hr2 := and_low (r + nth zs i) 255 (by omega)
    have e255 : ((255 : Nat) : Int) = 255 := rfl
    rw [e255] at hr2
    generalize bits BinOp.and IntKind.i64 (r + nth zs i) 255 = r2 at *
    clear e255
    have HC2 : Hid (∀ k, Cur ((w1.drewN k).setCell ⟨g, 1, none⟩ (.int .i64 ((i : Int) + 1))) g (some ⟨b, off, none⟩) n c (i + 1) y) := fun k => (RowF.set (RowF.drewN HC1.out k) 1 (.int .i64 ((i : Int) + 1))).congr (fun j hj => by match j, hj with | 0, _ => rfl | 1, _ => rfl | 2, _ => rfl)
    go_wp2
    go_ret
    exact ⟨r2, rfl, hr2.1, by omega, ⟨i + 1, y, by omega, HC2.out _⟩, (HO1.out.drewN _).setCell 1 _⟩
  · have ki : ¬ (i : Int) < (n : Int) := by omega
    go_quiet (fail)
    go_wp2
    go_ret
    exact ⟨r, rfl, hr.1, by omega, ⟨i, y, hi, HC1.out⟩, HO1.out.drewN _⟩

set_option maxRecDepth 100000 in
set_option maxHeartbeats 3200000 in
/-- A number below m, for 0 < m ≤ 256. -/
theorem l01Below_any (g : Nat) (A : Option Addr) (n c : Nat) (zs : List Int) (m : Int) (w : World) (h : BytesAt w g A n zs) (hn : n ≤ 1048576) (hc : CurAt w g A n c) (h0 : 0 < m) (h1 : m ≤ 256) :
    Calls Try.prog 84 #[.pointer (some ⟨g, 0, none⟩), .int .i64 m] w (DrawPost w g A n c m) := by
  go_enter Try.func84, Try.ntmps84
  go_wp2_with fail
  refine (l01Byte_any g A n c zs _ h hn hc).mono ?_
  rintro e w1 ⟨r, rfl, hr0, hr1, hc1, ho1⟩
  have HR := Lib.hid (show CurAt w1 g A n c ∧ Only g w w1 from ⟨hc1, ho1⟩)
  have hm0 : ¬ m = 0 := by omega
  have hmb : (m == 0) = false := by simpa using hm0
  have hq1 : 0 ≤ r % m := Int.emod_nonneg _ hm0
  have hq2 : r % m < m := Int.emod_lt_of_pos _ h0
  clear hc1 ho1 hc h
  go_wp2
  go_ret
  exact ⟨r % m, rfl, hq1, hq2, HR.out.1, HR.out.2⟩
/-- The bytes stay while the cursor turns. -/
theorem BytesAt.only {w w' : World} {g B n : Nat} {A : Option Addr} {zs : List Int} (h : BytesAt w B A n zs) (ho : Only g w w') (hB : B ≤ g) : BytesAt w' B A n zs :=
  ⟨h.1, fun hn => by
    obtain ⟨b, off, e, hb, hc⟩ := h.2 hn
    exact ⟨b, off, e, hb, fun k hk' => (ho.cell (p := ⟨b, off + k, none⟩) (by simp; omega)).trans (hc k hk')⟩⟩
end Go.Proofs.Ytdjhiegolojoaaa
end

section
/-
  Contract: the shapes of arches that a draw begins with.
-/
namespace Go.Proofs.Ytdjhiegolojoaaa
open Go.RowKit
set_option linter.unusedSimpArgs false
set_option linter.unusedVariables false

/-- A valid arch comes back, in a row of its own. -/
def ShpPost (w : World) (e : Ending) (w' : World) : Prop :=
  ∃ (g m : Nat) (zs : List Int), e = .returned (.agg #[.slice (some ⟨g, 0, none⟩) m m]) ∧ w.heap.size < g ∧ RowF w' g 67 (m * 4) (ints zs) ∧ zs.length = m * 4 ∧ archB zs m = true ∧ Below w.heap.size w w'
theorem rowF_lit (w : World) (t : TypeId) (zs : List Int) (m : Nat) (hs : zs.length = m) : RowF (w.alloc (.cells (zs.map (Value.int .i64)).toArray t)) w.heap.size t m (ints zs) := by
  subst hs
  have h := World.rowIs_alloc w (zs.map (Value.int .i64)).toArray t (ints zs) (fun j hj => by
    simp at hj
    simp [ints, nth_get _ _ hj, hj])
  have e : (zs.map (Value.int .i64)).toArray.size = zs.length := by simp
  rw [e] at h
  exact RowF.of_row h

def shp0 : List Int := [-8, 0, -11, 0, -6, 5, -8, 7, -2, 8, -3, 11, 2, 8, 3, 11, 6, 5, 8, 7, 8, 0, 11, 0]
theorem shp0_ok : archB shp0 6 = true := by decide
def shp1 : List Int := [0, 0, -2, 3, 5, 2, 4, 6, 11, 2, 12, 6, 16, 0, 18, 3]
theorem shp1_ok : archB shp1 4 = true := by decide
def shp2 : List Int := [0, 0, -3, 0, 2, 6, 0, 8, 6, 11, 6, 14, 10, 6, 12, 8, 12, 0, 15, 0]
theorem shp2_ok : archB shp2 5 = true := by decide
def shp3 : List Int := [0, 0, -1, 4, 4, 0, 4, 4, 8, 0, 8, 4, 12, 0, 13, 4]
theorem shp3_ok : archB shp3 4 = true := by decide
def shp4 : List Int := [-9, 0, -10, 0, -6, 7, -7, 8, 0, 9, 0, 10, 6, 7, 7, 8, 9, 0, 10, 0]
theorem shp4_ok : archB shp4 5 = true := by decide
def shp5 : List Int := [0, 0, -2, 2, 6, 4, 6, 7, 12, 2, 14, 4]
theorem shp5_ok : archB shp5 3 = true := by decide

set_option maxRecDepth 100000 in
set_option maxHeartbeats 12800000 in
theorem l06Shape_any (k : Int) (w : World) (h0 : 0 ≤ k) (h1 : k < 6) : Calls Try.prog 66 #[.int .i64 k] w (ShpPost w) := by
  have HB0 : Hid (Below w.heap.size w (w.alloc (.cells #[.slice none 0 0] 41))) := Lib.hid ((Below.refl _ _).alloc (Nat.le_refl _) _)
  have h : k = 0 ∨ k = 1 ∨ k = 2 ∨ k = 3 ∨ k = 4 ∨ k = 5 := by omega
  clear h0 h1
  rcases h with rfl | rfl | rfl | rfl | rfl | rfl
  · go_enter Try.func66, Try.ntmps66
    go_wp2
    refine bodyPost_ret (v := .agg #[.slice (some ⟨w.heap.size + 1, 0, none⟩) 6 6]) (by simp [results, Try.results66, go_sem]) rfl ?_
    refine ⟨w.heap.size + 1, 6, shp0, rfl, by omega, ?_, rfl, shp0_ok, ?_⟩
    · have h := rowF_lit (w.alloc (.cells #[.slice (some ⟨w.heap.size + 1, 0, none⟩) 6 6] 41)) 67 shp0 (6 * 4) rfl
      rw [World.size_alloc] at h
      exact h
    · exact (((Below.refl _ _).alloc (Nat.le_refl _) _).alloc (by simp) _)
  · go_enter Try.func66, Try.ntmps66
    go_wp2
    refine bodyPost_ret (v := .agg #[.slice (some ⟨w.heap.size + 1, 0, none⟩) 4 4]) (by simp [results, Try.results66, go_sem]) rfl ?_
    refine ⟨w.heap.size + 1, 4, shp1, rfl, by omega, ?_, rfl, shp1_ok, ?_⟩
    · have h := rowF_lit (w.alloc (.cells #[.slice (some ⟨w.heap.size + 1, 0, none⟩) 4 4] 41)) 67 shp1 (4 * 4) rfl
      rw [World.size_alloc] at h
      exact h
    · exact (((Below.refl _ _).alloc (Nat.le_refl _) _).alloc (by simp) _)
  · go_enter Try.func66, Try.ntmps66
    go_wp2
    refine bodyPost_ret (v := .agg #[.slice (some ⟨w.heap.size + 1, 0, none⟩) 5 5]) (by simp [results, Try.results66, go_sem]) rfl ?_
    refine ⟨w.heap.size + 1, 5, shp2, rfl, by omega, ?_, rfl, shp2_ok, ?_⟩
    · have h := rowF_lit (w.alloc (.cells #[.slice (some ⟨w.heap.size + 1, 0, none⟩) 5 5] 41)) 67 shp2 (5 * 4) rfl
      rw [World.size_alloc] at h
      exact h
    · exact (((Below.refl _ _).alloc (Nat.le_refl _) _).alloc (by simp) _)
  · go_enter Try.func66, Try.ntmps66
    go_wp2
    refine bodyPost_ret (v := .agg #[.slice (some ⟨w.heap.size + 1, 0, none⟩) 4 4]) (by simp [results, Try.results66, go_sem]) rfl ?_
    refine ⟨w.heap.size + 1, 4, shp3, rfl, by omega, ?_, rfl, shp3_ok, ?_⟩
    · have h := rowF_lit (w.alloc (.cells #[.slice (some ⟨w.heap.size + 1, 0, none⟩) 4 4] 41)) 67 shp3 (4 * 4) rfl
      rw [World.size_alloc] at h
      exact h
    · exact (((Below.refl _ _).alloc (Nat.le_refl _) _).alloc (by simp) _)
  · go_enter Try.func66, Try.ntmps66
    go_wp2
    refine bodyPost_ret (v := .agg #[.slice (some ⟨w.heap.size + 1, 0, none⟩) 5 5]) (by simp [results, Try.results66, go_sem]) rfl ?_
    refine ⟨w.heap.size + 1, 5, shp4, rfl, by omega, ?_, rfl, shp4_ok, ?_⟩
    · have h := rowF_lit (w.alloc (.cells #[.slice (some ⟨w.heap.size + 1, 0, none⟩) 5 5] 41)) 67 shp4 (5 * 4) rfl
      rw [World.size_alloc] at h
      exact h
    · exact (((Below.refl _ _).alloc (Nat.le_refl _) _).alloc (by simp) _)
  · go_enter Try.func66, Try.ntmps66
    go_wp2
    refine bodyPost_ret (v := .agg #[.slice (some ⟨w.heap.size + 1, 0, none⟩) 3 3]) (by simp [results, Try.results66, go_sem]) rfl ?_
    refine ⟨w.heap.size + 1, 3, shp5, rfl, by omega, ?_, rfl, shp5_ok, ?_⟩
    · have h := rowF_lit (w.alloc (.cells #[.slice (some ⟨w.heap.size + 1, 0, none⟩) 3 3] 41)) 67 shp5 (3 * 4) rfl
      rw [World.size_alloc] at h
      exact h
    · exact (((Below.refl _ _).alloc (Nat.le_refl _) _).alloc (by simp) _)
end Go.Proofs.Ytdjhiegolojoaaa
end

section
/-
  Contracts of the laws' helpers for records 'Point'.
-/
namespace Go.Proofs.Ytdjhiegolojoaaa
open Go.RowKit

theorem infoPoint : (Try.prog.info? 65).map (fun i => (i.zero, i.size, i.bytes)) = some (some (.agg #[.int .i64 0, .int .i64 0]), 2, 16) := by kernel_rfl

set_option maxHeartbeats 400000 in
theorem toPoint_any (x0 x1 : Int) (w : World) : Calls Try.prog 110 #[.agg #[.int .i64 x0, .int .i64 x1]] w fun e w' => e = .returned (.agg #[.int .i64 x0, .int .i64 x1]) ∧ Below w.heap.size w w' := by
  go_enter Try.func110, Try.ntmps110
  go_wp2
  exact bodyPost_ret (v := .agg #[.int .i64 x0, .int .i64 x1]) (by simp [results, Try.results110, go_sem]) rfl ⟨rfl, (((Below.refl _ _).alloc (Nat.le_refl _) _).alloc (by simp) _).alloc (by simp; omega) _⟩



set_option maxHeartbeats 400000 in
theorem eqPoint_same (x0 x1 : Int) (w : World) : Calls Try.prog 112 #[.agg #[.int .i64 x0, .int .i64 x1], .agg #[.int .i64 x0, .int .i64 x1]] w fun e w' => e = .returned (.bool true) ∧ Below w.heap.size w w' := by
  have t0 : (x0 != x0) = false := by simp
  have t1 : (x1 != x1) = false := by simp
  go_enter Try.func112, Try.ntmps112
  go_wp2
  go_ret
  exact ⟨rfl, ((Below.refl _ _).alloc (Nat.le_refl _) _).alloc (by simp) _⟩



end Go.Proofs.Ytdjhiegolojoaaa
end

section
/-
  Contracts of the laws' helpers for records 'Joint'.
-/
namespace Go.Proofs.Ytdjhiegolojoaaa
open Go.RowKit

theorem infoJoint : (Try.prog.info? 67).map (fun i => (i.zero, i.size, i.bytes)) = some (some (.agg #[.int .i64 0, .int .i64 0, .int .i64 0, .int .i64 0]), 4, 32) := by kernel_rfl

set_option maxHeartbeats 400000 in
theorem toJoint_any (x0 x1 x2 x3 : Int) (w : World) : Calls Try.prog 97 #[.agg #[.int .i64 x0, .int .i64 x1, .int .i64 x2, .int .i64 x3]] w fun e w' => e = .returned (.agg #[.int .i64 x0, .int .i64 x1, .int .i64 x2, .int .i64 x3]) ∧ Below w.heap.size w w' := by
  go_enter Try.func97, Try.ntmps97
  go_wp2_with fail
  refine (toPoint_any _ _ _).mono ?_
  rintro e w1 ⟨rfl, hb1⟩
  have hz1 := hb1.size
  simp at hz1
  have ra : RowF w1 w.heap.size 154 4 (ints [x0, x1, x2, x3]) := (((RowF.of_row (World.rowIs_alloc w #[.int .i64 x0, .int .i64 x1, .int .i64 x2, .int .i64 x3] _ _ (fun j hj => by simp at hj; match j, hj with | 0, _ => rfl | 1, _ => rfl | 2, _ => rfl | 3, _ => rfl))).alloc _).alloc _).after hb1
  have rr : RowF w1 (w.heap.size + 1) 67 4 (ints [0, 0, 0, 0]) := by
    have h := ((RowF.of_row (World.rowIs_alloc (w.alloc (.cells #[.int .i64 x0, .int .i64 x1, .int .i64 x2, .int .i64 x3] 154)) #[.int .i64 0, .int .i64 0, .int .i64 0, .int .i64 0] 67 (ints [0, 0, 0, 0]) (fun j hj => by simp at hj; match j, hj with | 0, _ => rfl | 1, _ => rfl | 2, _ => rfl | 3, _ => rfl))).alloc (.cells #[.int .i64 0, .int .i64 0, .int .i64 0, .int .i64 0] 67)).after hb1
    simpa using h
  have ro : RowF w1 (w.heap.size + 1 + 1) 67 4 (ints [0, 0, 0, 0]) := by
    have h := (RowF.of_row (World.rowIs_alloc ((w.alloc (.cells #[.int .i64 x0, .int .i64 x1, .int .i64 x2, .int .i64 x3] 154)).alloc (.cells #[.int .i64 0, .int .i64 0, .int .i64 0, .int .i64 0] 67)) #[.int .i64 0, .int .i64 0, .int .i64 0, .int .i64 0] 67 (ints [0, 0, 0, 0]) (fun j hj => by simp at hj; match j, hj with | 0, _ => rfl | 1, _ => rfl | 2, _ => rfl | 3, _ => rfl))).after hb1
    simpa using h
  have a2 : w1.cell? ⟨w.heap.size, 2, none⟩ = some (.int .i64 x2) := ra.cell (by omega)
  have a3 : w1.cell? ⟨w.heap.size, 3, none⟩ = some (.int .i64 x3) := ra.cell (by omega)
  have o0 : w1.cell? ⟨w.heap.size + 1 + 1, 0, none⟩ = some (.int .i64 0) := ro.cell (by omega)
  have o1 : w1.cell? ⟨w.heap.size + 1 + 1, 1, none⟩ = some (.int .i64 0) := ro.cell (by omega)
  have f0 := ro.frozen 0
  have f1 := ro.frozen 1
  have HB1 := Lib.hid ((((Below.refl _ w).alloc (Nat.le_refl _) _).alloc (by simp) _).alloc (by simp; omega) _ |>.trans (hb1.mono (by simp; omega)))
  have ro2 := (ro.set 0 (.int .i64 x0)).set 1 (.int .i64 x1)
  have rr2 : RowF ((w1.setCell ⟨w.heap.size + 1 + 1, 0, none⟩ (.int .i64 x0)).setCell ⟨w.heap.size + 1 + 1, 1, none⟩ (.int .i64 x1)) (w.heap.size + 1) 67 4 (ints [0, 0, 0, 0]) := (rr.set_other (by simp) _).set_other (by simp) _
  clear hb1
  go_wp2_with fail
  refine (toPoint_any _ _ _).mono ?_
  rintro e w2 ⟨rfl, hb2⟩
  have hz2 := hb2.size
  simp at hz2
  have s := ro2.after hb2
  have r := rr2.after hb2
  have HB2 := Lib.hid (((HB1.out.setCell (p := ⟨w.heap.size + 1 + 1, 0, none⟩) (by simp; omega) _).setCell (p := ⟨w.heap.size + 1 + 1, 1, none⟩) (by simp; omega) _).trans (hb2.mono (by simp; omega)))
  have s0 : w2.cell? ⟨w.heap.size + 1 + 1, 0, none⟩ = some (.int .i64 x0) := s.cell (by omega)
  have s1 : w2.cell? ⟨w.heap.size + 1 + 1, 1, none⟩ = some (.int .i64 x1) := s.cell (by omega)
  have s2 : w2.cell? ⟨w.heap.size + 1 + 1, 2, none⟩ = some (.int .i64 0) := s.cell (by omega)
  have s3 : w2.cell? ⟨w.heap.size + 1 + 1, 3, none⟩ = some (.int .i64 0) := s.cell (by omega)
  have g2 := s.frozen 2
  have g3 := s.frozen 3
  have r0 : w2.cell? ⟨w.heap.size + 1, 0, none⟩ = some (.int .i64 0) := r.cell (by omega)
  have r1 : w2.cell? ⟨w.heap.size + 1, 1, none⟩ = some (.int .i64 0) := r.cell (by omega)
  have r2 : w2.cell? ⟨w.heap.size + 1, 2, none⟩ = some (.int .i64 0) := r.cell (by omega)
  have r3 : w2.cell? ⟨w.heap.size + 1, 3, none⟩ = some (.int .i64 0) := r.cell (by omega)
  have k0 := r.frozen 0
  have k1 := r.frozen 1
  have k2 := r.frozen 2
  have k3 := r.frozen 3
  clear hb2 ro2 rr2 s r ra rr ro a2 a3 o0 o1 f0 f1
  go_wp2
  refine bodyPost_ret (v := .agg #[.int .i64 x0, .int .i64 x1, .int .i64 x2, .int .i64 x3]) (by simp [results, Try.results97, go_sem, *]) rfl ⟨rfl, ?_⟩
  exact (((((HB2.out.setCell (p := ⟨w.heap.size + 1 + 1, 2, none⟩) (by simp; omega) _).setCell (p := ⟨w.heap.size + 1 + 1, 3, none⟩) (by simp; omega) _).setCell (p := ⟨w.heap.size + 1, 0, none⟩) (by simp) _).setCell (p := ⟨w.heap.size + 1, 1, none⟩) (by simp) _).setCell (p := ⟨w.heap.size + 1, 2, none⟩) (by simp) _).setCell (p := ⟨w.heap.size + 1, 3, none⟩) (by simp) _

set_option maxHeartbeats 800000 in
theorem toJointS_any (A : Option Addr) (n c : Nat) (zs : List Int) (w : World) (h : RecsAt w w.heap.size 4 A n zs) (hn : n ≤ 1048576) :
    Calls Try.prog 77 #[.slice A n c] w fun e w' => e = .returned (.slice (some ⟨w.heap.size, 0, none⟩) n n) ∧ w'.rowIs w.heap.size 67 (n * 4) (ints zs) ∧ Below w.heap.size w w' := by
  have H := Lib.hid h
  clear h
  have hmk := fun W => run_make_recs (P := Try.prog) 39 67 4 32 #[.int .i64 0, .int .i64 0, .int .i64 0, .int .i64 0] Try.underlying39 infoJoint n (by omega) hn W
  go_enter Try.func77, Try.ntmps77
  go_wp2
  clear hmk
  go_loopw [4] (fun i wr => ∃ k : Nat, k ≤ n ∧ i = .int .i64 k ∧ wr.rowIs w.heap.size 67 (n * 4) (fill zs (k * 4)) ∧ Below w.heap.size w wr) (fun i _ => n - (intOf i).toNat)
  case atStart => exact ⟨0, Nat.zero_le _, rfl, by rw [Nat.zero_mul]; exact rowIs_made0 w _ _ _ (fun j hj => by simp at hj; match j, hj with | 0, _ => rfl | 1, _ => rfl | 2, _ => rfl | 3, _ => rfl) (by simp) zs, (Below.refl _ _).alloc (Nat.le_refl _) _⟩
  case round =>
    obtain ⟨k, hk, rfl, hrow, hb⟩ := hrel
    by_cases hlt : k < n
    · obtain ⟨b, off, rfl, hbB, hc⟩ := H.out.2 (by omega)
      have hgl := hrow.lt
      have hx0 : wr.cell? ⟨b, off + k * 4, none⟩ = some (.int .i64 (nth zs (k * 4))) := (hb.cell (by exact hbB)).trans (hc (k * 4) (by omega))
      have hx1 : wr.cell? ⟨b, off + k * 4 + 1, none⟩ = some (.int .i64 (nth zs (k * 4 + 1))) := (hb.cell (by exact hbB)).trans (by have := hc (k * 4 + 1) (by omega); rwa [← Nat.add_assoc] at this)
      have hx2 : wr.cell? ⟨b, off + k * 4 + 2, none⟩ = some (.int .i64 (nth zs (k * 4 + 2))) := (hb.cell (by exact hbB)).trans (by have := hc (k * 4 + 2) (by omega); rwa [← Nat.add_assoc] at this)
      have hx3 : wr.cell? ⟨b, off + k * 4 + 3, none⟩ = some (.int .i64 (nth zs (k * 4 + 3))) := (hb.cell (by exact hbB)).trans (by have := hc (k * 4 + 3) (by omega); rwa [← Nat.add_assoc] at this)
      have HR := Lib.hid hrow
      have HB := Lib.hid hb
      clear hrow hb hc
      go_wp2_with fail
      refine (toJoint_any _ _ _ _ _).mono ?_
      rintro e w1 ⟨rfl, hb1⟩
      have HR1 := Lib.hid (below_row hb1 HR.out hgl)
      have HB1 := Lib.hid (HB.out.trans (hb1.mono HB.out.size))
      clear hb1
      have hy0 : w1.cell? ⟨w.heap.size, k * 4, none⟩ = some (.int .i64 0) := by rw [HR1.out.cell (by omega), fill_at zs (by omega)]
      have hf0 : w1.frozen? ⟨w.heap.size, k * 4, none⟩ = false := HR1.out.frozen _
      have hy1 : w1.cell? ⟨w.heap.size, k * 4 + 1, none⟩ = some (.int .i64 0) := by rw [HR1.out.cell (by omega), fill_at zs (by omega)]
      have hf1 : w1.frozen? ⟨w.heap.size, k * 4 + 1, none⟩ = false := HR1.out.frozen _
      have hy2 : w1.cell? ⟨w.heap.size, k * 4 + 2, none⟩ = some (.int .i64 0) := by rw [HR1.out.cell (by omega), fill_at zs (by omega)]
      have hf2 : w1.frozen? ⟨w.heap.size, k * 4 + 2, none⟩ = false := HR1.out.frozen _
      have hy3 : w1.cell? ⟨w.heap.size, k * 4 + 3, none⟩ = some (.int .i64 0) := by rw [HR1.out.cell (by omega), fill_at zs (by omega)]
      have hf3 : w1.frozen? ⟨w.heap.size, k * 4 + 3, none⟩ = false := HR1.out.frozen _
      go_wp2
      go_roundw
      case rel => exact ⟨k + 1, by omega, by go_num, by rw [Nat.add_mul, Nat.one_mul]; exact World.rowIs.congr (World.rowIs.set (World.rowIs.set (World.rowIs.set (World.rowIs.set HR1.out (k * 4) _) (k * 4 + 1) _) (k * 4 + 2) _) (k * 4 + 3) _) (fun j _ => fill_step4 zs (k * 4) j), ((((HB1.out.setCell (Nat.le_refl _) _).setCell (Nat.le_refl _) _).setCell (Nat.le_refl _) _).setCell (Nat.le_refl _) _)⟩
      case measure => simp [intOf]; omega
    · have hkn : k = n := by omega
      subst hkn
      have HR := Lib.hid hrow
      have HB := Lib.hid hb
      clear hrow hb
      go_wp2
      go_ret
      exact ⟨rfl, HR.out.congr (fun j hj => fill_end zs hj), HB.out⟩

theorem szJointS_ok (A : Option Addr) (n c : Nat) (l : Int) (w : World) (h0 : 0 ≤ l) (h1 : l ≤ 1048576) (hn : n ≤ 9223372036854775807) (h : (n : Int) ≤ l) : Calls Try.prog 75 #[.slice A n c, .int .i64 l] w fun e w' => e = .returned (.int .i64 (l - n)) ∧ w = w' := by
  have ht : ¬ l - (n : Int) < 0 := by omega
  go_enter Try.func75, Try.ntmps75
  go_wp2
  go_ret
  exact ⟨rfl, rfl⟩
theorem szJointS_no (A : Option Addr) (n c : Nat) (l : Int) (w : World) (h0 : 0 ≤ l) (h1 : l ≤ 1048576) (hn : n ≤ 9223372036854775807) (h : l < (n : Int)) : Calls Try.prog 75 #[.slice A n c, .int .i64 l] w fun e w' => e = .returned (.int .i64 (-1)) ∧ w = w' := by
  have ht : l - (n : Int) < 0 := by omega
  go_enter Try.func75, Try.ntmps75
  go_wp2
  go_ret
  exact ⟨rfl, rfl⟩

set_option maxHeartbeats 400000 in
theorem eqJoint_same (x0 x1 x2 x3 : Int) (w : World) : Calls Try.prog 99 #[.agg #[.int .i64 x0, .int .i64 x1, .int .i64 x2, .int .i64 x3], .agg #[.int .i64 x0, .int .i64 x1, .int .i64 x2, .int .i64 x3]] w fun e w' => e = .returned (.bool true) ∧ Below w.heap.size w w' := by
  have t0 : (x0 != x0) = false := by simp
  have t1 : (x1 != x1) = false := by simp
  have t2 : (x2 != x2) = false := by simp
  have t3 : (x3 != x3) = false := by simp
  go_enter Try.func99, Try.ntmps99
  go_wp2
  go_ret
  exact ⟨rfl, ((((((Below.refl _ _).alloc (Nat.le_refl _) _).alloc (by simp) _).alloc (by simp; omega) _).alloc (by simp; omega) _).alloc (by simp; omega) _).alloc (by simp; omega) _⟩

set_option maxHeartbeats 800000 in
theorem eqJointS_same (A A' : Option Addr) (n c c' : Nat) (zs : List Int) (w : World) (hx : RecsAt w w.heap.size 4 A n zs) (hy : RecsAt w w.heap.size 4 A' n zs) (hn : n ≤ 1048576) :
    Calls Try.prog 82 #[.slice A n c, .slice A' n c'] w fun e w' => e = .returned (.bool true) ∧ Below w.heap.size w w' := by
  have HX := Lib.hid hx
  have HY := Lib.hid hy
  clear hx hy
  have ht : ((n : Int) != (n : Int)) = false := by simp
  go_enter Try.func82, Try.ntmps82
  go_wp2
  go_loopw [5] (fun i wr => ∃ k : Nat, k ≤ n ∧ i = .int .i64 k ∧ Below w.heap.size w wr) (fun i _ => n - (intOf i).toNat)
  case atStart => exact ⟨0, Nat.zero_le _, rfl, Below.refl _ _⟩
  case round =>
    obtain ⟨k, hk, rfl, hb⟩ := hrel
    have HB := Lib.hid hb
    by_cases hlt : k < n
    · obtain ⟨b, off, rfl, hbB, hc⟩ := HX.out.2 (by omega)
      obtain ⟨b', off', rfl, hbB', hc'⟩ := HY.out.2 (by omega)
      have hz := hb.size
      have cx0 : wr.cell? ⟨b, off + k * 4, none⟩ = some (.int .i64 (nth zs (k * 4))) := (hb.cell (by exact hbB)).trans (hc (k * 4) (by omega))
      have cy0 : wr.cell? ⟨b', off' + k * 4, none⟩ = some (.int .i64 (nth zs (k * 4))) := (hb.cell (by exact hbB')).trans (hc' (k * 4) (by omega))
      have cx1 : wr.cell? ⟨b, off + k * 4 + 1, none⟩ = some (.int .i64 (nth zs (k * 4 + 1))) := (hb.cell (by exact hbB)).trans (by have := hc (k * 4 + 1) (by omega); rwa [← Nat.add_assoc] at this)
      have cy1 : wr.cell? ⟨b', off' + k * 4 + 1, none⟩ = some (.int .i64 (nth zs (k * 4 + 1))) := (hb.cell (by exact hbB')).trans (by have := hc' (k * 4 + 1) (by omega); rwa [← Nat.add_assoc] at this)
      have cx2 : wr.cell? ⟨b, off + k * 4 + 2, none⟩ = some (.int .i64 (nth zs (k * 4 + 2))) := (hb.cell (by exact hbB)).trans (by have := hc (k * 4 + 2) (by omega); rwa [← Nat.add_assoc] at this)
      have cy2 : wr.cell? ⟨b', off' + k * 4 + 2, none⟩ = some (.int .i64 (nth zs (k * 4 + 2))) := (hb.cell (by exact hbB')).trans (by have := hc' (k * 4 + 2) (by omega); rwa [← Nat.add_assoc] at this)
      have cx3 : wr.cell? ⟨b, off + k * 4 + 3, none⟩ = some (.int .i64 (nth zs (k * 4 + 3))) := (hb.cell (by exact hbB)).trans (by have := hc (k * 4 + 3) (by omega); rwa [← Nat.add_assoc] at this)
      have cy3 : wr.cell? ⟨b', off' + k * 4 + 3, none⟩ = some (.int .i64 (nth zs (k * 4 + 3))) := (hb.cell (by exact hbB')).trans (by have := hc' (k * 4 + 3) (by omega); rwa [← Nat.add_assoc] at this)
      generalize nth zs (k * 4) = u0 at *
      generalize nth zs (k * 4 + 1) = u1 at *
      generalize nth zs (k * 4 + 2) = u2 at *
      generalize nth zs (k * 4 + 3) = u3 at *
      have ki : (k : Int) < (n : Int) := by omega
      have k0 : (0 : Int) ≤ (k : Int) := by omega
      clear hc hc' hb
      go_wp2
      go_region_held3 (fun w' => w'.cell? ⟨b, off + k * 4, none⟩ = some (.int .i64 u0) ∧ w'.cell? ⟨b, off + k * 4 + 1, none⟩ = some (.int .i64 u1) ∧ w'.cell? ⟨b, off + k * 4 + 2, none⟩ = some (.int .i64 u2) ∧ w'.cell? ⟨b, off + k * 4 + 3, none⟩ = some (.int .i64 u3) ∧ w'.cell? ⟨b', off' + k * 4, none⟩ = some (.int .i64 u0) ∧ w'.cell? ⟨b', off' + k * 4 + 1, none⟩ = some (.int .i64 u1) ∧ w'.cell? ⟨b', off' + k * 4 + 2, none⟩ = some (.int .i64 u2) ∧ w'.cell? ⟨b', off' + k * 4 + 3, none⟩ = some (.int .i64 u3)) (first | (go_keep; done) | (refine ⟨?_, ?_, ?_, ?_, ?_, ?_, ?_, ?_⟩ <;> (rw [hcc _ _ (by simp <;> omega)]; go_keep))) ((go_at_call 99; refine (eqJoint_same _ _ _ _ _).mono ?_; rintro e w1 ⟨rfl, hb1⟩; obtain ⟨hcc, hff⟩ := bcell hb1))
      have HB1 := Lib.hid (HB.out.drew.trans (hb1.mono (by have := HB.out.size; simp; omega)))
      clear hcc hff hb1
      go_wp2
      go_roundw
      case rel => exact ⟨k + 1, by omega, by go_num, HB1.out⟩
      case measure => simp [intOf]; omega
    · have hkn : k = n := by omega
      subst hkn
      clear hb
      go_wp2
      go_ret
      exact ⟨rfl, HB.out⟩

set_option maxHeartbeats 800000 in
theorem markJointS_any (g n c : Nat) (f : Nat → Value) (k0 : Int) (w : World) (h : w.rowIs g 67 (n * 4) f) (hf : IntRow f) (hn : n ≤ 1048576) (h0 : 0 ≤ k0) (h1 : k0 ≤ 1000000000) :
    Calls Try.prog 59 #[.slice (some ⟨g, 0, none⟩) n c, .int .i64 k0] w fun e w' => e = .returned (.int .i64 (k0 + (n * 4 : Nat))) ∧ w'.rowIs g 67 (n * 4) (marks f k0 (n * 4)) ∧ Only g w w' := by
  have H := Lib.hid h
  have HFI := Lib.hid hf
  clear h hf
  go_enter Try.func59, Try.ntmps59
  go_wp2
  go_loopw [1, 5] (fun m i wr => ∃ k : Nat, k ≤ n ∧ i = .int .i64 k ∧ m = .int .i64 (k0 + (k * 4 : Nat)) ∧ wr.rowIs g 67 (n * 4) (marks f k0 (k * 4)) ∧ Only g w wr) (fun _ i _ => n - (intOf i).toNat)
  case atStart => exact ⟨0, Nat.zero_le _, rfl, by simp, by rw [Nat.zero_mul]; exact H.out.congr (fun j _ => (marks_0 f k0 j).symm), Only.refl _ _⟩
  case round =>
    obtain ⟨k, hk, rfl, rfl, hrow, ho⟩ := hrel
    have HR := Lib.hid hrow
    have HO := Lib.hid ho
    by_cases hlt : k < n
    ·
      obtain ⟨v0, e0⟩ : ∃ z : Int, marks f k0 (k * 4) (k * 4) = .int .i64 z := by
        obtain ⟨z, e⟩ := HFI.out (k * 4)
        exact ⟨z, by rw [marks, if_neg (by omega)]; exact e⟩
      have hc0 : wr.cell? ⟨g, k * 4, none⟩ = some (.int .i64 v0) := by rw [HR.out.cell (by omega), e0]
      have hf0 : wr.frozen? ⟨g, k * 4, none⟩ = false := HR.out.frozen _
      clear e0
      obtain ⟨v1, e1⟩ : ∃ z : Int, marks f k0 (k * 4) (k * 4 + 1) = .int .i64 z := by
        obtain ⟨z, e⟩ := HFI.out (k * 4 + 1)
        exact ⟨z, by rw [marks, if_neg (by omega)]; exact e⟩
      have hc1 : wr.cell? ⟨g, k * 4 + 1, none⟩ = some (.int .i64 v1) := by rw [HR.out.cell (by omega), e1]
      have hf1 : wr.frozen? ⟨g, k * 4 + 1, none⟩ = false := HR.out.frozen _
      clear e1
      obtain ⟨v2, e2⟩ : ∃ z : Int, marks f k0 (k * 4) (k * 4 + 2) = .int .i64 z := by
        obtain ⟨z, e⟩ := HFI.out (k * 4 + 2)
        exact ⟨z, by rw [marks, if_neg (by omega)]; exact e⟩
      have hc2 : wr.cell? ⟨g, k * 4 + 2, none⟩ = some (.int .i64 v2) := by rw [HR.out.cell (by omega), e2]
      have hf2 : wr.frozen? ⟨g, k * 4 + 2, none⟩ = false := HR.out.frozen _
      clear e2
      obtain ⟨v3, e3⟩ : ∃ z : Int, marks f k0 (k * 4) (k * 4 + 3) = .int .i64 z := by
        obtain ⟨z, e⟩ := HFI.out (k * 4 + 3)
        exact ⟨z, by rw [marks, if_neg (by omega)]; exact e⟩
      have hc3 : wr.cell? ⟨g, k * 4 + 3, none⟩ = some (.int .i64 v3) := by rw [HR.out.cell (by omega), e3]
      have hf3 : wr.frozen? ⟨g, k * 4 + 3, none⟩ = false := HR.out.frozen _
      clear e3
      clear hrow ho
      have hkk : (((k * 4 : Nat) : Nat) : Int) ≤ 1073741824 := by omega
      go_wp2
      go_roundw
      case rel =>
        refine ⟨k + 1, by omega, by go_num, by go_num, ?_, ((((HO.out.setCell _ _).setCell _ _).setCell _ _).setCell _ _)⟩
        have hs := (World.rowIs.congr (World.rowIs.set (World.rowIs.congr (World.rowIs.set (World.rowIs.congr (World.rowIs.set (World.rowIs.congr (World.rowIs.set HR.out (k * 4) (.int .i64 (k0 + ((k * 4 : Nat) : Int)))) (fun j _ => marks_step f k0 (k * 4) j)) (k * 4 + 1) (.int .i64 (k0 + ((k * 4 + 1 : Nat) : Int)))) (fun j _ => marks_step f k0 (k * 4 + 1) j)) (k * 4 + 2) (.int .i64 (k0 + ((k * 4 + 2 : Nat) : Int)))) (fun j _ => marks_step f k0 (k * 4 + 2) j)) (k * 4 + 3) (.int .i64 (k0 + ((k * 4 + 3 : Nat) : Int)))) (fun j _ => marks_step f k0 (k * 4 + 3) j))
        rw [Nat.add_mul, Nat.one_mul]
        simpa [Int.add_assoc] using hs
      case measure => simp [intOf]; omega
    · have hkn : k = n := by omega
      subst hkn
      clear hrow ho
      go_wp2
      go_ret
      exact ⟨rfl, HR.out, HO.out⟩

end Go.Proofs.Ytdjhiegolojoaaa
end

section
/-
  Contracts: an arch copied, and a draw of yes or no.
-/
namespace Go.Proofs.Ytdjhiegolojoaaa
open Go.RowKit
set_option linter.unusedSimpArgs false
set_option linter.unusedVariables false

/-- The copy stands in a row of its own. -/
def CpyPost (w : World) (n : Nat) (zs : List Int) (e : Ending) (w' : World) : Prop :=
  ∃ g c : Nat, e = .returned (.agg #[.slice (some ⟨g, 0, none⟩) n c]) ∧ w.heap.size < g ∧ n ≤ c ∧ RowF w' g 67 (n * 4) (ints zs) ∧ Below w.heap.size w w'

set_option maxRecDepth 100000 in
set_option maxHeartbeats 3200000 in
theorem l06Copy_any (b n c : Nat) (zs : List Int) (w : World) (h : RowF w b 67 (n * 4) (ints zs)) (hl : zs.length = n * 4) (hn1 : 1 ≤ n) (hn : n ≤ 1048576) :
    Calls Try.prog 50 #[.agg #[.slice (some ⟨b, 0, none⟩) n c]] w (CpyPost w n zs) := by
  have hz : ((w.alloc (.cells #[.slice (some ⟨b, 0, none⟩) n c] 41)).alloc (.cells #[.slice none 0 0] 41)).heap.size = w.heap.size + 1 + 1 := by simp
  have HBA : Hid (Below w.heap.size w (((w.alloc (.cells #[.slice (some ⟨b, 0, none⟩) n c] 41)).alloc (.cells #[.slice none 0 0] 41)).alloc (.cells #[] 67))) := Lib.hid ((((Below.refl _ _).alloc (Nat.le_refl _) _).alloc (by simp) _).alloc (by simp; omega) _)
  have HBC : Hid (Below (w.heap.size + 1 + 1) ((w.alloc (.cells #[.slice (some ⟨b, 0, none⟩) n c] 41)).alloc (.cells #[.slice none 0 0] 41)) (((w.alloc (.cells #[.slice (some ⟨b, 0, none⟩) n c] 41)).alloc (.cells #[.slice none 0 0] 41)).alloc (.cells #[] 67))) := Lib.hid ((Below.refl _ _).alloc (by rw [hz]; exact Nat.le_refl _) _)
  have HB2 : Hid (Below w.heap.size w ((w.alloc (.cells #[.slice (some ⟨b, 0, none⟩) n c] 41)).alloc (.cells #[.slice none 0 0] 41))) := Lib.hid (((Below.refl _ _).alloc (Nat.le_refl _) _).alloc (by simp) _)
  have HO : Hid (OwnR (((w.alloc (.cells #[.slice (some ⟨b, 0, none⟩) n c] 41)).alloc (.cells #[.slice none 0 0] 41)).alloc (.cells #[] 67)) (w.heap.size + 1 + 1) 67 4 (.slice (some ⟨w.heap.size + 1 + 1, 0, none⟩) 0 0) 0 []) := Lib.hid (by
    have h := OwnR.new ((w.alloc (.cells #[.slice (some ⟨b, 0, none⟩) n c] 41)).alloc (.cells #[.slice none 0 0] 41)) 67 4
    rw [hz] at h
    exact h)
  have HR0 : Hid (RowF ((w.alloc (.cells #[.slice (some ⟨b, 0, none⟩) n c] 41)).alloc (.cells #[.slice none 0 0] 41)) (w.heap.size + 1) 41 1 (fun _ => .slice none 0 0)) := Lib.hid (by
    have h := rowF_new1S (w.alloc (.cells #[.slice (some ⟨b, 0, none⟩) n c] 41)) (.slice none 0 0) 41
    rw [World.size_alloc] at h
    exact h)
  have HH := Lib.hid (h.after HBA.out)
  have hbl := h.lt
  clear h hz
  go_enter Try.func50, Try.ntmps50
  go_wp2_with (at_builtin; refine wpList_appR _ rfl (.tmp 3) (.tmp 5) 39 rfl (w.heap.size + 1 + 1) 67 4 32 #[.int .i64 0, .int .i64 0, .int .i64 0, .int .i64 0] Try.underlying39 infoJoint rfl (by decide) (by decide) _ 0 [] rfl (by exact HO.out) b n c zs rfl hl (fun i hi => by exact HH.out.cell hi) (by omega) (w.heap.size + 1 + 1) ((w.alloc (.cells #[.slice (some ⟨b, 0, none⟩) n c] 41)).alloc (.cells #[.slice none 0 0] 41)) (by exact HBC.out) (Nat.le_refl _) (by simp) _ rfl ?_ hn1; intro g' cap' w3 hown3 hb3; have HR3 := Lib.hid (HR0.out.below hb3 (by omega)); have r0 : w3.cell? ⟨w.heap.size + 1, 0, none⟩ = some (.slice none 0 0) := HR3.out.cell (i := 0) (by omega); have f0 := HR3.out.frozen 0; have z0 := HR3.out.lt)
  have HB3 := Lib.hid (HB2.out.trans (hb3.mono (by omega)))
  have HG : Hid (w.heap.size + 1 + 1 ≤ g' ∧ n ≤ cap' ∧ RowF w3 g' 67 (n * 4) (ints zs)) := Lib.hid (by
    rcases hown3.form with ⟨_, h2, _⟩ | ⟨g, cap, e, h1, h2, h3⟩
    · omega
    · simp only [Value.slice.injEq, Option.some.injEq, Addr.mk.injEq, and_true, true_and] at e
      obtain ⟨rfl, rfl⟩ := e
      refine ⟨h1, by omega, ?_⟩
      simpa using h3)
  clear hown3 hb3
  go_wp2
  refine bodyPost_ret (v := .agg #[.slice (some ⟨g', 0, none⟩) n cap']) (by simp [results, Try.results50, go_sem, *]) rfl ?_
  exact ⟨g', cap', rfl, by have := HG.out.1; omega, HG.out.2.1, HG.out.2.2.set_other (by have := HG.out.1; simp; omega) _, HB3.out.setCell (by simp) _⟩

set_option maxHeartbeats 1600000 in
theorem l01Once_any (g : Nat) (A : Option Addr) (n c : Nat) (zs : List Int) (m : Int) (w : World) (h : BytesAt w g A n zs) (hn : n ≤ 1048576) (hc : CurAt w g A n c) (h0 : 0 < m) (h1 : m ≤ 256) :
    Calls Try.prog 85 #[.pointer (some ⟨g, 0, none⟩), .int .i64 m] w fun e w' => ∃ b : Bool, e = .returned (.bool b) ∧ CurAt w' g A n c ∧ Only g w w' := by
  go_enter Try.func85, Try.ntmps85
  go_wp2_with fail
  refine (l01Below_any g A n c zs m _ h hn hc h0 h1).mono ?_
  rintro e w1 ⟨r, rfl, hr0, hr1, hc1, ho1⟩
  have HR := Lib.hid (show CurAt w1 g A n c ∧ Only g w w1 from ⟨hc1, ho1⟩)
  clear hc1 ho1 hc h
  go_wp2
  go_ret
  exact ⟨_, rfl, HR.out.1, HR.out.2⟩
end Go.Proofs.Ytdjhiegolojoaaa
end

section
/-
  Contracts: the draw of a valid arch.
-/
namespace Go.Proofs.Ytdjhiegolojoaaa
open Go.RowKit
set_option linter.unusedSimpArgs false
set_option linter.unusedVariables false

/-- Blocks below B stay, but for g. -/
def KeepB (g B : Nat) (w w' : World) : Prop := ∀ k, k < B → k ≠ g → w'.heap[k]? = w.heap[k]?
theorem KeepB.only {g B : Nat} {w wr w' : World} (h : KeepB g B w wr) (ho : Only g wr w') : KeepB g B w w' := fun k hk hg => (ho.block k hg).trans (h k hk hg)
theorem KeepB.belowB {g B C : Nat} {w wr w' : World} (h : KeepB g B w wr) (hb : Below C wr w') (hC : B ≤ C) : KeepB g B w w' := fun k hk hg => (hb.block k (by omega)).trans (h k hk hg)
theorem KeepB.set {g B : Nat} {w wr : World} (h : KeepB g B w wr) {p : Addr} (hp : B ≤ p.block) (v : Value) : KeepB g B w (wr.setCell p v) := h.belowB ((Below.refl B wr).setCell hp v) (Nat.le_refl _)
theorem KeepB.trans {g B B' : Nat} {w wr w' : World} (h : KeepB g B w wr) (h' : KeepB g B' wr w') (hB : B ≤ B') : KeepB g B w w' := fun k hk hg => (h' k (by omega) hg).trans (h k hk hg)
theorem KeepB.row {g B : Nat} {w w' : World} (h : KeepB g B w w') {k M : Nat} {T : TypeId} {f : Nat → Value} (hr : RowF w k T M f) (hk : k < B) (hg : k ≠ g) : RowF w' k T M f := RowF.of_block hr (h k hk hg)
/-- What the draw of an arch knows at the loop's head: the result's cell, the arch in hand (in block X, its joints in block b), the cursor. -/
structure ArSt (w wr : World) (g : Nat) (A : Option Addr) (n c : Nat) (zs : List Int) (X b m d : Nat) (Z : List Int) : Prop where
  res : RowF wr w.heap.size 41 1 (fun _ => .slice none 0 0)
  box : RowF wr X 41 1 (fun _ => .slice (some ⟨b, 0, none⟩) m d)
  row : RowF wr b 67 (m * 4) (ints Z)
  ok : Z.length = m * 4 ∧ archB Z m = true ∧ m ≤ d
  far : g < w.heap.size ∧ w.heap.size < X ∧ w.heap.size < b
  cur : CurAt wr g A n c
  code : BytesAt wr g A n zs
  below : Below g w wr
  keep : KeepB g w.heap.size w wr
section
variable {w wr w' : World} {g : Nat} {A : Option Addr} {n c : Nat} {zs : List Int} {X b m d : Nat} {Z : List Int}
theorem ArSt.only (h : ArSt w wr g A n c zs X b m d Z) (ho : Only g wr w') (hc : CurAt w' g A n c) : ArSt w w' g A n c zs X b m d Z :=
  ⟨h.res.only ho (by have := h.far; omega), h.box.only ho (by have := h.far; omega), h.row.only ho (by have := h.far; omega), h.ok, h.far, hc, h.code.only ho (Nat.le_refl _), h.below.trans (ho.below (Nat.le_refl _)), h.keep.only ho⟩
theorem ArSt.after (h : ArSt w wr g A n c zs X b m d Z) (hb : Below wr.heap.size wr w') : ArSt w w' g A n c zs X b m d Z :=
  ⟨h.res.after hb, h.box.after hb, h.row.after hb, h.ok, h.far, h.cur.after hb, h.code.below (hb.mono (by have := h.far; have := h.below.size; omega)), h.below.trans (hb.mono (by have := h.far; have := h.below.size; omega)), h.keep.belowB hb h.below.size⟩
theorem ArSt.setOther (h : ArSt w wr g A n c zs X b m d Z) {p : Addr} (h1 : w.heap.size < p.block) (h2 : X ≠ p.block) (h3 : b ≠ p.block) (v : Value) : ArSt w (wr.setCell p v) g A n c zs X b m d Z := by
  have hf := h.far
  refine ⟨h.res.set_other (by omega) v, h.box.set_other h2 v, h.row.set_other h3 v, h.ok, h.far, ?_, h.code.below ((Below.refl _ _).setCell (by omega) v), h.below.setCell (by omega) v, h.keep.set (by omega) v⟩
  obtain ⟨i, x, hi, hc⟩ := h.cur
  exact ⟨i, x, hi, RowF.set_other hc (by omega) v⟩
theorem ArSt.drew (h : ArSt w wr g A n c zs X b m d Z) : ArSt w wr.drew g A n c zs X b m d Z :=
  ⟨h.res, h.box, h.row, h.ok, h.far, h.cur, h.code, below_drewN h.below 1, h.keep⟩
theorem ArSt.swap {b' d' : Nat} {Z' : List Int} (h : ArSt w wr g A n c zs X b m d Z) (hr : RowF wr b' 67 (m * 4) (ints Z')) (ho : Z'.length = m * 4 ∧ archB Z' m = true ∧ m ≤ d') (hb : w.heap.size < b' ∧ X ≠ b') : ArSt w (wr.setCell ⟨X, 0, none⟩ (.slice (some ⟨b', 0, none⟩) m d')) g A n c zs X b' m d' Z' := by
  have hf := h.far
  refine ⟨h.res.set_other (by simp; omega) _, (h.box.set 0 _).congr (fun j hj => by simp; omega), hr.set_other (by simp; omega) _, ho, ⟨hf.1, hf.2.1, hb.1⟩, ?_, h.code.below ((Below.refl _ _).setCell (by simp; omega) _), h.below.setCell (by simp; omega) _, h.keep.set (by simp; omega) _⟩
  obtain ⟨i, x, hi, hc⟩ := h.cur
  exact ⟨i, x, hi, RowF.set_other hc (by simp; omega) _⟩
end
theorem nth_setZ (Z : List Int) (t : Nat) (x : Int) (i : Nat) (ht : t < Z.length) : nth (Z.set t x) i = if i = t then x else nth Z i := by
  by_cases hi : i < Z.length
  · rw [nth_get _ _ (by rw [List.length_set]; exact hi), List.getElem_set]
    by_cases e : t = i
    · subst e; simp
    · rw [if_neg e, if_neg (fun h => e h.symm), nth_get _ _ hi]
  · have e : ¬ i = t := by omega
    rw [if_neg e]
    simp [nth, List.getD, Nat.not_lt.1 hi]
/-- Two neighbouring numbers of a row set. -/
theorem rowF_put2 {w : World} {b M p : Nat} {E : TypeId} {Z : List Int} (h : RowF w b E M (ints Z)) (hl : Z.length = M) (hp : p + 1 < M) (x y : Int) : RowF ((w.setCell ⟨b, p, none⟩ (.int .i64 x)).setCell ⟨b, p + 1, none⟩ (.int .i64 y)).drew b E M (ints ((Z.set p x).set (p + 1) y)) := by
  refine (((h.set p (.int .i64 x)).set (p + 1) (.int .i64 y)).congr (fun j hj => ?_)).drew
  simp only [ints]
  rw [nth_setZ _ _ _ _ (by rw [List.length_set]; omega), nth_setZ _ _ _ _ (by omega)]
  by_cases e1 : j = p + 1
  · simp [e1]
  · by_cases e2 : j = p
    · subst e2; simp
    · simp [e1, e2]

/-- A valid arch comes back, in a row of its own; only the cursor turns. -/
def ArPostK (w : World) (g : Nat) (A : Option Addr) (n c : Nat) (e : Ending) (w' : World) : Prop :=
  ∃ (b m d : Nat) (Z : List Int), e = .returned (.agg #[.slice (some ⟨b, 0, none⟩) m d]) ∧ w.heap.size < b ∧ m ≤ d ∧ RowF w' b 67 (m * 4) (ints Z) ∧ Z.length = m * 4 ∧ archB Z m = true ∧ CurAt w' g A n c ∧ KeepB g w.heap.size w w' ∧ Below g w w'
def ArPost (w : World) (g : Nat) (A : Option Addr) (n c : Nat) (e : Ending) (w' : World) : Prop :=
  ∃ (b m d : Nat) (Z : List Int), e = .returned (.agg #[.slice (some ⟨b, 0, none⟩) m d]) ∧ w.heap.size < b ∧ m ≤ d ∧ RowF w' b 67 (m * 4) (ints Z) ∧ Z.length = m * 4 ∧ archB Z m = true ∧ CurAt w' g A n c ∧ Below g w w'

set_option maxRecDepth 100000 in
set_option maxHeartbeats 6400000 in
theorem l06Arch_keep (g : Nat) (A : Option Addr) (n c : Nat) (zs : List Int) (w : World) (h : BytesAt w g A n zs) (hn : n ≤ 1048576) (hc : CurAt w g A n c) (hg : g < w.heap.size) :
    Calls Try.prog 63 #[.pointer (some ⟨g, 0, none⟩)] w (ArPostK w g A n c) := by
  have h0 : BytesAt (w.alloc (.cells #[.slice none 0 0] 41)) g A n zs := h.below ((Below.refl _ _).alloc (by omega) _)
  have hc0 : CurAt (w.alloc (.cells #[.slice none 0 0] 41)) g A n c := hc.after ((Below.refl _ _).alloc (Nat.le_refl _) _)
  have HB0 : Hid (Below g w (w.alloc (.cells #[.slice none 0 0] 41))) := Lib.hid ((Below.refl _ _).alloc (by omega) _)
  have HV0 : Hid (RowF (w.alloc (.cells #[.slice none 0 0] 41)) w.heap.size 41 1 (fun _ => .slice none 0 0)) := Lib.hid (rowF_new1S _ _ _)
  have HS0 : Hid ((w.alloc (.cells #[.slice none 0 0] 41)).heap.size = w.heap.size + 1) := Lib.hid (by simp)
  have HG := Lib.hid hg
  clear h hc
  go_enter Try.func63, Try.ntmps63
  go_wp2_with fail
  refine (l01Below_any g A n c zs 6 _ h0 hn hc0 (by omega) (by omega)).mono ?_
  rintro e w1 ⟨x, rfl, x0, x1, hc1, ho1⟩
  have HH1 := Lib.hid (h0.only ho1 (Nat.le_refl _))
  have HB1 := Lib.hid (HB0.out.trans (ho1.below (Nat.le_refl _)))
  have HV1 := Lib.hid (HV0.out.only ho1 (by have := HG.out; omega))
  have HS1 := Lib.hid (ho1.size.trans HS0.out)
  have HC1 := Lib.hid hc1
  have HK0 : Hid (KeepB g w.heap.size w (w.alloc (.cells #[.slice none 0 0] 41))) := Lib.hid (fun k hk _ => ((Below.refl w.heap.size w).alloc (Nat.le_refl _) _).block k hk)
  have HK1 := Lib.hid (HK0.out.only ho1)
  clear h0 hc0 ho1 HB0 HV0 HS0 hc1
  go_wp2_with fail
  refine (l06Shape_any x w1 x0 x1).mono ?_
  rintro e w2 ⟨b, m, Z, rfl, hbg, hbr, hbl, hbo, hb2⟩
  have HA2 : Hid (ArSt w (w2.alloc (.cells #[.slice (some ⟨b, 0, none⟩) m m] 41)) g A n c zs w2.heap.size b m m Z) := Lib.hid (by
    have h1 := HG.out
    have h2 := HS1.out
    have h3 := hb2.size
    have hbb := hb2.alloc (o := .cells #[.slice (some ⟨b, 0, none⟩) m m] 41) h3
    exact ⟨HV1.out.after hbb, rowF_new1S _ _ _, hbr.alloc _, ⟨hbl, hbo, Nat.le_refl _⟩, ⟨h1, by omega, by omega⟩, HC1.out.after hbb, HH1.out.below (hbb.mono (by omega)), HB1.out.trans (hbb.mono (by omega)), HK1.out.belowB hbb (by omega)⟩)
  obtain ⟨X, hX⟩ : ∃ X, w2.heap.size = X := ⟨_, rfl⟩
  clear hbg hbr hbl hbo hb2 HH1 HB1 HV1 HS1 HC1
  go_wp2_with fail
  refine (l01Below_any g A n c zs 5 _ HA2.out.code hn HA2.out.cur (by omega) (by omega)).mono ?_
  rintro e w3 ⟨r, rfl, r0, r1, hc3, ho3⟩
  have HA3 := Lib.hid (HA2.out.only ho3 hc3)
  rw [hX] at HA3
  clear hc3 ho3 HA2
  obtain ⟨q, rfl⟩ := Int.eq_ofNat_of_zero_le r0
  go_wp2
  go_loopw [4] (fun v4 wr => ∃ (k b m d : Nat) (Z : List Int), v4 = .int .i64 k ∧ k ≤ 5 ∧ Hid (ArSt w wr g A n c zs X b m d Z)) (fun v4 _ => (intOf v4).toNat)
  case atStart => exact ⟨q, b, m, m, Z, rfl, by omega, HA3⟩
  case round =>
    clear HA3
    obtain ⟨k, b, m, d, Z, rfl, hk5, HA⟩ := hrel
    have bx : wr.cell? ⟨X, 0, none⟩ = some (.slice (some ⟨b, 0, none⟩) m d) := HA.out.box.cell (i := 0) (by omega)
    have xf := HA.out.box.frozen 0
    have hm8 := (archB_out HA.out.ok.2.1).1
    by_cases he : 0 < k
    · have i1 : (0 : Int) < (k : Int) := by omega
      go_wp2_with fail
      refine (l06Copy_any b m d Z wr HA.out.row HA.out.ok.1 (by omega) (by omega)).mono ?_
      rintro e w4 ⟨g2, d2, rfl, hg2, hd2, hr2, hb4⟩
      have HR4 := Lib.hid (hr2.alloc (.cells #[.slice (some ⟨g2, 0, none⟩) m d2] 41))
      have HY4 := Lib.hid (rowF_new1S w4 (.slice (some ⟨g2, 0, none⟩) m d2) 41)
      have HA4 := Lib.hid (HA.out.after (hb4.alloc hb4.size (.cells #[.slice (some ⟨g2, 0, none⟩) m d2] 41)))
      have HF4 : Hid (w.heap.size < g2 ∧ w.heap.size < w4.heap.size ∧ X ≠ w4.heap.size ∧ b ≠ g2 ∧ X ≠ g2 ∧ g2 ≠ w4.heap.size ∧ m ≤ d2) := Lib.hid (by
        have h1 := HA.out.below.size
        have h2 := HA.out.box.lt
        have h3 := hb4.size
        have h4 := HA.out.row.lt
        have h5 := hr2.lt
        exact ⟨by omega, by omega, by omega, by omega, by omega, by omega, hd2⟩)
      obtain ⟨Y, hY⟩ : ∃ Y, w4.heap.size = Y := ⟨_, rfl⟩
      rw [hY] at HY4 HF4
      have y0 : (w4.alloc (.cells #[.slice (some ⟨g2, 0, none⟩) m d2] 41)).cell? ⟨Y, 0, none⟩ = some (.slice (some ⟨g2, 0, none⟩) m d2) := HY4.out.cell (i := 0) (by omega)
      clear hg2 hd2 hr2 hb4 HA bx
      go_wp2_with fail
      refine (l01Below_any g A n c zs (m : Int) _ HA4.out.code hn HA4.out.cur (by omega) (by omega)).mono ?_
      rintro e w5 ⟨i, rfl, z0, z1, hc5, ho5⟩
      have HA5 := Lib.hid (HA4.out.only ho5 hc5)
      have HY5 := Lib.hid (HY4.out.only ho5 (by have := HA4.out.below.size; have := HF4.out; omega))
      have HR5 := Lib.hid (HR4.out.only ho5 (by have := HF4.out; omega))
      clear hc5 ho5 HA4 HY4 HR4 y0
      obtain ⟨i, rfl⟩ := Int.eq_ofNat_of_zero_le z0
      go_wp2_with fail
      refine (l01Below_any g A n c zs 3 _ HA5.out.code hn HA5.out.cur (by omega) (by omega)).mono ?_
      rintro e w6 ⟨dx, rfl, dx0, dx1, hc6, ho6⟩
      have HA6 := Lib.hid (HA5.out.only ho6 hc6)
      have HY6 := Lib.hid (HY5.out.only ho6 (by have := HF4.out; omega))
      have HR6 := Lib.hid (HR5.out.only ho6 (by have := HF4.out; omega))
      clear hc6 ho6 HA5 HY5 HR5
      go_wp2_with fail
      refine (l01Below_any g A n c zs 3 _ HA6.out.code hn HA6.out.cur (by omega) (by omega)).mono ?_
      rintro e w7 ⟨dy, rfl, dy0, dy1, hc7, ho7⟩
      have HA7 := Lib.hid (HA6.out.only ho7 hc7)
      have HY7 := Lib.hid (HY6.out.only ho7 (by have := HF4.out; omega))
      have HR7 := Lib.hid (HR6.out.only ho7 (by have := HF4.out; omega))
      clear hc7 ho7 HA6 HY6 HR6
      go_wp2_with fail
      refine (l01Once_any g A n c zs 2 _ HA7.out.code hn HA7.out.cur (by omega) (by omega)).mono ?_
      rintro e w8 ⟨bb, rfl, hc8, ho8⟩
      have HA8 := Lib.hid (HA7.out.only ho8 hc8)
      have HY8 := Lib.hid (HY7.out.only ho8 (by have := HF4.out; omega))
      have HR8 := Lib.hid (HR7.out.only ho8 (by have := HF4.out; omega))
      clear hc8 ho8 HA7 HY7 HR7
      have y0 : w8.cell? ⟨Y, 0, none⟩ = some (.slice (some ⟨g2, 0, none⟩) m d2) := HY8.out.cell (i := 0) (by omega)
      have c0 : w8.cell? ⟨g2, i * 4, none⟩ = some (.int .i64 (nth Z (i * 4))) := HR8.out.cell (by omega)
      have c1 : w8.cell? ⟨g2, i * 4 + 1, none⟩ = some (.int .i64 (nth Z (i * 4 + 1))) := HR8.out.cell (by omega)
      have c2 : w8.cell? ⟨g2, i * 4 + 2, none⟩ = some (.int .i64 (nth Z (i * 4 + 2))) := HR8.out.cell (by omega)
      have c3 : w8.cell? ⟨g2, i * 4 + 3, none⟩ = some (.int .i64 (nth Z (i * 4 + 3))) := HR8.out.cell (by omega)
      have f0 := HR8.out.frozen (i * 4)
      have f1 := HR8.out.frozen (i * 4 + 1)
      have f2 := HR8.out.frozen (i * 4 + 2)
      have f3 := HR8.out.frozen (i * 4 + 3)
      have zl := HR8.out.lt
      have i2 : (i : Int) < (m : Int) := by omega
      have i3 : (0 : Int) ≤ (i : Int) := by omega
      cases bb
      · have HL9 : Hid (((Z.set (i * 4 + 2) (wrap64 (nth Z (i * 4 + 2) + (dx - 1)))).set (i * 4 + 2 + 1) (wrap64 (nth Z (i * 4 + 3) + (dy - 1)))).length = m * 4) := Lib.hid (by simp [HA8.out.ok.1])
        have HR9 : Hid (RowF (((w8.setCell ⟨g2, i * 4 + 2, none⟩ (.int .i64 (wrap64 (nth Z (i * 4 + 2) + (dx - 1))))).setCell ⟨g2, i * 4 + 2 + 1, none⟩ (.int .i64 (wrap64 (nth Z (i * 4 + 3) + (dy - 1))))).drew) g2 67 (m * 4) (ints ((Z.set (i * 4 + 2) (wrap64 (nth Z (i * 4 + 2) + (dx - 1)))).set (i * 4 + 2 + 1) (wrap64 (nth Z (i * 4 + 3) + (dy - 1)))))) := Lib.hid (rowF_put2 HR8.out HA8.out.ok.1 (by omega) _ _)
        have HA9 : Hid (ArSt w (((w8.setCell ⟨g2, i * 4 + 2, none⟩ (.int .i64 (wrap64 (nth Z (i * 4 + 2) + (dx - 1))))).setCell ⟨g2, i * 4 + 2 + 1, none⟩ (.int .i64 (wrap64 (nth Z (i * 4 + 3) + (dy - 1))))).drew) g A n c zs X b m d Z) := Lib.hid ((((HA8.out.setOther (by exact HF4.out.1) (by exact HF4.out.2.2.2.2.1) (by exact HF4.out.2.2.2.1) _).setOther (by exact HF4.out.1) (by exact HF4.out.2.2.2.2.1) (by exact HF4.out.2.2.2.1) _)).drew)
        have HY9 : Hid (RowF (((w8.setCell ⟨g2, i * 4 + 2, none⟩ (.int .i64 (wrap64 (nth Z (i * 4 + 2) + (dx - 1))))).setCell ⟨g2, i * 4 + 2 + 1, none⟩ (.int .i64 (wrap64 (nth Z (i * 4 + 3) + (dy - 1))))).drew) Y 41 1 (fun _ => .slice (some ⟨g2, 0, none⟩) m d2)) := Lib.hid ((((HY8.out.set_other (by have := HF4.out; simp; omega) _).set_other (by have := HF4.out; simp; omega) _)).drew)
        go_wp2_with fail
        go_region
        clear y0 c0 c1 c2 c3 f0 f1 f2 f3 HR8 HA8 HY8
        obtain ⟨W9, hW9⟩ : ∃ W9 : World, ((w8.setCell ⟨g2, i * 4 + 2, none⟩ (.int .i64 (wrap64 (nth Z (i * 4 + 2) + (dx - 1))))).setCell ⟨g2, i * 4 + 2 + 1, none⟩ (.int .i64 (wrap64 (nth Z (i * 4 + 3) + (dy - 1))))).drew = W9 := ⟨_, rfl⟩
        obtain ⟨Z9, hZ9⟩ : ∃ Z9 : List Int, ((Z.set (i * 4 + 2) (wrap64 (nth Z (i * 4 + 2) + (dx - 1)))).set (i * 4 + 2 + 1) (wrap64 (nth Z (i * 4 + 3) + (dy - 1)))) = Z9 := ⟨_, rfl⟩
        rw [hW9] at HR9 HA9 HY9
        rw [hZ9] at HR9 HL9
        have y9 : W9.cell? ⟨Y, 0, none⟩ = some (.slice (some ⟨g2, 0, none⟩) m d2) := HY9.out.cell (i := 0) (by omega)
        go_wp2_with fail
        refine (sArchOk_any _ m _ Z9 W9 (HR9.out.recs HL9.out) (by omega)).mono ?_
        rintro e w10 ⟨rfl, hb10⟩
        have HA10 := Lib.hid (HA9.out.after hb10)
        have HR10 := Lib.hid (HR9.out.after hb10)
        have HY10 := Lib.hid (HY9.out.after hb10)
        have hk1 : IntKind.i64.wrap ((k : Int) - 1) = ((k - 1 : Nat) : Int) := by rw [IntWalk.i64_in _ (by omega)]; omega
        clear hb10 y9 HA9 HR9 HY9 hW9 hZ9
        cases hB : archB Z9 m
        · go_wp2
          go_roundw
          case rel => exact ⟨k - 1, b, m, d, Z, by go_num, by omega, HA10⟩
          case measure => simp [intOf]; omega
        · have y10 : w10.cell? ⟨Y, 0, none⟩ = some (.slice (some ⟨g2, 0, none⟩) m d2) := HY10.out.cell (i := 0) (by omega)
          have x10 : w10.cell? ⟨X, 0, none⟩ = some (.slice (some ⟨b, 0, none⟩) m d) := HA10.out.box.cell (i := 0) (by omega)
          have xf10 := HA10.out.box.frozen 0
          have HS10 := Lib.hid (HA10.out.swap (d' := d2) HR10.out ⟨HL9.out, hB, HF4.out.2.2.2.2.2.2⟩ ⟨HF4.out.1, HF4.out.2.2.2.2.1⟩)
          go_wp2
          go_roundw
          case rel => exact ⟨k - 1, g2, m, d2, Z9, by go_num, by omega, HS10⟩
          case measure => simp [intOf]; omega
      · have HL9 : Hid (((Z.set (i * 4) (wrap64 (nth Z (i * 4) + (dx - 1)))).set (i * 4 + 1) (wrap64 (nth Z (i * 4 + 1) + (dy - 1)))).length = m * 4) := Lib.hid (by simp [HA8.out.ok.1])
        have HR9 : Hid (RowF (((w8.setCell ⟨g2, i * 4, none⟩ (.int .i64 (wrap64 (nth Z (i * 4) + (dx - 1))))).setCell ⟨g2, i * 4 + 1, none⟩ (.int .i64 (wrap64 (nth Z (i * 4 + 1) + (dy - 1))))).drew) g2 67 (m * 4) (ints ((Z.set (i * 4) (wrap64 (nth Z (i * 4) + (dx - 1)))).set (i * 4 + 1) (wrap64 (nth Z (i * 4 + 1) + (dy - 1)))))) := Lib.hid (rowF_put2 HR8.out HA8.out.ok.1 (by omega) _ _)
        have HA9 : Hid (ArSt w (((w8.setCell ⟨g2, i * 4, none⟩ (.int .i64 (wrap64 (nth Z (i * 4) + (dx - 1))))).setCell ⟨g2, i * 4 + 1, none⟩ (.int .i64 (wrap64 (nth Z (i * 4 + 1) + (dy - 1))))).drew) g A n c zs X b m d Z) := Lib.hid ((((HA8.out.setOther (by exact HF4.out.1) (by exact HF4.out.2.2.2.2.1) (by exact HF4.out.2.2.2.1) _).setOther (by exact HF4.out.1) (by exact HF4.out.2.2.2.2.1) (by exact HF4.out.2.2.2.1) _)).drew)
        have HY9 : Hid (RowF (((w8.setCell ⟨g2, i * 4, none⟩ (.int .i64 (wrap64 (nth Z (i * 4) + (dx - 1))))).setCell ⟨g2, i * 4 + 1, none⟩ (.int .i64 (wrap64 (nth Z (i * 4 + 1) + (dy - 1))))).drew) Y 41 1 (fun _ => .slice (some ⟨g2, 0, none⟩) m d2)) := Lib.hid ((((HY8.out.set_other (by have := HF4.out; simp; omega) _).set_other (by have := HF4.out; simp; omega) _)).drew)
        go_wp2_with fail
        go_region
        clear y0 c0 c1 c2 c3 f0 f1 f2 f3 HR8 HA8 HY8
        obtain ⟨W9, hW9⟩ : ∃ W9 : World, ((w8.setCell ⟨g2, i * 4, none⟩ (.int .i64 (wrap64 (nth Z (i * 4) + (dx - 1))))).setCell ⟨g2, i * 4 + 1, none⟩ (.int .i64 (wrap64 (nth Z (i * 4 + 1) + (dy - 1))))).drew = W9 := ⟨_, rfl⟩
        obtain ⟨Z9, hZ9⟩ : ∃ Z9 : List Int, ((Z.set (i * 4) (wrap64 (nth Z (i * 4) + (dx - 1)))).set (i * 4 + 1) (wrap64 (nth Z (i * 4 + 1) + (dy - 1)))) = Z9 := ⟨_, rfl⟩
        rw [hW9] at HR9 HA9 HY9
        rw [hZ9] at HR9 HL9
        have y9 : W9.cell? ⟨Y, 0, none⟩ = some (.slice (some ⟨g2, 0, none⟩) m d2) := HY9.out.cell (i := 0) (by omega)
        go_wp2_with fail
        refine (sArchOk_any _ m _ Z9 W9 (HR9.out.recs HL9.out) (by omega)).mono ?_
        rintro e w10 ⟨rfl, hb10⟩
        have HA10 := Lib.hid (HA9.out.after hb10)
        have HR10 := Lib.hid (HR9.out.after hb10)
        have HY10 := Lib.hid (HY9.out.after hb10)
        have hk1 : IntKind.i64.wrap ((k : Int) - 1) = ((k - 1 : Nat) : Int) := by rw [IntWalk.i64_in _ (by omega)]; omega
        clear hb10 y9 HA9 HR9 HY9 hW9 hZ9
        cases hB : archB Z9 m
        · go_wp2
          go_roundw
          case rel => exact ⟨k - 1, b, m, d, Z, by go_num, by omega, HA10⟩
          case measure => simp [intOf]; omega
        · have y10 : w10.cell? ⟨Y, 0, none⟩ = some (.slice (some ⟨g2, 0, none⟩) m d2) := HY10.out.cell (i := 0) (by omega)
          have x10 : w10.cell? ⟨X, 0, none⟩ = some (.slice (some ⟨b, 0, none⟩) m d) := HA10.out.box.cell (i := 0) (by omega)
          have xf10 := HA10.out.box.frozen 0
          have HS10 := Lib.hid (HA10.out.swap (d' := d2) HR10.out ⟨HL9.out, hB, HF4.out.2.2.2.2.2.2⟩ ⟨HF4.out.1, HF4.out.2.2.2.2.1⟩)
          go_wp2
          go_roundw
          case rel => exact ⟨k - 1, g2, m, d2, Z9, by go_num, by omega, HS10⟩
          case measure => simp [intOf]; omega
    · obtain rfl : k = 0 := by omega
      have i1 : ¬ (0 : Int) < ((0 : Nat) : Int) := by omega
      have r0 : wr.cell? ⟨w.heap.size, 0, none⟩ = some (.slice none 0 0) := HA.out.res.cell (i := 0) (by omega)
      have rf := HA.out.res.frozen 0
      have rl := HA.out.res.lt
      go_wp2
      refine bodyPost_ret (v := .agg #[.slice (some ⟨b, 0, none⟩) m d]) (by simp [results, Try.results63, go_sem, *]) rfl ?_
      have hf := HA.out.far
      refine ⟨b, m, d, Z, rfl, hf.2.2, HA.out.ok.2.2, HA.out.row.set_other (by simp; omega) _, HA.out.ok.1, HA.out.ok.2.1, ?_, HA.out.keep.set (by simp) _, HA.out.below.setCell (by simp; omega) _⟩
      obtain ⟨i, x, hi, hc⟩ := HA.out.cur
      exact ⟨i, x, hi, RowF.set_other hc (by simp; omega) _⟩

theorem l06Arch_any (g : Nat) (A : Option Addr) (n c : Nat) (zs : List Int) (w : World) (h : BytesAt w g A n zs) (hn : n ≤ 1048576) (hc : CurAt w g A n c) (hg : g < w.heap.size) :
    Calls Try.prog 63 #[.pointer (some ⟨g, 0, none⟩)] w (ArPost w g A n c) :=
  (l06Arch_keep g A n c zs w h hn hc hg).mono (by rintro e w' ⟨b, m, d, Z, h1, h2, h3, h4, h5, h6, h7, _, h9⟩; exact ⟨b, m, d, Z, h1, h2, h3, h4, h5, h6, h7, h9⟩)

end Go.Proofs.Ytdjhiegolojoaaa
end

section
/-
  Plain facts: the conditions on a thrust that an arch with weights lays down. No Go function is spoken of here.
-/
namespace Go.Proofs.Ytdjhiegolojoaaa
open Go.RowKit

/-- The first k weights, and moments, of a list of pairs, summed. -/
def sumW (xs : List Int) : Nat → Int
  | 0 => 0
  | k + 1 => sumW xs k + nth xs (k * 2)
def sumM (xs : List Int) : Nat → Int
  | 0 => 0
  | k + 1 => sumM xs k + nth xs (k * 2 + 1)
/-- The two rows of joint k with weight W k and moment M k left of it. -/
def rowJ (zs : List Int) (W M : Nat → Int) (k : Nat) : List Int :=
  [nth zs (k * 4 + 1), -nth zs (k * 4), 1, M k - nth zs (k * 4) * W k, -nth zs (k * 4 + 3), nth zs (k * 4 + 2), -1, nth zs (k * 4 + 2) * W k - M k]
/-- The rows of the first k joints, flattened. -/
def rowTo (zs : List Int) (W M : Nat → Int) : Nat → List Int
  | 0 => []
  | k + 1 => rowTo zs W M k ++ rowJ zs W M k
def rowsL (zs : List Int) (W M : Nat → Int) (n : Nat) : List Int := rowTo zs W M n ++ [-1, 0, 0, 0]
section
variable {zs : List Int} {W M W' M' : Nat → Int}
theorem rowTo_len (zs : List Int) (W M : Nat → Int) : ∀ k, (rowTo zs W M k).length = k * 8
  | 0 => rfl
  | k + 1 => by simp [rowTo, rowTo_len zs W M k, rowJ]; omega
theorem rowsL_len (zs : List Int) (W M : Nat → Int) (n : Nat) : (rowsL zs W M n).length = (n * 2 + 1) * 4 := by
  simp [rowsL, rowTo_len]; omega
theorem rowTo_congr : ∀ {n : Nat}, (∀ k, k < n → W k = W' k ∧ M k = M' k) → rowTo zs W M n = rowTo zs W' M' n
  | 0, _ => rfl
  | n + 1, h => by
    simp only [rowTo]
    rw [rowTo_congr (fun k hk => h k (by omega))]
    simp only [rowJ, (h n (by omega)).1, (h n (by omega)).2]
theorem rowsL_congr {n : Nat} (h : ∀ k, k < n → W k = W' k ∧ M k = M' k) : rowsL zs W M n = rowsL zs W' M' n := by
  unfold rowsL
  rw [rowTo_congr h]
end
theorem nthA_l {xs ys : List Int} {i : Nat} (h : i < xs.length) : nth (xs ++ ys) i = nth xs i := by simp only [nth, List.getD]; rw [List.getElem?_append_left h]
theorem nthA_r {xs ys : List Int} {i : Nat} (j : Nat) (h : i = xs.length + j) : nth (xs ++ ys) i = nth ys j := by
  subst h
  simp only [nth, List.getD]
  rw [List.getElem?_append_right (by omega), Nat.add_sub_cancel_left]
theorem rowTo_nth (zs : List Int) (W M : Nat → Int) : ∀ {m k j : Nat}, k < m → j < 8 → nth (rowTo zs W M m) (k * 8 + j) = nth (rowJ zs W M k) j
  | 0, k, j, h, _ => absurd h (by omega)
  | m + 1, k, j, h, hj => by
    have hl := rowTo_len zs W M m
    simp only [rowTo]
    by_cases e : k = m
    · subst e
      exact nthA_r j (by omega)
    · rw [nthA_l (by omega)]
      exact rowTo_nth zs W M (by omega) hj
/-- A row is valid. -/
def rowB (a b c d : Int) : Bool := inB a (-100) 100 && (inB b (-100) 100 && (inB c (-1) 1 && inB d (-1000000000) 1000000000))
theorem rowB_1 {a : Int} (b c d : Int) (h : inB a (-100) 100 = false) : rowB a b c d = false := by simp [rowB, h]
theorem rowB_2 (a : Int) {b : Int} (c d : Int) (h : inB b (-100) 100 = false) : rowB a b c d = false := by simp [rowB, h]
theorem rowB_3 (a b : Int) {c : Int} (d : Int) (h : inB c (-1) 1 = false) : rowB a b c d = false := by simp [rowB, h]
theorem rowB_t {a b c : Int} (d : Int) (h1 : inB a (-100) 100 = true) (h2 : inB b (-100) 100 = true) (h3 : inB c (-1) 1 = true) : rowB a b c d = inB d (-1000000000) 1000000000 := by simp [rowB, h1, h2, h3]
theorem rowB_iff {a b c d : Int} : rowB a b c d = true ↔ (-100 ≤ a ∧ a ≤ 100) ∧ (-100 ≤ b ∧ b ≤ 100) ∧ (-1 ≤ c ∧ c ≤ 1) ∧ (-1000000000 ≤ d ∧ d ≤ 1000000000) := by simp [rowB, inB_iff]
def rowAt (rs : List Int) (i : Nat) : Bool := rowB (nth rs (i * 4)) (nth rs (i * 4 + 1)) (nth rs (i * 4 + 2)) (nth rs (i * 4 + 3))
/-- What the sums are bounded by. -/
def WMok (W M : Nat → Int) (n : Nat) : Prop := ∀ k, k < n → (-2000000 ≤ W k ∧ W k ≤ 2000000) ∧ (-80000000 ≤ M k ∧ M k ≤ 80000000)
theorem archB_ptsR {zs : List Int} {n : Nat} (h : archB zs n = true) : ∀ m, m < n → ptB (nth zs (m * 4)) (nth zs (m * 4 + 1)) = true ∧ ptB (nth zs (m * 4 + 2)) (nth zs (m * 4 + 3)) = true := by
  obtain ⟨hn, hp⟩ := archB_out h
  intro m hm
  by_cases e : m + 1 < n
  · have h1 := hp m (by omega)
    simp only [pairB, Bool.and_eq_true] at h1
    have h2 := (stoneB_out h1.1).2.1
    exact ⟨h2 0 (by omega), h2 3 (by omega)⟩
  · obtain ⟨k, rfl⟩ : ∃ k, m = k + 1 := ⟨m - 1, by omega⟩
    have h1 := hp k (by omega)
    simp only [pairB, Bool.and_eq_true] at h1
    have h2 := (stoneB_out h1.1).2.1
    exact ⟨h2 1 (by omega), h2 2 (by omega)⟩
/-- The reckoning of joint k's rows stays within its bounds. -/
structure JBd (ix iy ox oy w m : Int) : Prop where
  pi : (-60 ≤ ix ∧ ix ≤ 60) ∧ (-60 ≤ iy ∧ iy ≤ 60)
  po : (-60 ≤ ox ∧ ox ≤ 60) ∧ (-60 ≤ oy ∧ oy ≤ 60)
  hw : -2000000 ≤ w ∧ w ≤ 2000000
  hm : -80000000 ≤ m ∧ m ≤ 80000000
  iw : -120000000 ≤ ix * w ∧ ix * w ≤ 120000000
  ow : -120000000 ≤ ox * w ∧ ox * w ≤ 120000000
theorem jBd_of {zs : List Int} {W M : Nat → Int} {n k : Nat} (hA : archB zs n = true) (h : WMok W M n) (hk : k < n) : JBd (nth zs (k * 4)) (nth zs (k * 4 + 1)) (nth zs (k * 4 + 2)) (nth zs (k * 4 + 3)) (W k) (M k) := by
  have hp := archB_ptsR hA k hk
  rw [ptB_iff, ptB_iff] at hp
  have hw := h k hk
  have e1 := mul_bd (a := nth zs (k * 4)) (b := W k) (m := 60) (n := 2000000) (by omega) hw.1
  have e2 := mul_bd (a := nth zs (k * 4 + 2)) (b := W k) (m := 60) (n := 2000000) (by omega) hw.1
  exact ⟨hp.1, hp.2, hw.1, hw.2, by omega, by omega⟩
theorem rowsL_ok {zs : List Int} {W M : Nat → Int} {n : Nat} (hA : archB zs n = true) (h : WMok W M n) : ∀ i, i < n * 2 + 1 → rowAt (rowsL zs W M n) i = true := by
  intro i hi
  have hl := rowTo_len zs W M n
  by_cases e : i = n * 2
  · subst e
    unfold rowAt rowsL
    rw [nthA_r 0 (by omega), nthA_r 1 (by omega), nthA_r 2 (by omega), nthA_r 3 (by omega)]
    decide
  · have hk : i / 2 < n := by omega
    obtain ⟨hpi, hpo, hw, hm, hiw, how⟩ := jBd_of hA h hk
    unfold rowAt rowsL
    rw [nthA_l (by omega), nthA_l (by omega), nthA_l (by omega), nthA_l (by omega)]
    rcases Nat.mod_two_eq_zero_or_one i with e2 | e2
    · rw [show i * 4 = i / 2 * 8 + 0 by omega, show i / 2 * 8 + 0 + 1 = i / 2 * 8 + 1 by omega, show i / 2 * 8 + 0 + 2 = i / 2 * 8 + 2 by omega, show i / 2 * 8 + 0 + 3 = i / 2 * 8 + 3 by omega]
      rw [rowTo_nth _ _ _ hk (by omega), rowTo_nth _ _ _ hk (by omega), rowTo_nth _ _ _ hk (by omega), rowTo_nth _ _ _ hk (by omega), rowB_iff]
      simp only [rowJ, nth, List.getD_cons_zero, List.getD_cons_succ] at *
      omega
    · rw [show i * 4 = i / 2 * 8 + 4 by omega, show i / 2 * 8 + 4 + 1 = i / 2 * 8 + 5 by omega, show i / 2 * 8 + 4 + 2 = i / 2 * 8 + 6 by omega, show i / 2 * 8 + 4 + 3 = i / 2 * 8 + 7 by omega]
      rw [rowTo_nth _ _ _ hk (by omega), rowTo_nth _ _ _ hk (by omega), rowTo_nth _ _ _ hk (by omega), rowTo_nth _ _ _ hk (by omega), rowB_iff]
      simp only [rowJ, nth, List.getD_cons_zero, List.getD_cons_succ] at *
      omega
end Go.Proofs.Ytdjhiegolojoaaa
end

section
/-
  Plain facts: a thrust made out of four numbers; determinants of three rows. No Go function is spoken of here.
-/
namespace Go.Proofs.Ytdjhiegolojoaaa
open Go.RowKit

/-! ### A thrust in lowest terms -/
def mkBd (h v m d : Int) : Bool := inB h (-4000000000000000000) 4000000000000000000 && (inB v (-4000000000000000000) 4000000000000000000 && (inB m (-4000000000000000000) 4000000000000000000 && inB d (-4000000000000000000) 4000000000000000000))
def mkG (h v m d : Int) : Int := if d < 0 then -(gcd4 h v m d : Int) else gcd4 h v m d
def mkT (h v m d : Int) : Bool := thrB (Int.tdiv h (mkG h v m d)) (Int.tdiv v (mkG h v m d)) (Int.tdiv m (mkG h v m d)) (Int.tdiv d (mkG h v m d))
def mkB (h v m d : Int) : Bool := !decide (d = 0) && (mkBd h v m d && mkT h v m d)
def mkI (h v m d x : Int) : Int := if mkB h v m d = true then Int.tdiv x (mkG h v m d) else 0
theorem mkB_0 (h v m : Int) {d : Int} (hd : d = 0) : mkB h v m d = false := by simp [mkB, hd]
theorem mkB_1 {h v m d : Int} (hb : mkBd h v m d = false) : mkB h v m d = false := by simp [mkB, hb]
theorem mkB_2 {h v m d : Int} (hb : mkT h v m d = false) : mkB h v m d = false := by simp [mkB, hb]
theorem mkB_t {h v m d : Int} (hd : ¬ d = 0) (hb : mkBd h v m d = true) (ht : mkT h v m d = true) : mkB h v m d = true := by simp [mkB, hb, hd, ht]
theorem mkI_f {h v m d : Int} (hb : mkB h v m d = false) (x : Int) : mkI h v m d x = 0 := by simp [mkI, hb]
theorem mkI_t {h v m d : Int} (hb : mkB h v m d = true) (x : Int) : mkI h v m d x = Int.tdiv x (mkG h v m d) := by simp [mkI, hb]
theorem mkI_thr {h v m d : Int} (hb : mkB h v m d = true) : thrB (mkI h v m d h) (mkI h v m d v) (mkI h v m d m) (mkI h v m d d) = true := by
  simp only [mkI_t hb]
  simp only [mkB, Bool.and_eq_true] at hb
  exact hb.2.2
theorem mkBd_out {h v m d : Int} (hb : mkBd h v m d = true) : okG h ∧ okG v ∧ okG m ∧ okG d := by
  simp only [mkBd, Bool.and_eq_true, inB_iff] at hb
  exact hb
theorem mkG_ne (h v m : Int) {d : Int} (hd : ¬ d = 0) : mkG h v m d ≠ 0 := by
  have := gcd4_pos (a := h) (b := v) (c := m) hd
  unfold mkG
  split <;> omega
theorem mkB_ne {h v m d : Int} (hb : mkB h v m d = true) : ¬ d = 0 := by
  intro e
  rw [mkB_0 h v m e] at hb
  cases hb
theorem tdiv_bd {x g : Int} (h : okG x) : okG (Int.tdiv x g) := by
  have h1 : (Int.tdiv x g).natAbs ≤ x.natAbs := by
    rw [Int.natAbs_tdiv]
    exact Nat.div_le_self _ _
  unfold okG at *
  omega
theorem okG_wrap {x : Int} (h : okG x) : IntKind.i64.wrap x = x := by
  unfold okG at h
  exact IntWalk.i64_in _ (by omega)

/-! ### Determinants -/
def det9 (a0 a1 a2 b0 b1 b2 c0 c1 c2 : Int) : Int := a0 * (b1 * c2 - b2 * c1) - a1 * (b0 * c2 - b2 * c0) + a2 * (b0 * c1 - b1 * c0)
/-- No step of the determinant leaves the integers. -/
structure DetBd (a0 a1 a2 b0 b1 b2 c0 c1 c2 : Int) : Prop where
  p1 : -1000000000000000000 ≤ b1 * c2 ∧ b1 * c2 ≤ 1000000000000000000
  p2 : -1000000000000000000 ≤ b2 * c1 ∧ b2 * c1 ≤ 1000000000000000000
  p3 : -1000000000000000000 ≤ b0 * c2 ∧ b0 * c2 ≤ 1000000000000000000
  p4 : -1000000000000000000 ≤ b2 * c0 ∧ b2 * c0 ≤ 1000000000000000000
  p5 : -1000000000000000000 ≤ b0 * c1 ∧ b0 * c1 ≤ 1000000000000000000
  p6 : -1000000000000000000 ≤ b1 * c0 ∧ b1 * c0 ≤ 1000000000000000000
  q1 : -1000000000000000000 ≤ a0 * (b1 * c2 - b2 * c1) ∧ a0 * (b1 * c2 - b2 * c1) ≤ 1000000000000000000
  q2 : -1000000000000000000 ≤ a1 * (b0 * c2 - b2 * c0) ∧ a1 * (b0 * c2 - b2 * c0) ≤ 1000000000000000000
  q3 : -1000000000000000000 ≤ a2 * (b0 * c1 - b1 * c0) ∧ a2 * (b0 * c1 - b1 * c0) ≤ 1000000000000000000
theorem detBd {a0 a1 a2 b0 b1 b2 c0 c1 c2 P Q R : Int} (ha : (-P ≤ a0 ∧ a0 ≤ P) ∧ (-Q ≤ a1 ∧ a1 ≤ Q) ∧ (-R ≤ a2 ∧ a2 ≤ R)) (hb : (-P ≤ b0 ∧ b0 ≤ P) ∧ (-Q ≤ b1 ∧ b1 ≤ Q) ∧ (-R ≤ b2 ∧ b2 ≤ R)) (hc : (-P ≤ c0 ∧ c0 ≤ P) ∧ (-Q ≤ c1 ∧ c1 ≤ Q) ∧ (-R ≤ c2 ∧ c2 ≤ R))
    (hk : (Q * R ≤ 1000000000000000000 ∧ P * R ≤ 1000000000000000000 ∧ P * Q ≤ 1000000000000000000) ∧ (P * (2 * (Q * R)) ≤ 1000000000000000000 ∧ Q * (2 * (P * R)) ≤ 1000000000000000000 ∧ R * (2 * (P * Q)) ≤ 1000000000000000000)) : DetBd a0 a1 a2 b0 b1 b2 c0 c1 c2 := by
  obtain ⟨a0', a1', a2'⟩ := ha
  obtain ⟨b0', b1', b2'⟩ := hb
  obtain ⟨c0', c1', c2'⟩ := hc
  obtain ⟨⟨k1, k2, k3⟩, ⟨k4, k5, k6⟩⟩ := hk
  have p1 := mul_bd b1' c2'
  have p2 := mul_bd b2' c1'
  have p3 := mul_bd b0' c2'
  have p4 := mul_bd b2' c0'
  have p5 := mul_bd b0' c1'
  have p6 := mul_bd b1' c0'
  rw [Int.mul_comm R Q] at p2
  rw [Int.mul_comm R P] at p4
  rw [Int.mul_comm Q P] at p6
  have q1 := mul_bd (b := b1 * c2 - b2 * c1) (n := 2 * (Q * R)) a0' (by omega)
  have q2 := mul_bd (b := b0 * c2 - b2 * c0) (n := 2 * (P * R)) a1' (by omega)
  have q3 := mul_bd (b := b0 * c1 - b1 * c0) (n := 2 * (P * Q)) a2' (by omega)
  exact ⟨by omega, by omega, by omega, by omega, by omega, by omega, by omega, by omega, by omega⟩
/-- The bounds of the steps, as the walk wants them. -/
structure DetW (a0 a1 a2 b0 b1 b2 c0 c1 c2 : Int) : Prop where
  w1 : IntKind.i64.wrap (b1 * c2) = b1 * c2
  w2 : IntKind.i64.wrap (b2 * c1) = b2 * c1
  w3 : IntKind.i64.wrap (b0 * c2) = b0 * c2
  w4 : IntKind.i64.wrap (b2 * c0) = b2 * c0
  w5 : IntKind.i64.wrap (b0 * c1) = b0 * c1
  w6 : IntKind.i64.wrap (b1 * c0) = b1 * c0
  s1 : IntKind.i64.wrap (b1 * c2 - b2 * c1) = b1 * c2 - b2 * c1
  s2 : IntKind.i64.wrap (b0 * c2 - b2 * c0) = b0 * c2 - b2 * c0
  s3 : IntKind.i64.wrap (b0 * c1 - b1 * c0) = b0 * c1 - b1 * c0
  m1 : IntKind.i64.wrap (a0 * (b1 * c2 - b2 * c1)) = a0 * (b1 * c2 - b2 * c1)
  m2 : IntKind.i64.wrap (a1 * (b0 * c2 - b2 * c0)) = a1 * (b0 * c2 - b2 * c0)
  m3 : IntKind.i64.wrap (a2 * (b0 * c1 - b1 * c0)) = a2 * (b0 * c1 - b1 * c0)
  t1 : IntKind.i64.wrap (a0 * (b1 * c2 - b2 * c1) - a1 * (b0 * c2 - b2 * c0)) = a0 * (b1 * c2 - b2 * c1) - a1 * (b0 * c2 - b2 * c0)
  t2 : IntKind.i64.wrap (a0 * (b1 * c2 - b2 * c1) - a1 * (b0 * c2 - b2 * c0) + a2 * (b0 * c1 - b1 * c0)) = a0 * (b1 * c2 - b2 * c1) - a1 * (b0 * c2 - b2 * c0) + a2 * (b0 * c1 - b1 * c0)
theorem DetBd.wraps {a0 a1 a2 b0 b1 b2 c0 c1 c2 : Int} (h : DetBd a0 a1 a2 b0 b1 b2 c0 c1 c2) : DetW a0 a1 a2 b0 b1 b2 c0 c1 c2 := by
  obtain ⟨p1, p2, p3, p4, p5, p6, q1, q2, q3⟩ := h
  exact ⟨IntWalk.i64_in _ (by omega), IntWalk.i64_in _ (by omega), IntWalk.i64_in _ (by omega), IntWalk.i64_in _ (by omega), IntWalk.i64_in _ (by omega), IntWalk.i64_in _ (by omega), IntWalk.i64_in _ (by omega), IntWalk.i64_in _ (by omega), IntWalk.i64_in _ (by omega), IntWalk.i64_in _ (by omega), IntWalk.i64_in _ (by omega), IntWalk.i64_in _ (by omega), IntWalk.i64_in _ (by omega), IntWalk.i64_in _ (by omega)⟩
theorem DetBd.out {a0 a1 a2 b0 b1 b2 c0 c1 c2 : Int} (h : DetBd a0 a1 a2 b0 b1 b2 c0 c1 c2) : okG (det9 a0 a1 a2 b0 b1 b2 c0 c1 c2) := by
  obtain ⟨p1, p2, p3, p4, p5, p6, q1, q2, q3⟩ := h
  unfold okG det9
  omega
/-- The four determinants of three valid rows are within bounds. -/
theorem rows_det {pa pb pc pd qa qb qc qd ra rb rc rd : Int} (hp : rowB pa pb pc pd = true) (hq : rowB qa qb qc qd = true) (hr : rowB ra rb rc rd = true) :
    DetBd pa pb pc qa qb qc ra rb rc ∧ DetBd pd pb pc qd qb qc rd rb rc ∧ DetBd pa pd pc qa qd qc ra rd rc ∧ DetBd pa pb pd qa qb qd ra rb rd := by
  rw [rowB_iff] at hp hq hr
  exact ⟨detBd (P := 100) (Q := 100) (R := 1) (by omega) (by omega) (by omega) (by decide), detBd (P := 1000000000) (Q := 100) (R := 1) (by omega) (by omega) (by omega) (by decide), detBd (P := 100) (Q := 1000000000) (R := 1) (by omega) (by omega) (by omega) (by decide), detBd (P := 100) (Q := 100) (R := 1000000000) (by omega) (by omega) (by omega) (by decide)⟩
/-- The determinant of three rows; 0 where one of them is not valid. -/
def solD (pa pb pc pd qa qb qc qd ra rb rc rd : Int) : Int := if (rowB pa pb pc pd && (rowB qa qb qc qd && rowB ra rb rc rd)) = true then det9 pa pb pc qa qb qc ra rb rc else 0
end Go.Proofs.Ytdjhiegolojoaaa
end

section
/-
  Contracts: the reference's thrust out of four numbers, determinants, and the thrust at which three conditions are just met.
-/
namespace Go.Proofs.Ytdjhiegolojoaaa
open Go.RowKit
set_option linter.unusedSimpArgs false
set_option linter.unusedVariables false

/-- A thrust and a word, as both texts return them. -/
def thrV (h v m d : Int) (b : Bool) : Value := .tuple #[.agg #[.int .i64 h, .int .i64 v, .int .i64 m, .int .i64 d], .bool b]
def mkV (h v m d : Int) : Value := thrV (mkI h v m d h) (mkI h v m d v) (mkI h v m d m) (mkI h v m d d) (mkB h v m d)
theorem mkV_f {h v m d : Int} (hb : mkB h v m d = false) : mkV h v m d = thrV 0 0 0 0 false := by simp only [mkV, mkI_f hb, hb]
theorem mkV_t {h v m d : Int} (hb : mkB h v m d = true) : mkV h v m d = thrV (Int.tdiv h (mkG h v m d)) (Int.tdiv v (mkG h v m d)) (Int.tdiv m (mkG h v m d)) (Int.tdiv d (mkG h v m d)) true := by simp only [mkV, mkI_t hb, hb]

theorem below_dr {B : Nat} {a w : World} (h : Below B a w) : Below B a w.drew := ⟨h.os, h.tape, h.output, h.size, h.block⟩
theorem below_set4 {B : Nat} {a w : World} (h : Below B a w) {b : Nat} (hb : B ≤ b) (x y z u : Value) : Below B a ((((w.setCell ⟨b, 0, none⟩ x).setCell ⟨b, 1, none⟩ y).setCell ⟨b, 2, none⟩ z).setCell ⟨b, 3, none⟩ u) :=
  ((((h.setCell hb _).setCell hb _).setCell hb _).setCell hb _)
set_option maxRecDepth 100000 in
set_option maxHeartbeats 3200000 in
theorem sMake_any (h v m d : Int) (w : World) :
    Calls Try.prog 71 #[.int .i64 h, .int .i64 v, .int .i64 m, .int .i64 d] w fun e w' => e = .returned (mkV h v m d) ∧ Below w.heap.size w w' := by
  have HA := Lib.hid ((Below.refl w.heap.size w).alloc (Nat.le_refl _) (.cells #[.int .i64 0, .int .i64 0, .int .i64 0, .int .i64 0] 46))
  by_cases h0 : d = 0
  · have HF := Lib.hid (mkV_f (mkB_0 h v m h0))
    subst h0
    go_enter Try.func71, Try.ntmps71
    go_wp2
    refine bodyPost_ret (v := thrV 0 0 0 0 false) (by simp [thrV, results, Try.results71, go_sem, *]) rfl ?_
    exact ⟨by rw [HF.out], HA.out⟩
  have hd0 : (d == 0) = false := by simp [h0]
  cases h1 : inB h (-4000000000000000000) 4000000000000000000
  · have HF := Lib.hid (mkV_f (mkB_1 (h := h) (v := v) (m := m) (d := d) (by simp [mkBd, h1])))
    go_enter Try.func71, Try.ntmps71
    go_wp2_with (go_at_call 26; refine (l01In_any _ _ _ _).mono ?_; (first | rw [h1]); rintro e w' ⟨rfl, rfl⟩)
    refine bodyPost_ret (v := thrV 0 0 0 0 false) (by simp [thrV, results, Try.results71, go_sem, *]) rfl ?_
    exact ⟨by rw [HF.out], HA.out⟩
  cases h2 : inB v (-4000000000000000000) 4000000000000000000
  · have HF := Lib.hid (mkV_f (mkB_1 (h := h) (v := v) (m := m) (d := d) (by simp [mkBd, h1, h2])))
    go_enter Try.func71, Try.ntmps71
    go_wp2_with (go_at_call 26; refine (l01In_any _ _ _ _).mono ?_; (first | rw [h1] | rw [h2]); rintro e w' ⟨rfl, rfl⟩)
    refine bodyPost_ret (v := thrV 0 0 0 0 false) (by simp [thrV, results, Try.results71, go_sem, *]) rfl ?_
    exact ⟨by rw [HF.out], HA.out⟩
  cases h3 : inB m (-4000000000000000000) 4000000000000000000
  · have HF := Lib.hid (mkV_f (mkB_1 (h := h) (v := v) (m := m) (d := d) (by simp [mkBd, h1, h2, h3])))
    go_enter Try.func71, Try.ntmps71
    go_wp2_with (go_at_call 26; refine (l01In_any _ _ _ _).mono ?_; (first | rw [h1] | rw [h2] | rw [h3]); rintro e w' ⟨rfl, rfl⟩)
    refine bodyPost_ret (v := thrV 0 0 0 0 false) (by simp [thrV, results, Try.results71, go_sem, *]) rfl ?_
    exact ⟨by rw [HF.out], HA.out⟩
  cases h4 : inB d (-4000000000000000000) 4000000000000000000
  · have HF := Lib.hid (mkV_f (mkB_1 (h := h) (v := v) (m := m) (d := d) (by simp [mkBd, h1, h2, h3, h4])))
    go_enter Try.func71, Try.ntmps71
    go_wp2_with (go_at_call 26; refine (l01In_any _ _ _ _).mono ?_; (first | rw [h1] | rw [h2] | rw [h3] | rw [h4]); rintro e w' ⟨rfl, rfl⟩)
    refine bodyPost_ret (v := thrV 0 0 0 0 false) (by simp [thrV, results, Try.results71, go_sem, *]) rfl ?_
    exact ⟨by rw [HF.out], HA.out⟩
  have hbd : mkBd h v m d = true := by simp [mkBd, h1, h2, h3, h4]
  obtain ⟨o1, o2, o3, o4⟩ := mkBd_out hbd
  have o5 : okG (Nat.gcd h.natAbs v.natAbs : Nat) := okG_gcd o1 o2
  have o6 : okG (Nat.gcd m.natAbs d.natAbs : Nat) := okG_gcd o3 o4
  have o7 : okG (gcd4 h v m d : Nat) := okG_gcd o5 o6
  have HG4 := Lib.hid (show ((Nat.gcd (Nat.gcd h.natAbs v.natAbs) (Nat.gcd m.natAbs d.natAbs) : Nat) : Int) = (gcd4 h v m d : Nat) from rfl)
  have o8 := okG_neg o7
  have HNE := Lib.hid (mkG_ne h v m h0)
  have HT : Hid (mkT h v m d = thrB (Int.tdiv h (mkG h v m d)) (Int.tdiv v (mkG h v m d)) (Int.tdiv m (mkG h v m d)) (Int.tdiv d (mkG h v m d))) := rfl
  have HGN : Hid (d < 0 → mkG h v m d = -(gcd4 h v m d : Int)) := Lib.hid fun e => by simp [mkG, e]
  have HGP : Hid (¬ d < 0 → mkG h v m d = (gcd4 h v m d : Int)) := Lib.hid fun e => by simp [mkG, e]
  have q1 := okG_wrap (tdiv_bd (g := mkG h v m d) o1)
  have q2 := okG_wrap (tdiv_bd (g := mkG h v m d) o2)
  have q3 := okG_wrap (tdiv_bd (g := mkG h v m d) o3)
  have q4 := okG_wrap (tdiv_bd (g := mkG h v m d) o4)
  have HMF := Lib.hid (fun e => mkV_f (mkB_2 (h := h) (v := v) (m := m) (d := d) e))
  have HMT := Lib.hid (fun e => mkV_t (mkB_t h0 hbd e))
  obtain ⟨G, hG⟩ : ∃ G, mkG h v m d = G := ⟨_, rfl⟩
  rw [hG] at HNE HT HGN HGP q1 q2 q3 q4 HMT
  have hg1 : ¬ G = 0 := HNE.out
  go_enter Try.func71, Try.ntmps71
  go_wp2_with (go_at_call 26; refine (l01In_any _ _ _ _).mono ?_; (first | rw [h1] | rw [h2] | rw [h3] | rw [h4]); rintro e w' ⟨rfl, rfl⟩)
  refine (sGcd_any _ _ _ o1 o2).mono ?_
  rintro e w1 ⟨rfl, n1, rfl⟩
  go_wp2_with fail
  refine (sGcd_any _ _ _ o3 o4).mono ?_
  rintro e w1 ⟨rfl, n2, rfl⟩
  go_wp2_with fail
  refine (sGcd_any _ _ _ o5 o6).mono ?_
  rintro e w1 ⟨rfl, n3, rfl⟩
  rw [Int.natAbs_natCast, Int.natAbs_natCast, HG4.out]
  have HV : Hid (RowF (w.alloc (.cells #[.int .i64 0, .int .i64 0, .int .i64 0, .int .i64 0] 46)) w.heap.size 46 4 (fun _ => .int .i64 0)) :=
    Lib.hid (RowF.of_row (World.rowIs_alloc w #[.int .i64 0, .int .i64 0, .int .i64 0, .int .i64 0] 46 (fun _ => .int .i64 0) (fun i hi => by simp at hi; match i, hi with | 0, _ => rfl | 1, _ => rfl | 2, _ => rfl | 3, _ => rfl)))
  have HV5 := Lib.hid ((HV.out.drewN (n1 + n2)).drewN n3)
  have HB5 := Lib.hid (below_drewN (below_drewN HA.out (n1 + n2)) n3)
  obtain ⟨w5, hw5⟩ : ∃ w5, ((w.alloc (.cells #[.int .i64 0, .int .i64 0, .int .i64 0, .int .i64 0] 46)).drewN (n1 + n2)).drewN n3 = w5 := ⟨_, rfl⟩
  rw [hw5] at HV5 HB5 ⊢
  clear hw5 HV HA HG4
  by_cases hneg : d < 0
  · have o9 : IntKind.i64.wrap (-(gcd4 h v m d : Int)) = G := by rw [o8, HGN.out hneg]
    clear o8
    go_wp2
    go_region
    have HV6 := Lib.hid (HV5.out.after (below_dr ((Below.refl _ _).alloc (Nat.le_refl _) (.cells #[.int .i64 (h.tdiv G), .int .i64 (v.tdiv G), .int .i64 (m.tdiv G), .int .i64 (d.tdiv G)] 46))))
    have HB6 := Lib.hid (below_dr (HB5.out.alloc HB5.out.size (.cells #[.int .i64 (h.tdiv G), .int .i64 (v.tdiv G), .int .i64 (m.tdiv G), .int .i64 (d.tdiv G)] 46)))
    have HX6 : Hid (RowF (w5.alloc (.cells #[.int .i64 (h.tdiv G), .int .i64 (v.tdiv G), .int .i64 (m.tdiv G), .int .i64 (d.tdiv G)] 46)).drew w5.heap.size 46 4 (ints [h.tdiv G, v.tdiv G, m.tdiv G, d.tdiv G])) :=
      Lib.hid (RowF.of_row (World.rowIs_alloc w5 #[.int .i64 (h.tdiv G), .int .i64 (v.tdiv G), .int .i64 (m.tdiv G), .int .i64 (d.tdiv G)] 46 (ints [h.tdiv G, v.tdiv G, m.tdiv G, d.tdiv G]) (fun i hi => by simp at hi; match i, hi with | 0, _ => rfl | 1, _ => rfl | 2, _ => rfl | 3, _ => rfl)))
    obtain ⟨w6, hw6⟩ : ∃ w6, (w5.alloc (.cells #[.int .i64 (h.tdiv G), .int .i64 (v.tdiv G), .int .i64 (m.tdiv G), .int .i64 (d.tdiv G)] 46)).drew = w6 := ⟨_, rfl⟩
    rw [hw6] at HV6 HB6 HX6 ⊢
    have x0 : w6.cell? ⟨w5.heap.size, 0, none⟩ = some (.int .i64 (h.tdiv G)) := HX6.out.cell (i := 0) (by omega)
    have x1 : w6.cell? ⟨w5.heap.size, 1, none⟩ = some (.int .i64 (v.tdiv G)) := HX6.out.cell (i := 1) (by omega)
    have x2 : w6.cell? ⟨w5.heap.size, 2, none⟩ = some (.int .i64 (m.tdiv G)) := HX6.out.cell (i := 2) (by omega)
    have x3 : w6.cell? ⟨w5.heap.size, 3, none⟩ = some (.int .i64 (d.tdiv G)) := HX6.out.cell (i := 3) (by omega)
    clear hw6 HV5 HB5
    go_wp2_with fail
    refine (sThrustOk_any _ _ _ _ _).mono ?_
    rw [← HT.out]
    rintro e w7 ⟨rfl, hb7⟩
    have HV7 := Lib.hid (HV6.out.after hb7)
    have HX7 := Lib.hid (HX6.out.after hb7)
    have HB7 := Lib.hid (below_then HB6.out hb7)
    clear HV6 HB6 HX6 x0 x1 x2 x3 hb7
    have x0 : w7.cell? ⟨w5.heap.size, 0, none⟩ = some (.int .i64 (h.tdiv G)) := HX7.out.cell (i := 0) (by omega)
    have x1 : w7.cell? ⟨w5.heap.size, 1, none⟩ = some (.int .i64 (v.tdiv G)) := HX7.out.cell (i := 1) (by omega)
    have x2 : w7.cell? ⟨w5.heap.size, 2, none⟩ = some (.int .i64 (m.tdiv G)) := HX7.out.cell (i := 2) (by omega)
    have x3 : w7.cell? ⟨w5.heap.size, 3, none⟩ = some (.int .i64 (d.tdiv G)) := HX7.out.cell (i := 3) (by omega)
    have y0 : w7.cell? ⟨w.heap.size, 0, none⟩ = some (.int .i64 0) := HV7.out.cell (i := 0) (by omega)
    have y1 : w7.cell? ⟨w.heap.size, 1, none⟩ = some (.int .i64 0) := HV7.out.cell (i := 1) (by omega)
    have y2 : w7.cell? ⟨w.heap.size, 2, none⟩ = some (.int .i64 0) := HV7.out.cell (i := 2) (by omega)
    have y3 : w7.cell? ⟨w.heap.size, 3, none⟩ = some (.int .i64 0) := HV7.out.cell (i := 3) (by omega)
    have f0 := HV7.out.frozen 0
    have f1 := HV7.out.frozen 1
    have f2 := HV7.out.frozen 2
    have f3 := HV7.out.frozen 3
    have hs := RowF.lt HV7.out
    cases ht : mkT h v m d
    · have HF := Lib.hid (HMF.out ht)
      go_wp2
      refine bodyPost_ret (v := thrV 0 0 0 0 false) (by simp [thrV, results, Try.results71, go_sem, *]) rfl ?_
      exact ⟨by rw [HF.out], below_set4 HB7.out (Nat.le_refl _) _ _ _ _⟩
    · have HF := Lib.hid (HMT.out ht)
      go_wp2
      refine bodyPost_ret (v := thrV (h.tdiv G) (v.tdiv G) (m.tdiv G) (d.tdiv G) true) (by simp [thrV, results, Try.results71, go_sem, *]) rfl ?_
      exact ⟨by rw [HF.out], below_set4 HB7.out (Nat.le_refl _) _ _ _ _⟩
  · rw [← HGP.out (by omega)]
    go_wp2
    go_region
    have HV6 := Lib.hid (HV5.out.after (below_dr ((Below.refl _ _).alloc (Nat.le_refl _) (.cells #[.int .i64 (h.tdiv G), .int .i64 (v.tdiv G), .int .i64 (m.tdiv G), .int .i64 (d.tdiv G)] 46))))
    have HB6 := Lib.hid (below_dr (HB5.out.alloc HB5.out.size (.cells #[.int .i64 (h.tdiv G), .int .i64 (v.tdiv G), .int .i64 (m.tdiv G), .int .i64 (d.tdiv G)] 46)))
    have HX6 : Hid (RowF (w5.alloc (.cells #[.int .i64 (h.tdiv G), .int .i64 (v.tdiv G), .int .i64 (m.tdiv G), .int .i64 (d.tdiv G)] 46)).drew w5.heap.size 46 4 (ints [h.tdiv G, v.tdiv G, m.tdiv G, d.tdiv G])) :=
      Lib.hid (RowF.of_row (World.rowIs_alloc w5 #[.int .i64 (h.tdiv G), .int .i64 (v.tdiv G), .int .i64 (m.tdiv G), .int .i64 (d.tdiv G)] 46 (ints [h.tdiv G, v.tdiv G, m.tdiv G, d.tdiv G]) (fun i hi => by simp at hi; match i, hi with | 0, _ => rfl | 1, _ => rfl | 2, _ => rfl | 3, _ => rfl)))
    obtain ⟨w6, hw6⟩ : ∃ w6, (w5.alloc (.cells #[.int .i64 (h.tdiv G), .int .i64 (v.tdiv G), .int .i64 (m.tdiv G), .int .i64 (d.tdiv G)] 46)).drew = w6 := ⟨_, rfl⟩
    rw [hw6] at HV6 HB6 HX6 ⊢
    have x0 : w6.cell? ⟨w5.heap.size, 0, none⟩ = some (.int .i64 (h.tdiv G)) := HX6.out.cell (i := 0) (by omega)
    have x1 : w6.cell? ⟨w5.heap.size, 1, none⟩ = some (.int .i64 (v.tdiv G)) := HX6.out.cell (i := 1) (by omega)
    have x2 : w6.cell? ⟨w5.heap.size, 2, none⟩ = some (.int .i64 (m.tdiv G)) := HX6.out.cell (i := 2) (by omega)
    have x3 : w6.cell? ⟨w5.heap.size, 3, none⟩ = some (.int .i64 (d.tdiv G)) := HX6.out.cell (i := 3) (by omega)
    clear hw6 HV5 HB5
    go_wp2_with fail
    refine (sThrustOk_any _ _ _ _ _).mono ?_
    rw [← HT.out]
    rintro e w7 ⟨rfl, hb7⟩
    have HV7 := Lib.hid (HV6.out.after hb7)
    have HX7 := Lib.hid (HX6.out.after hb7)
    have HB7 := Lib.hid (below_then HB6.out hb7)
    clear HV6 HB6 HX6 x0 x1 x2 x3 hb7
    have x0 : w7.cell? ⟨w5.heap.size, 0, none⟩ = some (.int .i64 (h.tdiv G)) := HX7.out.cell (i := 0) (by omega)
    have x1 : w7.cell? ⟨w5.heap.size, 1, none⟩ = some (.int .i64 (v.tdiv G)) := HX7.out.cell (i := 1) (by omega)
    have x2 : w7.cell? ⟨w5.heap.size, 2, none⟩ = some (.int .i64 (m.tdiv G)) := HX7.out.cell (i := 2) (by omega)
    have x3 : w7.cell? ⟨w5.heap.size, 3, none⟩ = some (.int .i64 (d.tdiv G)) := HX7.out.cell (i := 3) (by omega)
    have y0 : w7.cell? ⟨w.heap.size, 0, none⟩ = some (.int .i64 0) := HV7.out.cell (i := 0) (by omega)
    have y1 : w7.cell? ⟨w.heap.size, 1, none⟩ = some (.int .i64 0) := HV7.out.cell (i := 1) (by omega)
    have y2 : w7.cell? ⟨w.heap.size, 2, none⟩ = some (.int .i64 0) := HV7.out.cell (i := 2) (by omega)
    have y3 : w7.cell? ⟨w.heap.size, 3, none⟩ = some (.int .i64 0) := HV7.out.cell (i := 3) (by omega)
    have f0 := HV7.out.frozen 0
    have f1 := HV7.out.frozen 1
    have f2 := HV7.out.frozen 2
    have f3 := HV7.out.frozen 3
    have hs := RowF.lt HV7.out
    cases ht : mkT h v m d
    · have HF := Lib.hid (HMF.out ht)
      go_wp2
      refine bodyPost_ret (v := thrV 0 0 0 0 false) (by simp [thrV, results, Try.results71, go_sem, *]) rfl ?_
      exact ⟨by rw [HF.out], below_set4 HB7.out (Nat.le_refl _) _ _ _ _⟩
    · have HF := Lib.hid (HMT.out ht)
      go_wp2
      refine bodyPost_ret (v := thrV (h.tdiv G) (v.tdiv G) (m.tdiv G) (d.tdiv G) true) (by simp [thrV, results, Try.results71, go_sem, *]) rfl ?_
      exact ⟨by rw [HF.out], below_set4 HB7.out (Nat.le_refl _) _ _ _ _⟩
end Go.Proofs.Ytdjhiegolojoaaa
end

section
/-
  Contracts: conditions on a thrust: valid, fulfilled, all fulfilled; in the program and in the reference.
-/
namespace Go.Proofs.Ytdjhiegolojoaaa
open Go.RowKit
set_option linter.unusedSimpArgs false

theorem gmul_bd {a b m n : Int} (ha : -m ≤ a ∧ a ≤ m) (hb : -n ≤ b ∧ b ≤ n) : -(m * n) ≤ a * b ∧ a * b ≤ m * n := mul_bd ha hb
/-- What the sides of a condition are bounded by. -/
structure SideBd (a b c d H V M D : Int) : Prop where
  aH : -100000000000000 ≤ a * H ∧ a * H ≤ 100000000000000
  bV : -1000000000000000 ≤ b * V ∧ b * V ≤ 1000000000000000
  cM : -10000000000000 ≤ c * M ∧ c * M ≤ 10000000000000
  dD : -1000000000000000 ≤ d * D ∧ d * D ≤ 1000000000000000
theorem sideBd {a b c d H V M D : Int} (ht : thrB H V M D = true) (hr : rowB a b c d = true) : SideBd a b c d H V M D := by
  obtain ⟨h1, h2, h3, h4, _⟩ := thrB_out ht
  rw [rowB_iff] at hr
  have e1 := mul_bd (a := a) (b := H) (m := 100) (n := 1000000000000) (by omega) (by omega)
  have e2 := mul_bd (a := b) (b := V) (m := 100) (n := 10000000000000) (by omega) (by omega)
  have e3 := mul_bd (a := c) (b := M) (m := 1) (n := 10000000000000) (by omega) (by omega)
  have e4 := mul_bd (a := d) (b := D) (m := 1000000000) (n := 1000000) (by omega) (by omega)
  exact ⟨by omega, by omega, by omega, by omega⟩
/-- The condition is fulfilled. -/
def metB (a b c d H V M D : Int) : Bool := decide (a * H + b * V + c * M ≤ d * D)
def fulB (a b c d H V M D : Int) : Bool := thrB H V M D && (rowB a b c d && metB a b c d H V M D)
theorem fulB_1 (a b c d : Int) {H V M D : Int} (h : thrB H V M D = false) : fulB a b c d H V M D = false := by simp [fulB, h]
theorem fulB_2 {a b c d : Int} (H V M D : Int) (h : rowB a b c d = false) : fulB a b c d H V M D = false := by simp [fulB, h]
theorem fulB_t {a b c d H V M D : Int} (h : thrB H V M D = true) (h2 : rowB a b c d = true) : fulB a b c d H V M D = metB a b c d H V M D := by simp [fulB, h, h2]
def fulAt (rs : List Int) (H V M D : Int) (i : Nat) : Bool := fulB (nth rs (i * 4)) (nth rs (i * 4 + 1)) (nth rs (i * 4 + 2)) (nth rs (i * 4 + 3)) H V M D
/-- All n conditions are fulfilled. -/
def fulAll (rs : List Int) (n : Nat) (H V M D : Int) : Bool := inB (n : Int) 1 40 && allB (fulAt rs H V M D) n
theorem fulAll_1 (rs : List Int) {n : Nat} (H V M D : Int) (h : inB (n : Int) 1 40 = false) : fulAll rs n H V M D = false := by simp [fulAll, h]
theorem fulAll_2 {rs : List Int} {n k : Nat} {H V M D : Int} (hk : k < n) (h : fulAt rs H V M D k = false) : fulAll rs n H V M D = false := by simp [fulAll, allB_f hk h]
theorem fulAll_t {rs : List Int} {n : Nat} {H V M D : Int} (h1 : inB (n : Int) 1 40 = true) (h : allTo (fulAt rs H V M D) n) : fulAll rs n H V M D = true := by simp [fulAll, h1, allB_t h]
theorem fulAll_s {rs : List Int} {n : Nat} {H V M D : Int} (h : allTo (fulAt rs H V M D) n) : fulAll rs n H V M D = inB (n : Int) 1 40 := by simp [fulAll, allB_t h]
theorem rwCells {wr : World} {b off n j : Nat} {zs : List Int} (hc : ∀ i, i < n * 4 → wr.cell? ⟨b, off + i, none⟩ = some (.int .i64 (nth zs i))) (hj : j < n) :
    wr.cell? ⟨b, off + j * 4, none⟩ = some (.int .i64 (nth zs (j * 4))) ∧ wr.cell? ⟨b, off + j * 4 + 1, none⟩ = some (.int .i64 (nth zs (j * 4 + 1))) ∧ wr.cell? ⟨b, off + j * 4 + 2, none⟩ = some (.int .i64 (nth zs (j * 4 + 2))) ∧ wr.cell? ⟨b, off + j * 4 + 3, none⟩ = some (.int .i64 (nth zs (j * 4 + 3))) :=
  ⟨hc (j * 4) (by omega), hc (j * 4 + 1) (by omega), hc (j * 4 + 2) (by omega), hc (j * 4 + 3) (by omega)⟩


set_option maxRecDepth 100000 in
set_option maxHeartbeats 1600000 in
theorem sRowOk_any (a b c d : Int) (w : World) :
    Calls Try.prog 69 #[.agg #[.int .i64 a, .int .i64 b, .int .i64 c, .int .i64 d]] w fun e w' => e = .returned (.bool (rowB a b c d)) ∧ Below w.heap.size w w' := by
  have HA := Lib.hid ((Below.refl w.heap.size w).alloc (Nat.le_refl _) (.cells #[.int .i64 a, .int .i64 b, .int .i64 c, .int .i64 d] 117))
  cases h1 : inB a (-100) 100
  · have HF := Lib.hid (rowB_1 b c d h1)
    go_enter Try.func69, Try.ntmps69
    go_wp2_with (go_at_call 26; refine (l01In_any _ _ _ _).mono ?_; (first | rw [h1]); rintro e w' ⟨rfl, rfl⟩)
    go_ret
    exact ⟨ret_bool HF.out.symm, HA.out⟩
  cases h2 : inB b (-100) 100
  · have HF := Lib.hid (rowB_2 a c d h2)
    go_enter Try.func69, Try.ntmps69
    go_wp2_with (go_at_call 26; refine (l01In_any _ _ _ _).mono ?_; (first | rw [h1] | rw [h2]); rintro e w' ⟨rfl, rfl⟩)
    go_ret
    exact ⟨ret_bool HF.out.symm, HA.out⟩
  cases h3 : inB c (-1) 1
  · have HF := Lib.hid (rowB_3 a b d h3)
    go_enter Try.func69, Try.ntmps69
    go_wp2_with (go_at_call 26; refine (l01In_any _ _ _ _).mono ?_; (first | rw [h1] | rw [h2] | rw [h3]); rintro e w' ⟨rfl, rfl⟩)
    go_ret
    exact ⟨ret_bool HF.out.symm, HA.out⟩
  have HF := Lib.hid (rowB_t d h1 h2 h3)
  generalize hd : inB d (-1000000000) 1000000000 = u at *
  go_enter Try.func69, Try.ntmps69
  go_wp2_with (go_at_call 26; refine (l01In_any _ _ _ _).mono ?_; (first | rw [h1] | rw [h2] | rw [h3] | rw [hd]); rintro e w' ⟨rfl, rfl⟩)
  go_ret
  exact ⟨ret_bool HF.out.symm, HA.out⟩

set_option maxRecDepth 100000 in
set_option maxHeartbeats 1600000 in
theorem l10Holds_any (a b c d H V M D : Int) (w : World) (hb : SideBd a b c d H V M D) :
    Calls Try.prog 89 #[.agg #[.int .i64 H, .int .i64 V, .int .i64 M, .int .i64 D], .agg #[.int .i64 a, .int .i64 b, .int .i64 c, .int .i64 d]] w fun e w' => e = .returned (.bool (metB a b c d H V M D)) ∧ Below w.heap.size w w' := by
  obtain ⟨b1, b2, b3, b4⟩ := hb
  have HA := Lib.hid (((Below.refl w.heap.size w).alloc (Nat.le_refl _) (.cells #[.int .i64 H, .int .i64 V, .int .i64 M, .int .i64 D] 46)).alloc (by simp) (.cells #[.int .i64 a, .int .i64 b, .int .i64 c, .int .i64 d] 117))
  go_enter Try.func89, Try.ntmps89
  go_wp2_with fail
  all_goals (try go_quiet (fail))
  go_wp2
  go_ret
  exact ⟨rfl, by first | exact HA.out | exact below_drewN HA.out _⟩


/-- The boxes at entry: of the thrust and of the row. -/
structure TRi (w wr : World) (a b c d H V M D : Int) : Prop where
  thr : Box4 wr w.heap.size H V M D
  row : Box4 wr (w.heap.size + 1) a b c d
  below : Below w.heap.size w wr
theorem TRi.after {w wr w1 : World} {a b c d H V M D : Int} (h : TRi w wr a b c d H V M D) (hb : Below wr.heap.size wr w1) : TRi w w1 a b c d H V M D := ⟨h.thr.after hb, h.row.after hb, h.below.trans (hb.mono h.below.size)⟩
theorem TRi.start (w : World) (a b c d H V M D : Int) (T U : TypeId) : TRi w ((w.alloc (.cells #[.int .i64 H, .int .i64 V, .int .i64 M, .int .i64 D] T)).alloc (.cells #[.int .i64 a, .int .i64 b, .int .i64 c, .int .i64 d] U)) a b c d H V M D := by
  refine ⟨(Box4.new w H V M D T).after ((Below.refl _ _).alloc (Nat.le_refl _) _), ?_, ((Below.refl _ _).alloc (Nat.le_refl _) _).alloc (by simp) _⟩
  have h := Box4.new (w.alloc (.cells #[.int .i64 H, .int .i64 V, .int .i64 M, .int .i64 D] T)) a b c d U
  rw [World.size_alloc] at h
  exact h
/-- The boxes at entry: of the thrust and of the row. -/
structure TRs (w wr : World) (a b c d H V M D : Int) : Prop where
  thr : Box4 wr w.heap.size H V M D
  row : Box4 wr (w.heap.size + 1) a b c d
  below : Below w.heap.size w wr
theorem TRs.after {w wr w1 : World} {a b c d H V M D : Int} (h : TRs w wr a b c d H V M D) (hb : Below wr.heap.size wr w1) : TRs w w1 a b c d H V M D := ⟨h.thr.after hb, h.row.after hb, h.below.trans (hb.mono h.below.size)⟩
theorem TRs.start (w : World) (a b c d H V M D : Int) (T U : TypeId) : TRs w ((w.alloc (.cells #[.int .i64 H, .int .i64 V, .int .i64 M, .int .i64 D] T)).alloc (.cells #[.int .i64 a, .int .i64 b, .int .i64 c, .int .i64 d] U)) a b c d H V M D := by
  refine ⟨(Box4.new w H V M D T).after ((Below.refl _ _).alloc (Nat.le_refl _) _), ?_, ((Below.refl _ _).alloc (Nat.le_refl _) _).alloc (by simp) _⟩
  have h := Box4.new (w.alloc (.cells #[.int .i64 H, .int .i64 V, .int .i64 M, .int .i64 D] T)) a b c d U
  rw [World.size_alloc] at h
  exact h
end Go.Proofs.Ytdjhiegolojoaaa
end

section
/-
  Contracts: the reference's determinants of three conditions, and the thrust at which they are just met.
-/
namespace Go.Proofs.Ytdjhiegolojoaaa
open Go.RowKit
set_option linter.unusedSimpArgs false
set_option linter.unusedVariables false

set_option maxRecDepth 100000 in
set_option maxHeartbeats 1600000 in
theorem l11Det_any (a0 a1 a2 b0 b1 b2 c0 c1 c2 : Int) (w : World) (hb : DetBd a0 a1 a2 b0 b1 b2 c0 c1 c2) :
    Calls Try.prog 102 #[.agg #[.int .i64 a0, .int .i64 a1, .int .i64 a2], .agg #[.int .i64 b0, .int .i64 b1, .int .i64 b2], .agg #[.int .i64 c0, .int .i64 c1, .int .i64 c2]] w fun e w' => e = .returned (.int .i64 (det9 a0 a1 a2 b0 b1 b2 c0 c1 c2)) ∧ Below w.heap.size w w' := by
  obtain ⟨w1, w2, w3, w4, w5, w6, s1, s2, s3, m1, m2, m3, t1, t2⟩ := hb.wraps
  have HA := Lib.hid ((((Below.refl w.heap.size w).alloc (Nat.le_refl _) (.cells #[.int .i64 a0, .int .i64 a1, .int .i64 a2] 159)).alloc (by simp) (.cells #[.int .i64 b0, .int .i64 b1, .int .i64 b2] 159)).alloc (by simp; omega) (.cells #[.int .i64 c0, .int .i64 c1, .int .i64 c2] 159))
  go_enter Try.func102, Try.ntmps102
  go_wp2
  go_ret
  exact ⟨rfl, HA.out⟩

set_option maxRecDepth 100000 in
set_option maxHeartbeats 1600000 in
theorem l11Line_any (a b c d : Int) (w : World) :
    Calls Try.prog 113 #[.agg #[.int .i64 a, .int .i64 b, .int .i64 c, .int .i64 d]] w fun e w' => e = .returned (.agg #[.int .i64 a, .int .i64 b, .int .i64 c]) ∧ Below w.heap.size w w' := by
  have HA := Lib.hid (((Below.refl w.heap.size w).alloc (Nat.le_refl _) (.cells #[.int .i64 a, .int .i64 b, .int .i64 c, .int .i64 d] 117)).alloc (by simp) (.cells #[.int .i64 a, .int .i64 b, .int .i64 c] 159))
  go_enter Try.func113, Try.ntmps113
  go_wp2
  refine bodyPost_ret (v := .agg #[.int .i64 a, .int .i64 b, .int .i64 c]) (by simp [results, Try.results113, go_sem, *]) rfl ?_
  exact ⟨rfl, HA.out⟩

/-- The boxes at entry: of three conditions. -/
structure R3 (w wr : World) (pa pb pc pd qa qb qc qd ra rb rc rd : Int) : Prop where
  p : Box4 wr w.heap.size pa pb pc pd
  q : Box4 wr (w.heap.size + 1) qa qb qc qd
  r : Box4 wr (w.heap.size + 1 + 1) ra rb rc rd
  below : Below w.heap.size w wr
theorem R3.after {w wr w1 : World} {pa pb pc pd qa qb qc qd ra rb rc rd : Int} (h : R3 w wr pa pb pc pd qa qb qc qd ra rb rc rd) (hb : Below wr.heap.size wr w1) : R3 w w1 pa pb pc pd qa qb qc qd ra rb rc rd := ⟨h.p.after hb, h.q.after hb, h.r.after hb, h.below.trans (hb.mono h.below.size)⟩
theorem R3.start (w : World) (pa pb pc pd qa qb qc qd ra rb rc rd : Int) (T : TypeId) : R3 w (((w.alloc (.cells #[.int .i64 pa, .int .i64 pb, .int .i64 pc, .int .i64 pd] T)).alloc (.cells #[.int .i64 qa, .int .i64 qb, .int .i64 qc, .int .i64 qd] T)).alloc (.cells #[.int .i64 ra, .int .i64 rb, .int .i64 rc, .int .i64 rd] T)) pa pb pc pd qa qb qc qd ra rb rc rd := by
  have h2 := Box4.new (w.alloc (.cells #[.int .i64 pa, .int .i64 pb, .int .i64 pc, .int .i64 pd] T)) qa qb qc qd T
  have h3 := Box4.new ((w.alloc (.cells #[.int .i64 pa, .int .i64 pb, .int .i64 pc, .int .i64 pd] T)).alloc (.cells #[.int .i64 qa, .int .i64 qb, .int .i64 qc, .int .i64 qd] T)) ra rb rc rd T
  simp only [World.size_alloc] at h2 h3
  exact ⟨((Box4.new w pa pb pc pd T).after ((Below.refl _ _).alloc (Nat.le_refl _) _)).after ((Below.refl _ _).alloc (Nat.le_refl _) _), h2.after ((Below.refl _ _).alloc (Nat.le_refl _) _), h3, (((Below.refl _ _).alloc (Nat.le_refl _) _).alloc (by simp) _).alloc (by simp; omega) _⟩

def solOk (pa pb pc pd qa qb qc qd ra rb rc rd : Int) : Bool := rowB pa pb pc pd && (rowB qa qb qc qd && rowB ra rb rc rd)
theorem solD_f {pa pb pc pd qa qb qc qd ra rb rc rd : Int} (h : solOk pa pb pc pd qa qb qc qd ra rb rc rd = false) : solD pa pb pc pd qa qb qc qd ra rb rc rd = 0 := by
  unfold solOk at h; simp [solD, h]
theorem solD_t {pa pb pc pd qa qb qc qd ra rb rc rd : Int} (h : solOk pa pb pc pd qa qb qc qd ra rb rc rd = true) : solD pa pb pc pd qa qb qc qd ra rb rc rd = det9 pa pb pc qa qb qc ra rb rc := by
  unfold solOk at h; simp [solD, h]

set_option maxRecDepth 100000 in
set_option maxHeartbeats 3200000 in
theorem sDetOf_any (pa pb pc pd qa qb qc qd ra rb rc rd : Int) (w : World) :
    Calls Try.prog 101 #[.agg #[.int .i64 pa, .int .i64 pb, .int .i64 pc, .int .i64 pd], .agg #[.int .i64 qa, .int .i64 qb, .int .i64 qc, .int .i64 qd], .agg #[.int .i64 ra, .int .i64 rb, .int .i64 rc, .int .i64 rd]] w fun e w' => e = .returned (.int .i64 (solD pa pb pc pd qa qb qc qd ra rb rc rd)) ∧ Below w.heap.size w w' := by
  have HR := Lib.hid (R3.start w pa pb pc pd qa qb qc qd ra rb rc rd 117)
  cases h1 : rowB pa pb pc pd
  · have HF := Lib.hid (solD_f (by simp [solOk, h1] : solOk pa pb pc pd qa qb qc qd ra rb rc rd = false))
    go_enter Try.func101, Try.ntmps101
    go_wp2_with fail
    refine (sRowOk_any _ _ _ _ _).mono ?_
    rw [h1]
    rintro e w1 ⟨rfl, hb1⟩
    have HR1 := Lib.hid (HR.out.after hb1)
    clear hb1
    go_wp2
    go_ret
    exact ⟨ret_int HF.out.symm, HR1.out.below⟩
  cases h2 : rowB qa qb qc qd
  · have HF := Lib.hid (solD_f (by simp [solOk, h1, h2] : solOk pa pb pc pd qa qb qc qd ra rb rc rd = false))
    go_enter Try.func101, Try.ntmps101
    go_wp2_with fail
    refine (sRowOk_any _ _ _ _ _).mono ?_
    rw [h1]
    rintro e w1 ⟨rfl, hb1⟩
    have HR1 := Lib.hid (HR.out.after hb1)
    obtain ⟨c0, c1, c2, c3⟩ := HR1.out.q.1
    clear hb1
    go_wp2_with fail
    refine (sRowOk_any _ _ _ _ _).mono ?_
    rw [h2]
    rintro e w2 ⟨rfl, hb2⟩
    have HR2 := Lib.hid (HR1.out.after hb2)
    clear hb2
    go_wp2
    go_ret
    exact ⟨ret_int HF.out.symm, HR2.out.below⟩
  go_enter Try.func101, Try.ntmps101
  go_wp2_with fail
  refine (sRowOk_any _ _ _ _ _).mono ?_
  rw [h1]
  rintro e w1 ⟨rfl, hb1⟩
  have HR1 := Lib.hid (HR.out.after hb1)
  obtain ⟨c0, c1, c2, c3⟩ := HR1.out.q.1
  clear hb1
  go_wp2_with fail
  refine (sRowOk_any _ _ _ _ _).mono ?_
  rw [h2]
  rintro e w2 ⟨rfl, hb2⟩
  have HR2 := Lib.hid (HR1.out.after hb2)
  clear hb2 c0 c1 c2 c3
  obtain ⟨c0, c1, c2, c3⟩ := HR2.out.r.1
  go_wp2_with fail
  refine (sRowOk_any _ _ _ _ _).mono ?_
  cases h3 : rowB ra rb rc rd
  · have HF := Lib.hid (solD_f (by simp [solOk, h1, h2, h3] : solOk pa pb pc pd qa qb qc qd ra rb rc rd = false))
    rintro e w3 ⟨rfl, hb3⟩
    have HR3 := Lib.hid (HR2.out.after hb3)
    clear hb3
    go_wp2
    go_ret
    exact ⟨ret_int HF.out.symm, HR3.out.below⟩
  · have HF := Lib.hid (solD_t (by simp [solOk, h1, h2, h3] : solOk pa pb pc pd qa qb qc qd ra rb rc rd = true))
    have HD := Lib.hid (rows_det h1 h2 h3).1
    rintro e w3 ⟨rfl, hb3⟩
    have HR3 := Lib.hid (HR2.out.after hb3)
    clear hb3 c0 c1 c2 c3
    obtain ⟨p0, p1, p2, p3⟩ := HR3.out.p.1
    obtain ⟨q0, q1, q2, q3⟩ := HR3.out.q.1
    obtain ⟨r0, r1, r2, r3⟩ := HR3.out.r.1
    have hwl := HR3.out.below.size
    have hpl := HR3.out.p.2
    have hql := HR3.out.q.2
    have hrl := HR3.out.r.2
    go_wp2
    refine wp_region_held_drew (S := fun w' => (w'.cell? ⟨w.heap.size, 0, none⟩ = some (.int .i64 pa) ∧ w'.cell? ⟨w.heap.size, 1, none⟩ = some (.int .i64 pb) ∧ w'.cell? ⟨w.heap.size, 2, none⟩ = some (.int .i64 pc) ∧ w'.cell? ⟨w.heap.size, 3, none⟩ = some (.int .i64 pd)) ∧ (w'.cell? ⟨w.heap.size + 1, 0, none⟩ = some (.int .i64 qa) ∧ w'.cell? ⟨w.heap.size + 1, 1, none⟩ = some (.int .i64 qb) ∧ w'.cell? ⟨w.heap.size + 1, 2, none⟩ = some (.int .i64 qc) ∧ w'.cell? ⟨w.heap.size + 1, 3, none⟩ = some (.int .i64 qd)) ∧ (w'.cell? ⟨w.heap.size + 1 + 1, 0, none⟩ = some (.int .i64 ra) ∧ w'.cell? ⟨w.heap.size + 1 + 1, 1, none⟩ = some (.int .i64 rb) ∧ w'.cell? ⟨w.heap.size + 1 + 1, 2, none⟩ = some (.int .i64 rc) ∧ w'.cell? ⟨w.heap.size + 1 + 1, 3, none⟩ = some (.int .i64 rd))) (by kernel_rfl) (by exact ⟨⟨p0, p1, p2, p3⟩, ⟨q0, q1, q2, q3⟩, ⟨r0, r1, r2, r3⟩⟩) (fun hHeld => ?_)
    refine take_heldS (i := 0) (d := 20) rfl rfl (by kernel_rfl) (by kernel_rfl) (by kernel_rfl) (fun _ _ _ h => h) (by kernel_rfl) (fun w hSw => by (try dsimp only at hSw); go_simp; try rfl) (by assumption) ?_
    try simp only [Act.put, List.setIfInBounds_toArray, List.set_cons_zero, List.set_cons_succ]
    refine take_heldS (i := 2) (d := 22) rfl rfl (by kernel_rfl) (by kernel_rfl) (by kernel_rfl) (fun _ _ _ h => h) (by kernel_rfl) (fun w hSw => by (try dsimp only at hSw); go_simp; try rfl) (by assumption) ?_
    try simp only [Act.put, List.setIfInBounds_toArray, List.set_cons_zero, List.set_cons_succ]
    refine take_heldS (i := 4) (d := 24) rfl rfl (by kernel_rfl) (by kernel_rfl) (by kernel_rfl) (fun _ _ _ h => h) (by kernel_rfl) (fun w hSw => by (try dsimp only at hSw); go_simp; try rfl) (by assumption) ?_
    try simp only [Act.put, List.setIfInBounds_toArray, List.set_cons_zero, List.set_cons_succ]
    refine wpAnyH_ready (rs := [1]) (by kernel_rfl) (by simp) ?_
    refine AllReadyH.cons rfl (fun K hK => ?_) AllReadyH.nil
    go_simp
    (with_reducible refine (l11Line_any _ _ _ _ _).mono ?_); rintro e v1 ⟨rfl, hb1⟩; have H1b := Lib.hid (below_then (below_dr (Below.refl w3.heap.size w3)) hb1)
    refine hK.out _ _ (by exact ⟨⟨(H1b.out.cell (by exact hpl)).trans p0, (H1b.out.cell (by exact hpl)).trans p1, (H1b.out.cell (by exact hpl)).trans p2, (H1b.out.cell (by exact hpl)).trans p3⟩, ⟨(H1b.out.cell (by exact hql)).trans q0, (H1b.out.cell (by exact hql)).trans q1, (H1b.out.cell (by exact hql)).trans q2, (H1b.out.cell (by exact hql)).trans q3⟩, ⟨(H1b.out.cell (by exact hrl)).trans r0, (H1b.out.cell (by exact hrl)).trans r1, (H1b.out.cell (by exact hrl)).trans r2, (H1b.out.cell (by exact hrl)).trans r3⟩⟩) (fun hHeld => ?_)
    clear hK K
    try simp only [Act.put, List.setIfInBounds_toArray, List.set_cons_zero, List.set_cons_succ]
    refine wpAnyH_ready (rs := [3]) (by kernel_rfl) (by simp) ?_
    refine AllReadyH.cons rfl (fun K hK => ?_) AllReadyH.nil
    go_simp
    (with_reducible refine (l11Line_any _ _ _ _ _).mono ?_); rintro e v3 ⟨rfl, hb3⟩; have H3b := Lib.hid (below_then H1b.out hb3)
    refine hK.out _ _ (by exact ⟨⟨(H3b.out.cell (by exact hpl)).trans p0, (H3b.out.cell (by exact hpl)).trans p1, (H3b.out.cell (by exact hpl)).trans p2, (H3b.out.cell (by exact hpl)).trans p3⟩, ⟨(H3b.out.cell (by exact hql)).trans q0, (H3b.out.cell (by exact hql)).trans q1, (H3b.out.cell (by exact hql)).trans q2, (H3b.out.cell (by exact hql)).trans q3⟩, ⟨(H3b.out.cell (by exact hrl)).trans r0, (H3b.out.cell (by exact hrl)).trans r1, (H3b.out.cell (by exact hrl)).trans r2, (H3b.out.cell (by exact hrl)).trans r3⟩⟩) (fun hHeld => ?_)
    clear hK K
    try simp only [Act.put, List.setIfInBounds_toArray, List.set_cons_zero, List.set_cons_succ]
    refine wpAnyH_ready (rs := [5]) (by kernel_rfl) (by simp) ?_
    refine AllReadyH.cons rfl (fun K hK => ?_) AllReadyH.nil
    go_simp
    (with_reducible refine (l11Line_any _ _ _ _ _).mono ?_); rintro e v5 ⟨rfl, hb5⟩; have H5b := Lib.hid (below_then H3b.out hb5)
    refine hK.out _ _ (by exact ⟨⟨(H5b.out.cell (by exact hpl)).trans p0, (H5b.out.cell (by exact hpl)).trans p1, (H5b.out.cell (by exact hpl)).trans p2, (H5b.out.cell (by exact hpl)).trans p3⟩, ⟨(H5b.out.cell (by exact hql)).trans q0, (H5b.out.cell (by exact hql)).trans q1, (H5b.out.cell (by exact hql)).trans q2, (H5b.out.cell (by exact hql)).trans q3⟩, ⟨(H5b.out.cell (by exact hrl)).trans r0, (H5b.out.cell (by exact hrl)).trans r1, (H5b.out.cell (by exact hrl)).trans r2, (H5b.out.cell (by exact hrl)).trans r3⟩⟩) (fun hHeld => ?_)
    clear hK K
    try simp only [Act.put, List.setIfInBounds_toArray, List.set_cons_zero, List.set_cons_succ]
    refine wpAnyH_ready (rs := [6]) (by kernel_rfl) (by simp) ?_
    refine AllReadyH.cons rfl (fun K hK => ?_) AllReadyH.nil
    go_simp
    (with_reducible refine (l11Det_any _ _ _ _ _ _ _ _ _ _ HD.out).mono ?_); rintro e v6 ⟨rfl, hb6⟩; have H6b := Lib.hid (below_then H5b.out hb6)
    refine hK.out _ _ (by exact ⟨⟨(H6b.out.cell (by exact hpl)).trans p0, (H6b.out.cell (by exact hpl)).trans p1, (H6b.out.cell (by exact hpl)).trans p2, (H6b.out.cell (by exact hpl)).trans p3⟩, ⟨(H6b.out.cell (by exact hql)).trans q0, (H6b.out.cell (by exact hql)).trans q1, (H6b.out.cell (by exact hql)).trans q2, (H6b.out.cell (by exact hql)).trans q3⟩, ⟨(H6b.out.cell (by exact hrl)).trans r0, (H6b.out.cell (by exact hrl)).trans r1, (H6b.out.cell (by exact hrl)).trans r2, (H6b.out.cell (by exact hrl)).trans r3⟩⟩) (fun hHeld => ?_)
    clear hK K
    try simp only [Act.put, List.setIfInBounds_toArray, List.set_cons_zero, List.set_cons_succ]
    refine take_heldS (i := 7) (d := 6) rfl rfl (by kernel_rfl) (by kernel_rfl) (by kernel_rfl) (fun _ _ _ h => h) (by kernel_rfl) (fun w hSw => by (try dsimp only at hSw); go_simp; try rfl) (by assumption) ?_
    try simp only [Act.put, List.setIfInBounds_toArray, List.set_cons_zero, List.set_cons_succ]
    refine wpAnyH_done (by kernel_rfl) ?_ _
    have HB9 := Lib.hid (below_then HR3.out.below H6b.out)
    go_wp2
    go_ret
    exact ⟨ret_int HF.out.symm, HB9.out⟩

/-- The thrust at which three conditions are just met, and whether there is one. -/
def solB (pa pb pc pd qa qb qc qd ra rb rc rd : Int) : Bool := mkB (det9 pd pb pc qd qb qc rd rb rc) (det9 pa pd pc qa qd qc ra rd rc) (det9 pa pb pd qa qb qd ra rb rd) (solD pa pb pc pd qa qb qc qd ra rb rc rd)
def solI (pa pb pc pd qa qb qc qd ra rb rc rd x : Int) : Int := mkI (det9 pd pb pc qd qb qc rd rb rc) (det9 pa pd pc qa qd qc ra rd rc) (det9 pa pb pd qa qb qd ra rb rd) (solD pa pb pc pd qa qb qc qd ra rb rc rd) x
def solV (pa pb pc pd qa qb qc qd ra rb rc rd : Int) : Value := mkV (det9 pd pb pc qd qb qc rd rb rc) (det9 pa pd pc qa qd qc ra rd rc) (det9 pa pb pd qa qb qd ra rb rd) (solD pa pb pc pd qa qb qc qd ra rb rc rd)
theorem solV_0 {pa pb pc pd qa qb qc qd ra rb rc rd : Int} (h : solD pa pb pc pd qa qb qc qd ra rb rc rd = 0) : solV pa pb pc pd qa qb qc qd ra rb rc rd = thrV 0 0 0 0 false := mkV_f (mkB_0 _ _ _ h)
theorem solD_ne {pa pb pc pd qa qb qc qd ra rb rc rd : Int} (h : ¬ solD pa pb pc pd qa qb qc qd ra rb rc rd = 0) : rowB pa pb pc pd = true ∧ rowB qa qb qc qd = true ∧ rowB ra rb rc rd = true := by
  cases e : solOk pa pb pc pd qa qb qc qd ra rb rc rd
  · exact absurd (solD_f e) h
  · simp only [solOk, Bool.and_eq_true] at e
    exact ⟨e.1, e.2.1, e.2.2⟩

set_option maxRecDepth 100000 in
set_option maxHeartbeats 3200000 in
theorem sSolve_any (pa pb pc pd qa qb qc qd ra rb rc rd : Int) (w : World) :
    Calls Try.prog 87 #[.agg #[.int .i64 pa, .int .i64 pb, .int .i64 pc, .int .i64 pd], .agg #[.int .i64 qa, .int .i64 qb, .int .i64 qc, .int .i64 qd], .agg #[.int .i64 ra, .int .i64 rb, .int .i64 rc, .int .i64 rd]] w fun e w' => e = .returned (solV pa pb pc pd qa qb qc qd ra rb rc rd) ∧ Below w.heap.size w w' := by
  have HR := Lib.hid (R3.start w pa pb pc pd qa qb qc qd ra rb rc rd 117)
  have HV : Hid (RowF ((((w.alloc (.cells #[.int .i64 pa, .int .i64 pb, .int .i64 pc, .int .i64 pd] 117)).alloc (.cells #[.int .i64 qa, .int .i64 qb, .int .i64 qc, .int .i64 qd] 117)).alloc (.cells #[.int .i64 ra, .int .i64 rb, .int .i64 rc, .int .i64 rd] 117)).alloc (.cells #[.int .i64 0, .int .i64 0, .int .i64 0, .int .i64 0] 46)) (w.heap.size + 1 + 1 + 1) 46 4 (fun _ => .int .i64 0)) := by
    have h := World.rowIs_alloc (((w.alloc (.cells #[.int .i64 pa, .int .i64 pb, .int .i64 pc, .int .i64 pd] 117)).alloc (.cells #[.int .i64 qa, .int .i64 qb, .int .i64 qc, .int .i64 qd] 117)).alloc (.cells #[.int .i64 ra, .int .i64 rb, .int .i64 rc, .int .i64 rd] 117)) #[.int .i64 0, .int .i64 0, .int .i64 0, .int .i64 0] 46 (fun _ => .int .i64 0) (fun i hi => by simp at hi; match i, hi with | 0, _ => rfl | 1, _ => rfl | 2, _ => rfl | 3, _ => rfl)
    simp only [World.size_alloc] at h
    exact Lib.hid (RowF.of_row h)
  have HR0 := Lib.hid (HR.out.after ((Below.refl _ _).alloc (Nat.le_refl _) (.cells #[.int .i64 0, .int .i64 0, .int .i64 0, .int .i64 0] 46)))
  clear HR
  go_enter Try.func87, Try.ntmps87
  go_wp2_with fail
  refine (sDetOf_any _ _ _ _ _ _ _ _ _ _ _ _ _).mono ?_
  rintro e w1 ⟨rfl, hb1⟩
  have HR1 := Lib.hid (HR0.out.after hb1)
  have HV1 := Lib.hid (HV.out.after hb1)
  clear HR0 HV hb1
  by_cases h0 : solD pa pb pc pd qa qb qc qd ra rb rc rd = 0
  · have HF := Lib.hid (solV_0 h0)
    rw [h0]
    have y0 : w1.cell? ⟨w.heap.size + 1 + 1 + 1, 0, none⟩ = some (.int .i64 0) := HV1.out.cell (i := 0) (by omega)
    have y1 : w1.cell? ⟨w.heap.size + 1 + 1 + 1, 1, none⟩ = some (.int .i64 0) := HV1.out.cell (i := 1) (by omega)
    have y2 : w1.cell? ⟨w.heap.size + 1 + 1 + 1, 2, none⟩ = some (.int .i64 0) := HV1.out.cell (i := 2) (by omega)
    have y3 : w1.cell? ⟨w.heap.size + 1 + 1 + 1, 3, none⟩ = some (.int .i64 0) := HV1.out.cell (i := 3) (by omega)
    have f0 := HV1.out.frozen 0
    have f1 := HV1.out.frozen 1
    have f2 := HV1.out.frozen 2
    have f3 := HV1.out.frozen 3
    have hs := RowF.lt HV1.out
    go_wp2
    refine bodyPost_ret (v := thrV 0 0 0 0 false) (by simp [thrV, results, Try.results87, go_sem, *]) rfl ?_
    exact ⟨by rw [HF.out], below_set4 HR1.out.below (by omega) _ _ _ _⟩
  · obtain ⟨g1, g2, g3⟩ := solD_ne h0
    have HD := Lib.hid (rows_det g1 g2 g3).2
    have HVV : Hid (solV pa pb pc pd qa qb qc qd ra rb rc rd = mkV (det9 pd pb pc qd qb qc rd rb rc) (det9 pa pd pc qa qd qc ra rd rc) (det9 pa pb pd qa qb qd ra rb rd) (solD pa pb pc pd qa qb qc qd ra rb rc rd)) := rfl
    obtain ⟨D, hD⟩ : ∃ D, solD pa pb pc pd qa qb qc qd ra rb rc rd = D := ⟨_, rfl⟩
    rw [hD] at h0 HVV ⊢
    have hd0 : (D == 0) = false := by simp [h0]
    clear g1 g2 g3 hD
    obtain ⟨p0, p1, p2, p3⟩ := HR1.out.p.1
    obtain ⟨q0, q1, q2, q3⟩ := HR1.out.q.1
    obtain ⟨r0, r1, r2, r3⟩ := HR1.out.r.1
    go_wp2_with fail
    refine (l11Det_any _ _ _ _ _ _ _ _ _ _ HD.out.1).mono ?_
    rintro e w2 ⟨rfl, hb2⟩
    have HR2 := Lib.hid (HR1.out.after hb2)
    have HV2 := Lib.hid (HV1.out.after hb2)
    clear HR1 HV1 hb2 p0 p1 p2 p3 q0 q1 q2 q3 r0 r1 r2 r3
    obtain ⟨p0, p1, p2, p3⟩ := HR2.out.p.1
    obtain ⟨q0, q1, q2, q3⟩ := HR2.out.q.1
    obtain ⟨r0, r1, r2, r3⟩ := HR2.out.r.1
    go_wp2_with fail
    refine (l11Det_any _ _ _ _ _ _ _ _ _ _ HD.out.2.1).mono ?_
    rintro e w3 ⟨rfl, hb3⟩
    have HR3 := Lib.hid (HR2.out.after hb3)
    have HV3 := Lib.hid (HV2.out.after hb3)
    clear HR2 HV2 hb3 p0 p1 p2 p3 q0 q1 q2 q3 r0 r1 r2 r3
    obtain ⟨p0, p1, p2, p3⟩ := HR3.out.p.1
    obtain ⟨q0, q1, q2, q3⟩ := HR3.out.q.1
    obtain ⟨r0, r1, r2, r3⟩ := HR3.out.r.1
    go_wp2_with fail
    refine (l11Det_any _ _ _ _ _ _ _ _ _ _ HD.out.2.2).mono ?_
    rintro e w4 ⟨rfl, hb4⟩
    have HR4 := Lib.hid (HR3.out.after hb4)
    have HV4 := Lib.hid (HV3.out.after hb4)
    clear HR3 HV3 hb4 p0 p1 p2 p3 q0 q1 q2 q3 r0 r1 r2 r3
    go_wp2_with fail
    refine (sMake_any _ _ _ _ _).mono ?_
    rintro e w5 ⟨rfl, hb5⟩
    have HB5 := Lib.hid (HR4.out.below.trans (hb5.mono HR4.out.below.size))
    have HV5 := Lib.hid (HV4.out.after hb5)
    clear HR4 HV4 hb5
    have HW : Hid (mkV (det9 pd pb pc qd qb qc rd rb rc) (det9 pa pd pc qa qd qc ra rd rc) (det9 pa pb pd qa qb qd ra rb rd) D = thrV (mkI (det9 pd pb pc qd qb qc rd rb rc) (det9 pa pd pc qa qd qc ra rd rc) (det9 pa pb pd qa qb qd ra rb rd) D (det9 pd pb pc qd qb qc rd rb rc)) (mkI (det9 pd pb pc qd qb qc rd rb rc) (det9 pa pd pc qa qd qc ra rd rc) (det9 pa pb pd qa qb qd ra rb rd) D (det9 pa pd pc qa qd qc ra rd rc)) (mkI (det9 pd pb pc qd qb qc rd rb rc) (det9 pa pd pc qa qd qc ra rd rc) (det9 pa pb pd qa qb qd ra rb rd) D (det9 pa pb pd qa qb qd ra rb rd)) (mkI (det9 pd pb pc qd qb qc rd rb rc) (det9 pa pd pc qa qd qc ra rd rc) (det9 pa pb pd qa qb qd ra rb rd) D D) (mkB (det9 pd pb pc qd qb qc rd rb rc) (det9 pa pd pc qa qd qc ra rd rc) (det9 pa pb pd qa qb qd ra rb rd) D)) := rfl
    rw [HW.out] at HVV ⊢
    generalize mkI (det9 pd pb pc qd qb qc rd rb rc) (det9 pa pd pc qa qd qc ra rd rc) (det9 pa pb pd qa qb qd ra rb rd) D (det9 pd pb pc qd qb qc rd rb rc) = m0 at *
    generalize mkI (det9 pd pb pc qd qb qc rd rb rc) (det9 pa pd pc qa qd qc ra rd rc) (det9 pa pb pd qa qb qd ra rb rd) D (det9 pa pd pc qa qd qc ra rd rc) = m1 at *
    generalize mkI (det9 pd pb pc qd qb qc rd rb rc) (det9 pa pd pc qa qd qc ra rd rc) (det9 pa pb pd qa qb qd ra rb rd) D (det9 pa pb pd qa qb qd ra rb rd) = m2 at *
    generalize mkI (det9 pd pb pc qd qb qc rd rb rc) (det9 pa pd pc qa qd qc ra rd rc) (det9 pa pb pd qa qb qd ra rb rd) D D = m3 at *
    generalize mkB (det9 pd pb pc qd qb qc rd rb rc) (det9 pa pd pc qa qd qc ra rd rc) (det9 pa pb pd qa qb qd ra rb rd) D = mb at *
    clear HW HD
    have y0 : w5.cell? ⟨w.heap.size + 1 + 1 + 1, 0, none⟩ = some (.int .i64 0) := HV5.out.cell (i := 0) (by omega)
    have y1 : w5.cell? ⟨w.heap.size + 1 + 1 + 1, 1, none⟩ = some (.int .i64 0) := HV5.out.cell (i := 1) (by omega)
    have y2 : w5.cell? ⟨w.heap.size + 1 + 1 + 1, 2, none⟩ = some (.int .i64 0) := HV5.out.cell (i := 2) (by omega)
    have y3 : w5.cell? ⟨w.heap.size + 1 + 1 + 1, 3, none⟩ = some (.int .i64 0) := HV5.out.cell (i := 3) (by omega)
    have f0 := HV5.out.frozen 0
    have f1 := HV5.out.frozen 1
    have f2 := HV5.out.frozen 2
    have f3 := HV5.out.frozen 3
    have hs := RowF.lt HV5.out
    simp only [thrV]
    go_wp2
    refine bodyPost_ret (v := thrV m0 m1 m2 m3 mb) (by simp [thrV, results, Try.results87, go_sem, *]) rfl ?_
    exact ⟨by rw [HVV.out], below_set4 HB5.out (by omega) _ _ _ _⟩
end Go.Proofs.Ytdjhiegolojoaaa
end

section
/-
  Plain facts: the thrusts at which three of the conditions are just met and all are fulfilled, as the reference reckons them. No Go function is spoken of here.
-/
namespace Go.Proofs.Ytdjhiegolojoaaa
open Go.RowKit

/-! ### A thrust in a list -/
def hasAt (xs : List Int) (H V M D : Int) (k : Nat) : Bool := decide (nth xs (k * 4) = H) && (decide (nth xs (k * 4 + 1) = V) && (decide (nth xs (k * 4 + 2) = M) && decide (nth xs (k * 4 + 3) = D)))
def hasTo (xs : List Int) (H V M D : Int) : Nat → Bool
  | 0 => false
  | k + 1 => hasTo xs H V M D k || hasAt xs H V M D k
theorem hasTo_mem {xs : List Int} {H V M D : Int} {k : Nat} (h : hasAt xs H V M D k = true) : ∀ {n : Nat}, k < n → hasTo xs H V M D n = true
  | n + 1, hk => by
    by_cases e : k = n
    · subst e; simp [hasTo, h]
    · simp [hasTo, hasTo_mem h (n := n) (by omega)]
theorem hasTo_step {xs : List Int} {H V M D : Int} {k : Nat} (h0 : hasTo xs H V M D k = false) (h : hasAt xs H V M D k = false) : hasTo xs H V M D (k + 1) = false := by simp [hasTo, h0, h]

/-! ### The corners -/
section
variable (rs : List Int) (n : Nat)
def crB (i k m : Nat) : Bool := solB (nth rs (i * 4)) (nth rs (i * 4 + 1)) (nth rs (i * 4 + 2)) (nth rs (i * 4 + 3)) (nth rs (k * 4)) (nth rs (k * 4 + 1)) (nth rs (k * 4 + 2)) (nth rs (k * 4 + 3)) (nth rs (m * 4)) (nth rs (m * 4 + 1)) (nth rs (m * 4 + 2)) (nth rs (m * 4 + 3))
def crI (i k m : Nat) (x : Int) : Int := solI (nth rs (i * 4)) (nth rs (i * 4 + 1)) (nth rs (i * 4 + 2)) (nth rs (i * 4 + 3)) (nth rs (k * 4)) (nth rs (k * 4 + 1)) (nth rs (k * 4 + 2)) (nth rs (k * 4 + 3)) (nth rs (m * 4)) (nth rs (m * 4 + 1)) (nth rs (m * 4 + 2)) (nth rs (m * 4 + 3)) x
def crH (i k m : Nat) : Int := crI rs i k m (det9 (nth rs (i * 4 + 3)) (nth rs (i * 4 + 1)) (nth rs (i * 4 + 2)) (nth rs (k * 4 + 3)) (nth rs (k * 4 + 1)) (nth rs (k * 4 + 2)) (nth rs (m * 4 + 3)) (nth rs (m * 4 + 1)) (nth rs (m * 4 + 2)))
def crV (i k m : Nat) : Int := crI rs i k m (det9 (nth rs (i * 4)) (nth rs (i * 4 + 3)) (nth rs (i * 4 + 2)) (nth rs (k * 4)) (nth rs (k * 4 + 3)) (nth rs (k * 4 + 2)) (nth rs (m * 4)) (nth rs (m * 4 + 3)) (nth rs (m * 4 + 2)))
def crM (i k m : Nat) : Int := crI rs i k m (det9 (nth rs (i * 4)) (nth rs (i * 4 + 1)) (nth rs (i * 4 + 3)) (nth rs (k * 4)) (nth rs (k * 4 + 1)) (nth rs (k * 4 + 3)) (nth rs (m * 4)) (nth rs (m * 4 + 1)) (nth rs (m * 4 + 3)))
def crD (i k m : Nat) : Int := crI rs i k m (solD (nth rs (i * 4)) (nth rs (i * 4 + 1)) (nth rs (i * 4 + 2)) (nth rs (i * 4 + 3)) (nth rs (k * 4)) (nth rs (k * 4 + 1)) (nth rs (k * 4 + 2)) (nth rs (k * 4 + 3)) (nth rs (m * 4)) (nth rs (m * 4 + 1)) (nth rs (m * 4 + 2)) (nth rs (m * 4 + 3)))
theorem crV_eq (i k m : Nat) : solV (nth rs (i * 4)) (nth rs (i * 4 + 1)) (nth rs (i * 4 + 2)) (nth rs (i * 4 + 3)) (nth rs (k * 4)) (nth rs (k * 4 + 1)) (nth rs (k * 4 + 2)) (nth rs (k * 4 + 3)) (nth rs (m * 4)) (nth rs (m * 4 + 1)) (nth rs (m * 4 + 2)) (nth rs (m * 4 + 3)) = thrV (crH rs i k m) (crV rs i k m) (crM rs i k m) (crD rs i k m) (crB rs i k m) := rfl
theorem cr_thr {i k m : Nat} (h : crB rs i k m = true) : thrB (crH rs i k m) (crV rs i k m) (crM rs i k m) (crD rs i k m) = true := mkI_thr h
def metAt (H V M D : Int) (x : Nat) : Bool := metB (nth rs (x * 4)) (nth rs (x * 4 + 1)) (nth rs (x * 4 + 2)) (nth rs (x * 4 + 3)) H V M D
def crAll (i k m : Nat) : Bool := allB (metAt rs (crH rs i k m) (crV rs i k m) (crM rs i k m) (crD rs i k m)) n
def crHas (acc : List Int) (i k m : Nat) : Bool := hasTo acc (crH rs i k m) (crV rs i k m) (crM rs i k m) (crD rs i k m) (acc.length / 4)
def crStep (i k m : Nat) (acc : List Int) : List Int := if (crB rs i k m && (!crHas rs acc i k m && crAll rs n i k m)) = true then acc ++ [crH rs i k m, crV rs i k m, crM rs i k m, crD rs i k m] else acc
def foldN (f : Nat → List Int → List Int) : Nat → List Int → List Int
  | 0, a => a
  | j + 1, a => f j (foldN f j a)
def corM (i k : Nat) (acc : List Int) (t : Nat) : List Int := foldN (fun j a => crStep rs n i k (k + 1 + j) a) t acc
def corK (i : Nat) (acc : List Int) (t : Nat) : List Int := foldN (fun j a => corM rs n i (i + 1 + j) a (n - (i + 1 + j + 1))) t acc
def corI (t : Nat) : List Int := foldN (fun i a => corK rs n i a (n - (i + 1))) t []
def cornB : Bool := allB (rowAt rs) n && inB (n : Int) 3 20
def cornL : List Int := if cornB rs n = true then corI rs n n else []
end
variable {rs : List Int} {n : Nat}
theorem crStep_t {i k m : Nat} {acc : List Int} (h1 : crB rs i k m = true) (h2 : crHas rs acc i k m = false) (h3 : crAll rs n i k m = true) : crStep rs n i k m acc = acc ++ [crH rs i k m, crV rs i k m, crM rs i k m, crD rs i k m] := by simp [crStep, h1, h2, h3]
theorem crStep_1 {i k m : Nat} (acc : List Int) (h : crB rs i k m = false) : crStep rs n i k m acc = acc := by simp [crStep, h]
theorem crStep_2 {i k m : Nat} {acc : List Int} (h : crHas rs acc i k m = true) : crStep rs n i k m acc = acc := by simp [crStep, h]
theorem crStep_3 {i k m : Nat} (acc : List Int) (h : crAll rs n i k m = false) : crStep rs n i k m acc = acc := by simp [crStep, h]
structure CrFacts (rs : List Int) (n i k m : Nat) (acc : List Int) (H V M D : Int) (B : Bool) : Prop where
  thr : B = true → thrB H V M D = true
  no : B = false → crStep rs n i k m acc = acc
  has : hasTo acc H V M D (acc.length / 4) = true → crStep rs n i k m acc = acc
  all0 : allB (metAt rs H V M D) n = false → crStep rs n i k m acc = acc
  yes : B = true → hasTo acc H V M D (acc.length / 4) = false → allB (metAt rs H V M D) n = true → crStep rs n i k m acc = acc ++ [H, V, M, D]
theorem crFacts (rs : List Int) (n i k m : Nat) (acc : List Int) : CrFacts rs n i k m acc (crH rs i k m) (crV rs i k m) (crM rs i k m) (crD rs i k m) (crB rs i k m) :=
  ⟨cr_thr rs, crStep_1 acc, crStep_2, crStep_3 acc, crStep_t⟩
/-- The facts of one step, with the numbers under names of their own. -/
theorem cr_names (rs : List Int) (n i k m : Nat) (acc : List Int) : ∃ (H V M D : Int) (B : Bool), CrFacts rs n i k m acc H V M D B ∧ solV (nth rs (i * 4)) (nth rs (i * 4 + 1)) (nth rs (i * 4 + 2)) (nth rs (i * 4 + 3)) (nth rs (k * 4)) (nth rs (k * 4 + 1)) (nth rs (k * 4 + 2)) (nth rs (k * 4 + 3)) (nth rs (m * 4)) (nth rs (m * 4 + 1)) (nth rs (m * 4 + 2)) (nth rs (m * 4 + 3)) = thrV H V M D B :=
  ⟨_, _, _, _, _, crFacts rs n i k m acc, crV_eq rs i k m⟩
theorem corM_0 (i k : Nat) (acc : List Int) : corM rs n i k acc 0 = acc := rfl
theorem corM_s (i k : Nat) (acc : List Int) (t : Nat) : corM rs n i k acc (t + 1) = crStep rs n i k (k + 1 + t) (corM rs n i k acc t) := rfl
theorem corK_0 (i : Nat) (acc : List Int) : corK rs n i acc 0 = acc := rfl
theorem corK_s (i : Nat) (acc : List Int) (t : Nat) : corK rs n i acc (t + 1) = corM rs n i (i + 1 + t) (corK rs n i acc t) (n - (i + 1 + t + 1)) := rfl
theorem corI_0 : corI rs n 0 = [] := rfl
theorem corI_s (t : Nat) : corI rs n (t + 1) = corK rs n t (corI rs n t) (n - (t + 1)) := rfl
theorem cornL_f (h : cornB rs n = false) : cornL rs n = [] := by simp [cornL, h]
theorem cornL_t (h : cornB rs n = true) : cornL rs n = corI rs n n := by simp [cornL, h]
theorem cornB_1 {k : Nat} (hk : k < n) (h : rowAt rs k = false) : cornB rs n = false := by simp [cornB, allB_f hk h]
theorem cornB_2 (h : inB (n : Int) 3 20 = false) : cornB rs n = false := by simp [cornB, h]
theorem cornB_t (h : allTo (rowAt rs) n) (h2 : inB (n : Int) 3 20 = true) : cornB rs n = true := by simp [cornB, allB_t h, h2]
/-- The list of corners while it grows: whole records, and not too many. -/
structure CorAcc (acc : List Int) (q b : Nat) : Prop where
  len : acc.length = q * 4
  few : q ≤ b
theorem crStep_acc {i k m : Nat} {acc : List Int} {q b : Nat} (h : CorAcc acc q b) : ∃ q', CorAcc (crStep rs n i k m acc) q' (b + 1) := by
  unfold crStep
  split
  · exact ⟨q + 1, by simp [h.len]; omega, by have := h.few; omega⟩
  · exact ⟨q, h.len, by have := h.few; omega⟩
theorem corM_acc {i k : Nat} {acc : List Int} {q b : Nat} (h : CorAcc acc q b) : ∀ t, ∃ q', CorAcc (corM rs n i k acc t) q' (b + t)
  | 0 => ⟨q, h⟩
  | t + 1 => by obtain ⟨q', h'⟩ := corM_acc h t; rw [corM_s]; exact crStep_acc h'
theorem corK_acc {i : Nat} {acc : List Int} {q b : Nat} (hn : n ≤ 20) (h : CorAcc acc q b) : ∀ t, ∃ q', CorAcc (corK rs n i acc t) q' (b + 20 * t)
  | 0 => ⟨q, h⟩
  | t + 1 => by
    obtain ⟨q', h'⟩ := corK_acc hn h t
    obtain ⟨q2, h2⟩ := corM_acc (rs := rs) (n := n) (i := i) (k := i + 1 + t) h' (n - (i + 1 + t + 1))
    rw [corK_s]
    exact ⟨q2, h2.len, by have := h2.few; omega⟩
theorem corI_acc (hn : n ≤ 20) : ∀ t, ∃ q', CorAcc (corI rs n t) q' (400 * t)
  | 0 => ⟨0, rfl, Nat.le_refl _⟩
  | t + 1 => by
    obtain ⟨q', h'⟩ := corI_acc hn t
    obtain ⟨q2, h2⟩ := corK_acc (rs := rs) (n := n) (i := t) hn h' (n - (t + 1))
    rw [corI_s]
    exact ⟨q2, h2.len, by have := h2.few; omega⟩
def cornN (rs : List Int) (n : Nat) : Nat := (cornL rs n).length / 4
theorem corn_acc (rs : List Int) (n : Nat) : CorAcc (cornL rs n) (cornN rs n) 8000 := by
  cases e : cornB rs n
  · rw [cornN, cornL_f e]; exact ⟨rfl, by simp⟩
  · have hn : n ≤ 20 := by simp only [cornB, Bool.and_eq_true, inB_iff] at e; omega
    obtain ⟨q, h⟩ := corI_acc (rs := rs) hn n
    rw [cornN, cornL_t e]
    have h1 := h.len
    exact ⟨by omega, by have := h.few; omega⟩
end Go.Proofs.Ytdjhiegolojoaaa
end

section
/-
  Words: an append of records inside a region that draws its order. No Go function is spoken of here.
-/
namespace Go.Proofs.Ytdjhiegolojoaaa
open Go.RowKit

/-- An append of records inside a region that draws its order. -/
theorem step_appR {P : Program} {ops : Array Oper} {o : Oper} {a : Act} {w : World} {K : Act → World → Prop} {Q : Exit → Act → World → Prop} {F : Prop} (hgd : o.guard = none) (s x : Operand) (t : TypeId)
    (ho : o.op = .call { callee := .builtin .append, args := #[s, x], argTypes := #[t, t] })
    (base : Nat) (E : TypeId) (Kr bytes : Nat) (zc : Array Value) (ht : P.underlying t = some (.slice E)) (hinfo : (P.info? E).map (fun i => (i.zero, i.size, i.bytes)) = some (some (.agg zc), Kr, bytes)) (hzc : zc.size = Kr) (hK : 0 < Kr) (hby : bytes ≤ 1024)
    (v : Value) (n : Nat) (xs : List Int) (hs : a.eval s = v) (hown : OwnR w base E Kr v n xs) (g m c : Nat) (ys : List Int) (hx : a.eval x = .slice (some ⟨g, 0, none⟩) m c) (hy : ys.length = m * Kr)
    (hg : ∀ i, i < m * Kr → w.cell? ⟨g, i, none⟩ = some (.int .i64 (nth ys i))) (hn : n + m ≤ 1048576) (B : Nat) (w0 : World) (hb : Below B w0 w) (hB : B ≤ base) (hbase : base ≤ w.heap.size) (xs' : List Int) (hxs : xs ++ ys = xs') (hm : 1 ≤ m)
    (h : ∀ g' cap' w', OwnR w' base E Kr (.slice (some ⟨g', 0, none⟩) (n + m) cap') (n + m) xs' → Below B w0 w' → K (a.put o.dst (.slice (some ⟨g', 0, none⟩) (n + m) cap')) w') : if Region.wanted o (yielded ops a.tmps) = true then Oper.wp P o a w K Q else F := by
  have hw : Region.wanted o (yielded ops a.tmps) = true := by simp [Region.wanted, hgd]
  rw [if_pos hw]
  subst hxs
  obtain ⟨i0, hi0, hz0, hz1, hz2⟩ := info_parts hinfo
  have hbb : (n + m) * bytes ≤ 1048576 * 1024 := Nat.mul_le_mul hn hby
  refine wp_append_own (P := P) w s x t ho base E i0 (.agg zc) Kr bytes ht hi0 hz0 hz1 hz2 (by simpa [Value.cells] using hzc) hK v n _ hs hown.1 ⟨g, 0, none⟩ m c (ys.map (Value.int .i64)) hx (by simpa using hy) ?_ ?_ (by unfold maxLen; omega) (by omega) hbase ?_
  · intro j u hj
    have hjl : j < ys.length := by
      have := (List.getElem?_eq_some_iff.1 hj).1
      simpa using this
    rw [List.getElem?_map, List.getElem?_eq_getElem hjl] at hj
    simp at hj
    subst hj
    rw [Go.WideShapes.add_plain, Nat.zero_add, hg j (by rw [← hy]; exact hjl), nth_get ys j hjl]
  · intro u hu
    obtain ⟨z, _, rfl⟩ := List.mem_map.1 hu
    rfl
  · intro v' w' hown' hgr _
    have h' : OwnR w' base E Kr v' (n + m) (xs ++ ys) := ⟨by rw [List.map_append]; exact hown', by rw [List.length_append, hown.2, hy, Nat.add_mul]⟩
    rcases h'.form with ⟨_, h2, _⟩ | ⟨g', cap', rfl, _⟩
    · omega
    · exact h g' cap' w' h' (hb.grown hgr (by omega) (fun k hk => by have := hown.ownLt k hk; omega))
/-- .. and rows of other element types stay. -/
theorem step_appRT {P : Program} {ops : Array Oper} {o : Oper} {a : Act} {w : World} {K : Act → World → Prop} {Q : Exit → Act → World → Prop} {F : Prop} (hgd : o.guard = none) (s x : Operand) (t : TypeId)
    (ho : o.op = .call { callee := .builtin .append, args := #[s, x], argTypes := #[t, t] })
    (base : Nat) (E : TypeId) (Kr bytes : Nat) (zc : Array Value) (ht : P.underlying t = some (.slice E)) (hinfo : (P.info? E).map (fun i => (i.zero, i.size, i.bytes)) = some (some (.agg zc), Kr, bytes)) (hzc : zc.size = Kr) (hK : 0 < Kr) (hby : bytes ≤ 1024)
    (v : Value) (n : Nat) (xs : List Int) (hs : a.eval s = v) (hown : OwnR w base E Kr v n xs) (g m c : Nat) (ys : List Int) (hx : a.eval x = .slice (some ⟨g, 0, none⟩) m c) (hy : ys.length = m * Kr)
    (hg : ∀ i, i < m * Kr → w.cell? ⟨g, i, none⟩ = some (.int .i64 (nth ys i))) (hn : n + m ≤ 1048576) (B : Nat) (w0 : World) (hb : Below B w0 w) (hB : B ≤ base) (hbase : base ≤ w.heap.size) (xs' : List Int) (hxs : xs ++ ys = xs') (hm : 1 ≤ m)
    (h : ∀ g' cap' w', OwnR w' base E Kr (.slice (some ⟨g', 0, none⟩) (n + m) cap') (n + m) xs' → Below B w0 w' → (∀ g2 T m2 f, T ≠ E → RowF w g2 T m2 f → RowF w' g2 T m2 f) → K (a.put o.dst (.slice (some ⟨g', 0, none⟩) (n + m) cap')) w') : if Region.wanted o (yielded ops a.tmps) = true then Oper.wp P o a w K Q else F := by
  have hw : Region.wanted o (yielded ops a.tmps) = true := by simp [Region.wanted, hgd]
  rw [if_pos hw]
  subst hxs
  obtain ⟨i0, hi0, hz0, hz1, hz2⟩ := info_parts hinfo
  have hbb : (n + m) * bytes ≤ 1048576 * 1024 := Nat.mul_le_mul hn hby
  refine wp_append_own (P := P) w s x t ho base E i0 (.agg zc) Kr bytes ht hi0 hz0 hz1 hz2 (by simpa [Value.cells] using hzc) hK v n _ hs hown.1 ⟨g, 0, none⟩ m c (ys.map (Value.int .i64)) hx (by simpa using hy) ?_ ?_ (by unfold maxLen; omega) (by omega) hbase ?_
  · intro j u hj
    have hjl : j < ys.length := by
      have := (List.getElem?_eq_some_iff.1 hj).1
      simpa using this
    rw [List.getElem?_map, List.getElem?_eq_getElem hjl] at hj
    simp at hj
    subst hj
    rw [Go.WideShapes.add_plain, Nat.zero_add, hg j (by rw [← hy]; exact hjl), nth_get ys j hjl]
  · intro u hu
    obtain ⟨z, _, rfl⟩ := List.mem_map.1 hu
    rfl
  · intro v' w' hown' hgr _
    have h' : OwnR w' base E Kr v' (n + m) (xs ++ ys) := ⟨by rw [List.map_append]; exact hown', by rw [List.length_append, hown.2, hy, Nat.add_mul]⟩
    rcases h'.form with ⟨_, h2, _⟩ | ⟨g', cap', rfl, _⟩
    · omega
    · exact h g' cap' w' h' (hb.grown hgr (by omega) (fun k hk => by have := hown.ownLt k hk; omega)) (fun g2 T m2 f hT hr => hr.of_block (grown_block hgr g2 hr.lt (fun e => hT (hown.typeOf g2 e.symm hr))))
end Go.Proofs.Ytdjhiegolojoaaa
end

section
/-
  Contract: the reference's list of the thrusts at which three conditions are just met and all are fulfilled.
-/
namespace Go.Proofs.Ytdjhiegolojoaaa
open Go.RowKit
set_option linter.unusedSimpArgs false
set_option linter.unusedVariables false

theorem infoThr : (Try.prog.info? 46).map (fun i => (i.zero, i.size, i.bytes)) = some (some (.agg #[.int .i64 0, .int .i64 0, .int .i64 0, .int .i64 0]), 4, 32) := by kernel_rfl

set_option maxRecDepth 100000 in
set_option maxHeartbeats 1600000 in
theorem l11Has_any (A : Option Addr) (n c : Nat) (xs : List Int) (H V M D : Int) (w : World) (h : RecsAt w w.heap.size 4 A n xs) (hn : n ≤ 1048576) :
    Calls Try.prog 88 #[.slice A n c, .agg #[.int .i64 H, .int .i64 V, .int .i64 M, .int .i64 D]] w fun e w' => e = .returned (.bool (hasTo xs H V M D n)) ∧ Below w.heap.size w w' := by
  have HL := Lib.hid h
  have BX := Lib.hid (Box4.new w H V M D 46)
  have B0 := Lib.hid ((Below.refl w.heap.size w).alloc (Nat.le_refl _) (.cells #[.int .i64 H, .int .i64 V, .int .i64 M, .int .i64 D] 46))
  clear h
  go_enter Try.func88, Try.ntmps88
  go_wp2
  go_loopw [5] (fun i wr => ∃ k : Nat, k ≤ n ∧ i = .int .i64 k ∧ Hid (hasTo xs H V M D k = false) ∧ Hid (Box4 wr w.heap.size H V M D) ∧ Hid (Below w.heap.size w wr)) (fun i _ => n - (intOf i).toNat)
  case atStart => exact ⟨0, Nat.zero_le _, rfl, Lib.hid rfl, BX, B0⟩
  case round =>
    clear BX B0
    obtain ⟨k, hk, rfl, HP, HX, HB⟩ := hrel
    by_cases hlt : k < n
    · obtain ⟨b, off, rfl, hbB, hc⟩ := HL.out.2 (by omega)
      obtain ⟨x0, x1, x2, x3⟩ := rwCells (fun i hi => (HB.out.cell (by exact hbB)).trans (hc i hi)) hlt
      have HT := Lib.hid (fun e => hasTo_mem (xs := xs) (H := H) (V := V) (M := M) (D := D) e hlt)
      have HS := Lib.hid (fun e => hasTo_step HP.out (k := k) e)
      have HE : Hid (hasAt xs H V M D k = (decide (nth xs (k * 4) = H) && (decide (nth xs (k * 4 + 1) = V) && (decide (nth xs (k * 4 + 2) = M) && decide (nth xs (k * 4 + 3) = D))))) := rfl
      clear hc
      generalize nth xs (k * 4) = y0 at *
      generalize nth xs (k * 4 + 1) = y1 at *
      generalize nth xs (k * 4 + 2) = y2 at *
      generalize nth xs (k * 4 + 3) = y3 at *
      obtain ⟨c0, c1, c2, c3⟩ := HX.out.1
      have ki : (k : Int) < (n : Int) := by omega
      by_cases e0 : y0 = H
      rotate_left
      · have HS1 := Lib.hid (HS.out (HE.out.trans (by simp [e0])))
        go_wp2
        go_region
        go_wp2
        go_roundw
        case rel => exact ⟨k + 1, by omega, by go_num, HS1, HX.out.after (below_dr (Below.refl _ _)) |> Lib.hid, Lib.hid (below_dr HB.out)⟩
        case measure => simp [intOf]; omega
      by_cases e1 : y1 = V
      rotate_left
      · have HS1 := Lib.hid (HS.out (HE.out.trans (by simp [e0, e1])))
        go_wp2
        go_region
        go_wp2
        go_roundw
        case rel => exact ⟨k + 1, by omega, by go_num, HS1, HX.out.after (below_dr (Below.refl _ _)) |> Lib.hid, Lib.hid (below_dr HB.out)⟩
        case measure => simp [intOf]; omega
      by_cases e2 : y2 = M
      rotate_left
      · have HS1 := Lib.hid (HS.out (HE.out.trans (by simp [e0, e1, e2])))
        go_wp2
        go_region
        go_wp2
        go_roundw
        case rel => exact ⟨k + 1, by omega, by go_num, HS1, HX.out.after (below_dr (Below.refl _ _)) |> Lib.hid, Lib.hid (below_dr HB.out)⟩
        case measure => simp [intOf]; omega
      by_cases e3 : y3 = D
      rotate_left
      · have HS1 := Lib.hid (HS.out (HE.out.trans (by simp [e0, e1, e2, e3])))
        go_wp2
        go_region
        go_wp2
        go_roundw
        case rel => exact ⟨k + 1, by omega, by go_num, HS1, HX.out.after (below_dr (Below.refl _ _)) |> Lib.hid, Lib.hid (below_dr HB.out)⟩
        case measure => simp [intOf]; omega
      have HT1 := Lib.hid (HT.out (HE.out.trans (by simp [e0, e1, e2, e3])))
      go_wp2
      go_region
      go_wp2
      go_ret
      exact ⟨ret_bool HT1.out.symm, below_dr HB.out⟩
    · obtain rfl : k = n := by omega
      go_wp2
      go_ret
      exact ⟨ret_bool HP.out.symm, HB.out⟩

theorem keep12 {w1 w2 : World} {b off i k m : Nat} {pa pb pc pd qa qb qc qd ra rb rc rd : Int} (h : (w1.cell? ⟨b, off + i * 4, none⟩ = some (.int .i64 pa) ∧ w1.cell? ⟨b, off + i * 4 + 1, none⟩ = some (.int .i64 pb) ∧ w1.cell? ⟨b, off + i * 4 + 2, none⟩ = some (.int .i64 pc) ∧ w1.cell? ⟨b, off + i * 4 + 3, none⟩ = some (.int .i64 pd)) ∧ (w1.cell? ⟨b, off + k * 4, none⟩ = some (.int .i64 qa) ∧ w1.cell? ⟨b, off + k * 4 + 1, none⟩ = some (.int .i64 qb) ∧ w1.cell? ⟨b, off + k * 4 + 2, none⟩ = some (.int .i64 qc) ∧ w1.cell? ⟨b, off + k * 4 + 3, none⟩ = some (.int .i64 qd)) ∧ (w1.cell? ⟨b, off + m * 4, none⟩ = some (.int .i64 ra) ∧ w1.cell? ⟨b, off + m * 4 + 1, none⟩ = some (.int .i64 rb) ∧ w1.cell? ⟨b, off + m * 4 + 2, none⟩ = some (.int .i64 rc) ∧ w1.cell? ⟨b, off + m * 4 + 3, none⟩ = some (.int .i64 rd))) (e : ∀ x, w2.cell? ⟨b, x, none⟩ = w1.cell? ⟨b, x, none⟩) :
    (w2.cell? ⟨b, off + i * 4, none⟩ = some (.int .i64 pa) ∧ w2.cell? ⟨b, off + i * 4 + 1, none⟩ = some (.int .i64 pb) ∧ w2.cell? ⟨b, off + i * 4 + 2, none⟩ = some (.int .i64 pc) ∧ w2.cell? ⟨b, off + i * 4 + 3, none⟩ = some (.int .i64 pd)) ∧ (w2.cell? ⟨b, off + k * 4, none⟩ = some (.int .i64 qa) ∧ w2.cell? ⟨b, off + k * 4 + 1, none⟩ = some (.int .i64 qb) ∧ w2.cell? ⟨b, off + k * 4 + 2, none⟩ = some (.int .i64 qc) ∧ w2.cell? ⟨b, off + k * 4 + 3, none⟩ = some (.int .i64 qd)) ∧ (w2.cell? ⟨b, off + m * 4, none⟩ = some (.int .i64 ra) ∧ w2.cell? ⟨b, off + m * 4 + 1, none⟩ = some (.int .i64 rb) ∧ w2.cell? ⟨b, off + m * 4 + 2, none⟩ = some (.int .i64 rc) ∧ w2.cell? ⟨b, off + m * 4 + 3, none⟩ = some (.int .i64 rd)) := by
  simp only [e]
  exact h

set_option maxRecDepth 100000 in
set_option maxHeartbeats 6400000 in
theorem sCorners_any (A : Option Addr) (n c : Nat) (rs : List Int) (w : World) (h : RecsAt w w.heap.size 4 A n rs) (hn : n ≤ 1048576) :
    Calls Try.prog 67 #[.slice A n c] w fun e w' => ∃ v, e = .returned v ∧ OwnR w' w.heap.size 46 4 v (cornN rs n) (cornL rs n) ∧ Below w.heap.size w w' := by
  have HL := Lib.hid h
  have HO0 := Lib.hid (OwnR.new w 46 4)
  have HB0 := Lib.hid ((Below.refl w.heap.size w).alloc (Nat.le_refl _) (.cells #[] 46))
  have HCF : Hid (cornB rs n = false → cornN rs n = 0 ∧ cornL rs n = []) := Lib.hid fun e => by rw [cornN, cornL_f e]; exact ⟨rfl, rfl⟩
  clear h
  go_enter Try.func67, Try.ntmps67
  go_wp2
  go_loopw [4] (fun v4 wr => ∃ k : Nat, k ≤ n ∧ v4 = .int .i64 k ∧ Hid (allTo (rowAt rs) k) ∧ Hid (OwnR wr w.heap.size 46 4 (.slice (some ⟨w.heap.size, 0, none⟩) 0 0) 0 []) ∧ Hid (Below w.heap.size w wr)) (fun v4 _ => n - (intOf v4).toNat)
  case atStart => exact ⟨0, Nat.zero_le _, rfl, Lib.hid (allTo_0 _), HO0, HB0⟩
  case round =>
    clear HO0 HB0
    obtain ⟨k, hk, rfl, HP, HO, HB⟩ := hrel
    by_cases hlt : k < n
    · obtain ⟨b, off, rfl, hbB, hc⟩ := HL.out.2 (by omega)
      obtain ⟨x0, x1, x2, x3⟩ := rwCells (fun i hi => (HB.out.cell (by exact hbB)).trans (hc i hi)) hlt
      have HR := Lib.hid (show rowAt rs k = rowB (nth rs (k * 4)) (nth rs (k * 4 + 1)) (nth rs (k * 4 + 2)) (nth rs (k * 4 + 3)) from rfl)
      have ki : (k : Int) < (n : Int) := by omega
      clear hc
      go_wp2_with fail
      refine (sRowOk_any _ _ _ _ _).mono ?_
      rw [← HR.out]
      rintro e w1 ⟨rfl, hb1⟩
      have HO1 := Lib.hid (HO.out.below hb1)
      have HB1 := Lib.hid (below_then HB.out hb1)
      clear hb1 x0 x1 x2 x3 HO HB
      cases hr : rowAt rs k
      · obtain ⟨e1, e2⟩ := HCF.out (cornB_1 hlt hr)
        go_wp2
        go_ret
        exact ⟨_, rfl, by rw [e1, e2]; exact HO1.out, HB1.out⟩
      · have HS := Lib.hid (allTo_step HP.out hr)
        go_wp2
        go_roundw
        case rel => exact ⟨k + 1, by omega, by go_num, HS, HO1, HB1⟩
        case measure => simp [intOf]; omega
    · obtain rfl : n = k := by omega
      have kn : ¬ (n : Int) < (n : Int) := by omega
      go_wp2_with fail
      refine (l01In_any _ _ _ _).mono ?_
      cases hin : inB (n : Int) 3 20
      · obtain ⟨e1, e2⟩ := HCF.out (cornB_2 hin)
        rintro e w1 ⟨rfl, rfl⟩
        go_wp2
        go_ret
        exact ⟨_, rfl, by rw [e1, e2]; exact HO.out, HB.out⟩
      have HCT := Lib.hid (cornB_t HP.out hin)
      have h20 : n ≤ 20 := by rw [inB_iff] at hin; omega
      rintro e w1 ⟨rfl, rfl⟩
      have HP0 := HP.out
      clear HP hin hk hlt HCF
      go_wp2
      go_loopw [3, 5] (fun v3 v5 wr => ∃ i q : Nat, i ≤ n ∧ v5 = .int .i64 i ∧ Hid (CorAcc (corI rs n i) q (400 * i)) ∧ Hid (OwnR wr w.heap.size 46 4 v3 q (corI rs n i)) ∧ Hid (Below w.heap.size w wr)) (fun _ v5 _ => n - (intOf v5).toNat)
      case atStart => exact ⟨0, 0, Nat.zero_le _, rfl, Lib.hid ⟨rfl, Nat.le_refl _⟩, HO, HB⟩
      case round =>
        clear HO HB
        obtain ⟨i, q, hi, rfl, HA, HO, HB⟩ := hrel
        by_cases hli : i < n
        · have HI1 := Lib.hid (show corI rs n (i + 1) = corK rs n i (corI rs n i) (n - (i + 1)) from corI_s i)
          obtain ⟨a2, ha2⟩ : ∃ a, corI rs n i = a := ⟨_, rfl⟩
          rw [ha2] at HA HO HI1
          clear ha2
          have ii : (i : Int) < (n : Int) := by omega
          have ei : IntKind.i64.wrap ((i : Int) + 1) = (i : Int) + 1 := IntWalk.i64_in _ (by omega)
          go_wp2
          go_loopw [3, 6] (fun v3 v6 wr => ∃ t q : Nat, i + 1 + t ≤ n ∧ v6 = .int .i64 ((i : Int) + 1 + t) ∧ Hid (CorAcc (corK rs n i a2 t) q (400 * i + 20 * t)) ∧ Hid (OwnR wr w.heap.size 46 4 v3 q (corK rs n i a2 t)) ∧ Hid (Below w.heap.size w wr)) (fun _ v6 _ => n - (intOf v6).toNat)
          case atStart => exact ⟨0, q, by omega, by simp, HA, HO, HB⟩
          case round =>
            clear HA HO HB
            obtain ⟨t, q, hk, rfl, HA, HO, HB⟩ := hrel
            by_cases hlk : i + 1 + t < n
            · have HK1 := Lib.hid (show corK rs n i a2 (t + 1) = corM rs n i (i + 1 + t) (corK rs n i a2 t) (n - (i + 1 + t + 1)) from corK_s i a2 t)
              obtain ⟨a3, ha3⟩ : ∃ a, corK rs n i a2 t = a := ⟨_, rfl⟩
              rw [ha3] at HA HO HK1
              obtain ⟨k, ek⟩ : ∃ k, i + 1 + t = k := ⟨_, rfl⟩
              have ek' : (i : Int) + 1 + (t : Int) = (k : Int) := by omega
              rw [ek] at HK1 hlk
              rw [ek']
              have kk : (k : Int) < (n : Int) := by omega
              have ekk : IntKind.i64.wrap ((k : Int) + 1) = (k : Int) + 1 := IntWalk.i64_in _ (by omega)
              clear ha3
              go_wp2
              go_loopw [3, 7] (fun v3 v7 wr => ∃ j q : Nat, k + 1 + j ≤ n ∧ v7 = .int .i64 ((k : Int) + 1 + j) ∧ Hid (CorAcc (corM rs n i k a3 j) q (400 * i + 20 * t + j)) ∧ Hid (OwnR wr w.heap.size 46 4 v3 q (corM rs n i k a3 j)) ∧ Hid (Below w.heap.size w wr)) (fun _ v7 _ => n - (intOf v7).toNat)
              case atStart => exact ⟨0, q, by omega, by simp, HA, HO, HB⟩
              case round =>
                clear HA HO HB
                obtain ⟨j, q, hm, rfl, HA, HO, HB⟩ := hrel
                by_cases hlm : k + 1 + j < n
                · have HM1 := Lib.hid (show corM rs n i k a3 (j + 1) = crStep rs n i k (k + 1 + j) (corM rs n i k a3 j) from corM_s i k a3 j)
                  obtain ⟨a4, ha4⟩ : ∃ a, corM rs n i k a3 j = a := ⟨_, rfl⟩
                  rw [ha4] at HA HO HM1
                  obtain ⟨m, em⟩ : ∃ m, k + 1 + j = m := ⟨_, rfl⟩
                  have em' : (k : Int) + 1 + (j : Int) = (m : Int) := by omega
                  rw [em] at HM1 hlm
                  rw [em']
                  have mm : (m : Int) < (n : Int) := by omega
                  have emm : IntKind.i64.wrap ((m : Int) + 1) = (m : Int) + 1 := IntWalk.i64_in _ (by omega)
                  clear ha4
                  obtain ⟨b, off, rfl, hbB, hc⟩ := HL.out.2 (by omega)
                  have hc' : ∀ x, x < n * 4 → wr.cell? ⟨b, off + x, none⟩ = some (.int .i64 (nth rs x)) := fun x hx => (HB.out.cell (by exact hbB)).trans (hc x hx)
                  obtain ⟨x0, x1, x2, x3⟩ := rwCells hc' hli
                  obtain ⟨y0, y1, y2, y3⟩ := rwCells hc' hlk
                  obtain ⟨z0, z1, z2, z3⟩ := rwCells hc' hlm
                  clear hc hc'
                  have hbk : b < wr.heap.size := Nat.lt_of_lt_of_le hbB HB.out.size
                  obtain ⟨H, V, M, D, B, hcf, hve⟩ := cr_names rs n i k m a4
                  generalize nth rs (i * 4) = pa at *
                  generalize nth rs (i * 4 + 1) = pb at *
                  generalize nth rs (i * 4 + 2) = pc at *
                  generalize nth rs (i * 4 + 3) = pd at *
                  generalize nth rs (k * 4) = qa at *
                  generalize nth rs (k * 4 + 1) = qb at *
                  generalize nth rs (k * 4 + 2) = qc at *
                  generalize nth rs (k * 4 + 3) = qd at *
                  generalize nth rs (m * 4) = ra at *
                  generalize nth rs (m * 4 + 1) = rb at *
                  generalize nth rs (m * 4 + 2) = rc at *
                  generalize nth rs (m * 4 + 3) = rd at *
                  have HVE := Lib.hid hve
                  have HCF := Lib.hid hcf
                  clear hve hcf
                  obtain ⟨wk, rfl⟩ : ∃ wk : World, wk = wr := ⟨_, rfl⟩
                  go_upto_region 18 with fail
                  go_cut [8, 9] (fun s8 s9 wx => ∃ g : Nat, s8 = .pointer (some ⟨g, 0, none⟩) ∧ s9 = .bool B ∧ wk.heap.size ≤ g ∧ Hid (Box4 wx g H V M D) ∧ Hid (Below wk.heap.size wk wx))
                  case first =>
                    refine wp_region_held_drew (S := fun w' => (w'.cell? ⟨b, off + i * 4, none⟩ = some (.int .i64 pa) ∧ w'.cell? ⟨b, off + i * 4 + 1, none⟩ = some (.int .i64 pb) ∧ w'.cell? ⟨b, off + i * 4 + 2, none⟩ = some (.int .i64 pc) ∧ w'.cell? ⟨b, off + i * 4 + 3, none⟩ = some (.int .i64 pd)) ∧ (w'.cell? ⟨b, off + k * 4, none⟩ = some (.int .i64 qa) ∧ w'.cell? ⟨b, off + k * 4 + 1, none⟩ = some (.int .i64 qb) ∧ w'.cell? ⟨b, off + k * 4 + 2, none⟩ = some (.int .i64 qc) ∧ w'.cell? ⟨b, off + k * 4 + 3, none⟩ = some (.int .i64 qd)) ∧ (w'.cell? ⟨b, off + m * 4, none⟩ = some (.int .i64 ra) ∧ w'.cell? ⟨b, off + m * 4 + 1, none⟩ = some (.int .i64 rb) ∧ w'.cell? ⟨b, off + m * 4 + 2, none⟩ = some (.int .i64 rc) ∧ w'.cell? ⟨b, off + m * 4 + 3, none⟩ = some (.int .i64 rd))) (by kernel_rfl) (by exact ⟨⟨x0, x1, x2, x3⟩, ⟨y0, y1, y2, y3⟩, ⟨z0, z1, z2, z3⟩⟩) (fun hHeld => ?_)
                    refine take_heldS (i := 0) (d := 54) rfl rfl (by kernel_rfl) (by kernel_rfl) (by kernel_rfl) (fun _ _ _ h => h) (by kernel_rfl) (fun w hSw => by (try dsimp only at hSw); go_simp; try rfl) (by assumption) ?_
                    try simp only [Act.put, List.setIfInBounds_toArray, List.set_cons_zero, List.set_cons_succ]
                    refine take_heldS (i := 1) (d := 55) rfl rfl (by kernel_rfl) (by kernel_rfl) (by kernel_rfl) (fun _ _ _ h => h) (by kernel_rfl) (fun w hSw => by (try dsimp only at hSw); go_simp; try rfl) (by assumption) ?_
                    try simp only [Act.put, List.setIfInBounds_toArray, List.set_cons_zero, List.set_cons_succ]
                    refine take_heldS (i := 2) (d := 56) rfl rfl (by kernel_rfl) (by kernel_rfl) (by kernel_rfl) (fun _ _ _ h => h) (by kernel_rfl) (fun w hSw => by (try dsimp only at hSw); go_simp; try rfl) (by assumption) ?_
                    try simp only [Act.put, List.setIfInBounds_toArray, List.set_cons_zero, List.set_cons_succ]
                    refine take_heldS (i := 3) (d := 57) rfl rfl (by kernel_rfl) (by kernel_rfl) (by kernel_rfl) (fun _ _ _ h => h) (by kernel_rfl) (fun w hSw => by (try dsimp only at hSw); go_simp; try rfl) (by assumption) ?_
                    try simp only [Act.put, List.setIfInBounds_toArray, List.set_cons_zero, List.set_cons_succ]
                    refine take_heldS (i := 4) (d := 58) rfl rfl (by kernel_rfl) (by kernel_rfl) (by kernel_rfl) (fun _ _ _ h => h) (by kernel_rfl) (fun w hSw => by (try dsimp only at hSw); go_simp; try rfl) (by assumption) ?_
                    try simp only [Act.put, List.setIfInBounds_toArray, List.set_cons_zero, List.set_cons_succ]
                    refine take_heldS (i := 5) (d := 59) rfl rfl (by kernel_rfl) (by kernel_rfl) (by kernel_rfl) (fun _ _ _ h => h) (by kernel_rfl) (fun w hSw => by (try dsimp only at hSw); go_simp; try rfl) (by assumption) ?_
                    try simp only [Act.put, List.setIfInBounds_toArray, List.set_cons_zero, List.set_cons_succ]
                    refine take_heldS (i := 6) (d := 60) rfl rfl (by kernel_rfl) (by kernel_rfl) (by kernel_rfl) (fun _ _ _ h => h) (by kernel_rfl) (fun w hSw => by (try dsimp only at hSw); go_simp; try rfl) (by assumption) ?_
                    try simp only [Act.put, List.setIfInBounds_toArray, List.set_cons_zero, List.set_cons_succ]
                    refine take_heldS (i := 7) (d := 61) rfl rfl (by kernel_rfl) (by kernel_rfl) (by kernel_rfl) (fun _ _ _ h => h) (by kernel_rfl) (fun w hSw => by (try dsimp only at hSw); go_simp; try rfl) (by assumption) ?_
                    try simp only [Act.put, List.setIfInBounds_toArray, List.set_cons_zero, List.set_cons_succ]
                    refine take_heldS (i := 8) (d := 62) rfl rfl (by kernel_rfl) (by kernel_rfl) (by kernel_rfl) (fun _ _ _ h => h) (by kernel_rfl) (fun w hSw => by (try dsimp only at hSw); go_simp; try rfl) (by assumption) ?_
                    try simp only [Act.put, List.setIfInBounds_toArray, List.set_cons_zero, List.set_cons_succ]
                    refine take_heldS (i := 9) (d := 63) rfl rfl (by kernel_rfl) (by kernel_rfl) (by kernel_rfl) (fun _ _ _ h => h) (by kernel_rfl) (fun w hSw => by (try dsimp only at hSw); go_simp; try rfl) (by assumption) ?_
                    try simp only [Act.put, List.setIfInBounds_toArray, List.set_cons_zero, List.set_cons_succ]
                    refine take_heldS (i := 10) (d := 64) rfl rfl (by kernel_rfl) (by kernel_rfl) (by kernel_rfl) (fun _ _ _ h => h) (by kernel_rfl) (fun w hSw => by (try dsimp only at hSw); go_simp; try rfl) (by assumption) ?_
                    try simp only [Act.put, List.setIfInBounds_toArray, List.set_cons_zero, List.set_cons_succ]
                    refine take_heldS (i := 11) (d := 65) rfl rfl (by kernel_rfl) (by kernel_rfl) (by kernel_rfl) (fun _ _ _ h => h) (by kernel_rfl) (fun w hSw => by (try dsimp only at hSw); go_simp; try rfl) (by assumption) ?_
                    try simp only [Act.put, List.setIfInBounds_toArray, List.set_cons_zero, List.set_cons_succ]
                    refine wpAnyH_ready (rs := [12, 16]) (by kernel_rfl) (by simp) ?_
                    refine AllReadyH.cons rfl (fun K hK => ?_) (AllReadyH.cons rfl (fun K hK => ?_) AllReadyH.nil)
                    · go_simp
                      (with_reducible refine (sSolve_any _ _ _ _ _ _ _ _ _ _ _ _ _).mono ?_)
                      rintro e w1 ⟨rfl, hb1⟩
                      rw [HVE.out, thrV]
                      refine hK.out _ _ (by exact keep12 (by assumption) (fun x => hb1.cell (p := ⟨b, x, none⟩) (by first | exact hbk | (simp; omega)))) (fun hHeld => ?_)
                      clear hK K
                      try simp only [Act.put, List.setIfInBounds_toArray, List.set_cons_zero, List.set_cons_succ]
                      refine take_heldS (i := 13) (d := 53) rfl rfl (by kernel_rfl) (by kernel_rfl) (by kernel_rfl) (fun _ _ _ h => h) (by kernel_rfl) (fun w hSw => by (try dsimp only at hSw); go_simp; try rfl) (by assumption) ?_
                      try simp only [Act.put, List.setIfInBounds_toArray, List.set_cons_zero, List.set_cons_succ]
                      refine take_heldS (i := 14) (d := 67) rfl rfl (by kernel_rfl) (by kernel_rfl) (by kernel_rfl) (fun _ _ _ h => h) (by kernel_rfl) (fun w hSw => by (try dsimp only at hSw); go_simp; try rfl) (by assumption) ?_
                      try simp only [Act.put, List.setIfInBounds_toArray, List.set_cons_zero, List.set_cons_succ]
                      refine take_heldS (i := 15) (d := 68) rfl rfl (by kernel_rfl) (by kernel_rfl) (by kernel_rfl) (fun _ _ _ h => h) (by kernel_rfl) (fun w hSw => by (try dsimp only at hSw); go_simp; try rfl) (by assumption) ?_
                      try simp only [Act.put, List.setIfInBounds_toArray, List.set_cons_zero, List.set_cons_succ]
                      refine wpAnyH_ready (rs := [16]) (by kernel_rfl) (by simp) ?_
                      refine AllReadyH.cons rfl (fun K hK => ?_) AllReadyH.nil
                      go_simp
                      refine hK.out _ _ (by exact keep12 (by assumption) (fun x => cell_alloc_lt (by have := hb1.size; simp at this; omega))) (fun hHeld => ?_)
                      clear hK K
                      try simp only [Act.put, List.setIfInBounds_toArray, List.set_cons_zero, List.set_cons_succ]
                      refine wpAnyH_ready (rs := [17]) (by kernel_rfl) (by simp) ?_
                      refine AllReadyH.cons rfl (fun K hK => ?_) AllReadyH.nil
                      go_simp
                      refine hK.out _ _ (by exact keep12 (by assumption) (fun x => (cell_alloc_lt (by have := hb1.size; simp at this; omega)).trans (cell_alloc_lt (by have := hb1.size; simp at this; omega)).symm)) (fun hHeld => ?_)
                      clear hK K
                      try simp only [Act.put, List.setIfInBounds_toArray, List.set_cons_zero, List.set_cons_succ]
                      refine take_heldS (i := 18) (d := 9) rfl rfl (by kernel_rfl) (by kernel_rfl) (by kernel_rfl) (fun _ _ _ h => h) (by kernel_rfl) (fun w hSw => by (try dsimp only at hSw); go_simp; try rfl) (by assumption) ?_
                      try simp only [Act.put, List.setIfInBounds_toArray, List.set_cons_zero, List.set_cons_succ]
                      refine wpAnyH_done (by kernel_rfl) ?_ _
                      go_wp2_with fail
                      go_meet
                      have hz1 := hb1.size
                      simp at hz1
                      exact ⟨w1.heap.size, rfl, rfl, by omega, Lib.hid (Box4.new _ _ _ _ _ _), Lib.hid (((below_drewN (Below.refl wk.heap.size wk) 1).trans (hb1.mono (by simp))).alloc (by omega) _)⟩
                    · go_simp
                      refine hK.out _ _ (by exact keep12 (by assumption) (fun x => cell_alloc_lt (by exact hbk))) (fun hHeld => ?_)
                      clear hK K
                      try simp only [Act.put, List.setIfInBounds_toArray, List.set_cons_zero, List.set_cons_succ]
                      refine wpAnyH_ready (rs := [12]) (by kernel_rfl) (by simp) ?_
                      refine AllReadyH.cons rfl (fun K hK => ?_) AllReadyH.nil
                      go_simp
                      (with_reducible refine (sSolve_any _ _ _ _ _ _ _ _ _ _ _ _ _).mono ?_)
                      rintro e w1 ⟨rfl, hb1⟩
                      rw [HVE.out, thrV]
                      have HVW : Hid (RowF w1 wk.heap.size 46 4 (fun _ => .int .i64 0)) := Lib.hid ((show RowF _ wk.heap.size 46 4 (fun _ => .int .i64 0) from RowF.of_row (World.rowIs_alloc wk.drew #[.int .i64 0, .int .i64 0, .int .i64 0, .int .i64 0] 46 (fun _ => .int .i64 0) (fun i hi => by simp at hi; match i, hi with | 0, _ => rfl | 1, _ => rfl | 2, _ => rfl | 3, _ => rfl))).after hb1)
                      refine hK.out _ _ (by exact keep12 (by assumption) (fun x => hb1.cell (p := ⟨b, x, none⟩) (by simp; omega))) (fun hHeld => ?_)
                      clear hK K
                      try simp only [Act.put, List.setIfInBounds_toArray, List.set_cons_zero, List.set_cons_succ]
                      refine take_heldS (i := 13) (d := 53) rfl rfl (by kernel_rfl) (by kernel_rfl) (by kernel_rfl) (fun _ _ _ h => h) (by kernel_rfl) (fun w hSw => by (try dsimp only at hSw); go_simp; try rfl) (by assumption) ?_
                      try simp only [Act.put, List.setIfInBounds_toArray, List.set_cons_zero, List.set_cons_succ]
                      refine take_heldS (i := 14) (d := 67) rfl rfl (by kernel_rfl) (by kernel_rfl) (by kernel_rfl) (fun _ _ _ h => h) (by kernel_rfl) (fun w hSw => by (try dsimp only at hSw); go_simp; try rfl) (by assumption) ?_
                      try simp only [Act.put, List.setIfInBounds_toArray, List.set_cons_zero, List.set_cons_succ]
                      refine take_heldS (i := 15) (d := 68) rfl rfl (by kernel_rfl) (by kernel_rfl) (by kernel_rfl) (fun _ _ _ h => h) (by kernel_rfl) (fun w hSw => by (try dsimp only at hSw); go_simp; try rfl) (by assumption) ?_
                      try simp only [Act.put, List.setIfInBounds_toArray, List.set_cons_zero, List.set_cons_succ]
                      have u0 : w1.cell? ⟨wk.heap.size, 0, none⟩ = some (.int .i64 0) := HVW.out.cell (i := 0) (by omega)
                      have u1 : w1.cell? ⟨wk.heap.size, 1, none⟩ = some (.int .i64 0) := HVW.out.cell (i := 1) (by omega)
                      have u2 : w1.cell? ⟨wk.heap.size, 2, none⟩ = some (.int .i64 0) := HVW.out.cell (i := 2) (by omega)
                      have u3 : w1.cell? ⟨wk.heap.size, 3, none⟩ = some (.int .i64 0) := HVW.out.cell (i := 3) (by omega)
                      have f0 := HVW.out.frozen 0
                      have f1 := HVW.out.frozen 1
                      have f2 := HVW.out.frozen 2
                      have f3 := HVW.out.frozen 3
                      have hs := RowF.lt HVW.out
                      have hz1 := hb1.size
                      simp at hz1
                      refine wpAnyH_ready (rs := [17]) (by kernel_rfl) (by simp) ?_
                      refine AllReadyH.cons rfl (fun K hK => ?_) AllReadyH.nil
                      go_simp
                      refine hK.out _ _ (by exact keep12 (by assumption) (fun x => (World.cell?_setCell_far _ _ _ _ (by first | (simp; done) | (simp; omega) | omega)).trans ((World.cell?_setCell_far _ _ _ _ (by first | (simp; done) | (simp; omega) | omega)).trans ((World.cell?_setCell_far _ _ _ _ (by first | (simp; done) | (simp; omega) | omega)).trans ((World.cell?_setCell_far _ _ _ _ (by first | (simp; done) | (simp; omega) | omega)).trans (rfl)))))) (fun hHeld => ?_)
                      clear hK K
                      try simp only [Act.put, List.setIfInBounds_toArray, List.set_cons_zero, List.set_cons_succ]
                      refine take_heldS (i := 18) (d := 9) rfl rfl (by kernel_rfl) (by kernel_rfl) (by kernel_rfl) (fun _ _ _ h => h) (by kernel_rfl) (fun w hSw => by (try dsimp only at hSw); go_simp; try rfl) (by assumption) ?_
                      try simp only [Act.put, List.setIfInBounds_toArray, List.set_cons_zero, List.set_cons_succ]
                      refine wpAnyH_done (by kernel_rfl) ?_ _
                      go_wp2_with fail
                      go_meet
                      have HV4 := Lib.hid (((HVW.out.set 0 (.int .i64 H)).set 1 (.int .i64 V)).set 2 (.int .i64 M) |>.set 3 (.int .i64 D))
                      exact ⟨wk.heap.size, rfl, rfl, Nat.le_refl _, Lib.hid ⟨⟨HV4.out.cell (i := 0) (by omega), HV4.out.cell (i := 1) (by omega), HV4.out.cell (i := 2) (by omega), HV4.out.cell (i := 3) (by omega)⟩, by simpa using hs⟩, Lib.hid (below_set4 (((below_drewN (Below.refl wk.heap.size wk) 1).alloc (Nat.le_refl _) _).trans (hb1.mono (by simp))) (Nat.le_refl _) _ _ _ _)⟩
                  case rest =>
                  obtain ⟨g, rfl, rfl, hg, HBX, HBW⟩ := hcut
                  have HOC := Lib.hid (HO.out.below HBW.out)
                  have HBC := Lib.hid (below_then HB.out HBW.out)
                  have hql : a4.length / 4 = q := by have := HA.out.len; omega
                  clear x0 x1 x2 x3 y0 y1 y2 y3 z0 z1 z2 z3 HVE HO HB HBW hbk
                  cases B
                  · have HEQ := Lib.hid (HCF.out.no rfl)
                    have HAX : Hid (CorAcc (corM rs n i k a3 (j + 1)) q (400 * i + 20 * t + (j + 1))) := by rw [HM1.out, HEQ.out]; exact Lib.hid ⟨HA.out.len, by have := HA.out.few; omega⟩
                    have HOX := HOC
                    rw [← HM1.out.trans HEQ.out] at HOX
                    go_wp2
                    go_roundw
                    case rel => exact ⟨j + 1, q, by omega, by go_num, HAX, HOX, HBC⟩
                    case measure => simp [intOf]; omega
                  have HTH := Lib.hid (HCF.out.thr rfl)
                  obtain ⟨A3, c3, rfl, hc3⟩ := HOC.out.slice
                  have HRC := Lib.hid HOC.out.recs
                  obtain ⟨t0, t1, t2, t3⟩ := HBX.out.1
                  have hq8 : q ≤ 8000 := by have := HA.out.few; omega
                  go_wp2_with fail
                  refine (l11Has_any _ _ _ _ _ _ _ _ _ HRC.out (by omega)).mono ?_
                  rintro e w1 ⟨rfl, hb1⟩
                  have HO1 := Lib.hid (HOC.out.below hb1)
                  have HB1 := Lib.hid (below_then HBC.out hb1)
                  have HX1 := Lib.hid (HBX.out.after hb1)
                  clear t0 t1 t2 t3 hb1 HOC HBC HBX HRC
                  cases hh : hasTo a4 H V M D q
                  rotate_left
                  · have HEQ := Lib.hid (HCF.out.has (by rw [hql]; exact hh))
                    have HAX : Hid (CorAcc (corM rs n i k a3 (j + 1)) q (400 * i + 20 * t + (j + 1))) := by rw [HM1.out, HEQ.out]; exact Lib.hid ⟨HA.out.len, by have := HA.out.few; omega⟩
                    have HOX := HO1
                    rw [← HM1.out.trans HEQ.out] at HOX
                    go_wp2
                    go_roundw
                    case rel => exact ⟨j + 1, q, by omega, by go_num, HAX, HOX, HB1⟩
                    case measure => simp [intOf]; omega
                  have HH := Lib.hid hh
                  clear hh
                  go_wp2
                  go_loopw [10, 11] (fun v10 v11 wr => ∃ (x : Nat) (bb : Bool), x ≤ n ∧ v11 = .int .i64 x ∧ v10 = .bool bb ∧ Hid (bb = true → allTo (metAt rs H V M D) x) ∧ Hid (bb = false → allB (metAt rs H V M D) n = false) ∧ Hid (OwnR wr w.heap.size 46 4 (.slice A3 q c3) q a4) ∧ Hid (Box4 wr g H V M D) ∧ Hid (Below w.heap.size w wr)) (fun _ v11 _ => n - (intOf v11).toNat)
                  case atStart => exact ⟨0, true, Nat.zero_le _, rfl, rfl, Lib.hid fun _ => allTo_0 _, Lib.hid fun e => absurd e (by simp), HO1, HX1, HB1⟩
                  case round =>
                    clear HO1 HX1 HB1
                    obtain ⟨x, bb, hx, rfl, rfl, HPT, HPF, HO, HX, HB⟩ := hrel
                    cases bb
                    · have HEQ := Lib.hid (HCF.out.all0 (HPF.out rfl))
                      by_cases hlx : x < n
                      · have xx : (x : Int) < (n : Int) := by omega
                        have HAX : Hid (CorAcc (corM rs n i k a3 (j + 1)) q (400 * i + 20 * t + (j + 1))) := by rw [HM1.out, HEQ.out]; exact Lib.hid ⟨HA.out.len, by have := HA.out.few; omega⟩
                        have HOX := HO
                        rw [← HM1.out.trans HEQ.out] at HOX
                        go_wp2
                        go_roundw
                        case rel => exact ⟨j + 1, q, by omega, by go_num, HAX, HOX, HB⟩
                        case measure => simp [intOf]; omega
                      · have xx : ¬ (x : Int) < (n : Int) := by omega
                        have HAX : Hid (CorAcc (corM rs n i k a3 (j + 1)) q (400 * i + 20 * t + (j + 1))) := by rw [HM1.out, HEQ.out]; exact Lib.hid ⟨HA.out.len, by have := HA.out.few; omega⟩
                        have HOX := HO
                        rw [← HM1.out.trans HEQ.out] at HOX
                        go_wp2
                        go_roundw
                        case rel => exact ⟨j + 1, q, by omega, by go_num, HAX, HOX, HB⟩
                        case measure => simp [intOf]; omega
                    by_cases hlx : x < n
                    · have xx : (x : Int) < (n : Int) := by omega
                      obtain ⟨b', off', eA, hbB', hc⟩ := HL.out.2 (by omega)
                      simp only [Option.some.injEq, Addr.mk.injEq, and_true] at eA
                      obtain ⟨rfl, rfl⟩ := eA
                      have hc' : ∀ y, y < n * 4 → wr.cell? ⟨b, off + y, none⟩ = some (.int .i64 (nth rs y)) := fun y hy => (HB.out.cell (by exact hbB')).trans (hc y hy)
                      obtain ⟨x0, x1, x2, x3⟩ := rwCells hc' hlx
                      have hro := (HP0 x hlx)
                      have hside := sideBd (a := nth rs (x * 4)) (b := nth rs (x * 4 + 1)) (c := nth rs (x * 4 + 2)) (d := nth rs (x * 4 + 3)) HTH.out hro
                      have HSI := Lib.hid hside
                      have HME : Hid (metAt rs H V M D x = metB (nth rs (x * 4)) (nth rs (x * 4 + 1)) (nth rs (x * 4 + 2)) (nth rs (x * 4 + 3)) H V M D) := rfl
                      have HTS := Lib.hid (fun e => allTo_step (HPT.out rfl) (k := x) e)
                      have HFS := Lib.hid (fun e => allB_f (p := metAt rs H V M D) hlx e)
                      clear hc hc' hro hside
                      generalize nth rs (x * 4) = p0 at *
                      generalize nth rs (x * 4 + 1) = p1 at *
                      generalize nth rs (x * 4 + 2) = p2 at *
                      generalize nth rs (x * 4 + 3) = p3 at *
                      obtain ⟨t0, t1, t2, t3⟩ := HX.out.1
                      have hbk : b < wr.heap.size := Nat.lt_of_lt_of_le hbB' HB.out.size
                      have hgk := HX.out.2
                      go_wp2
                      refine wp_region_held_drew (S := fun w' => (w'.cell? ⟨b, off + x * 4, none⟩ = some (.int .i64 p0) ∧ w'.cell? ⟨b, off + x * 4 + 1, none⟩ = some (.int .i64 p1) ∧ w'.cell? ⟨b, off + x * 4 + 2, none⟩ = some (.int .i64 p2) ∧ w'.cell? ⟨b, off + x * 4 + 3, none⟩ = some (.int .i64 p3)) ∧ (w'.cell? ⟨g, 0, none⟩ = some (.int .i64 H) ∧ w'.cell? ⟨g, 1, none⟩ = some (.int .i64 V) ∧ w'.cell? ⟨g, 2, none⟩ = some (.int .i64 M) ∧ w'.cell? ⟨g, 3, none⟩ = some (.int .i64 D))) (by kernel_rfl) (by exact ⟨⟨x0, x1, x2, x3⟩, ⟨t0, t1, t2, t3⟩⟩) (fun hHeld => ?_)
                      refine take_heldS (i := 0) (d := 85) rfl rfl (by kernel_rfl) (by kernel_rfl) (by kernel_rfl) (fun _ _ _ h => h) (by kernel_rfl) (fun w hSw => by (try dsimp only at hSw); go_simp; try rfl) (by assumption) ?_
                      try simp only [Act.put, List.setIfInBounds_toArray, List.set_cons_zero, List.set_cons_succ]
                      refine take_heldS (i := 1) (d := 86) rfl rfl (by kernel_rfl) (by kernel_rfl) (by kernel_rfl) (fun _ _ _ h => h) (by kernel_rfl) (fun w hSw => by (try dsimp only at hSw); go_simp; try rfl) (by assumption) ?_
                      try simp only [Act.put, List.setIfInBounds_toArray, List.set_cons_zero, List.set_cons_succ]
                      refine take_heldS (i := 2) (d := 87) rfl rfl (by kernel_rfl) (by kernel_rfl) (by kernel_rfl) (fun _ _ _ h => h) (by kernel_rfl) (fun w hSw => by (try dsimp only at hSw); go_simp; try rfl) (by assumption) ?_
                      try simp only [Act.put, List.setIfInBounds_toArray, List.set_cons_zero, List.set_cons_succ]
                      refine take_heldS (i := 3) (d := 88) rfl rfl (by kernel_rfl) (by kernel_rfl) (by kernel_rfl) (fun _ _ _ h => h) (by kernel_rfl) (fun w hSw => by (try dsimp only at hSw); go_simp; try rfl) (by assumption) ?_
                      try simp only [Act.put, List.setIfInBounds_toArray, List.set_cons_zero, List.set_cons_succ]
                      refine take_heldS (i := 4) (d := 89) rfl rfl (by kernel_rfl) (by kernel_rfl) (by kernel_rfl) (fun _ _ _ h => h) (by kernel_rfl) (fun w hSw => by (try dsimp only at hSw); go_simp; try rfl) (by assumption) ?_
                      try simp only [Act.put, List.setIfInBounds_toArray, List.set_cons_zero, List.set_cons_succ]
                      refine wpAnyH_ready (rs := [5]) (by kernel_rfl) (by simp) ?_
                      refine AllReadyH.cons rfl (fun K hK => ?_) AllReadyH.nil
                      go_simp
                      (with_reducible refine (l10Holds_any _ _ _ _ _ _ _ _ _ HSI.out).mono ?_); rintro e w5 ⟨rfl, hb5⟩; have HBn := Lib.hid (below_then (below_dr (Below.refl wr.heap.size wr)) hb5)
                      refine hK.out _ _ (by exact ⟨⟨(HBn.out.cell (by exact hbk)).trans x0, (HBn.out.cell (by exact hbk)).trans x1, (HBn.out.cell (by exact hbk)).trans x2, (HBn.out.cell (by exact hbk)).trans x3⟩, ⟨(HBn.out.cell (by exact hgk)).trans t0, (HBn.out.cell (by exact hgk)).trans t1, (HBn.out.cell (by exact hgk)).trans t2, (HBn.out.cell (by exact hgk)).trans t3⟩⟩) (fun hHeld => ?_)
                      clear hK K
                      try simp only [Act.put, List.setIfInBounds_toArray, List.set_cons_zero, List.set_cons_succ]
                      refine take_heldS (i := 6) (d := 10) rfl rfl (by kernel_rfl) (by kernel_rfl) (by kernel_rfl) (fun _ _ _ h => h) (by kernel_rfl) (fun w hSw => by (try dsimp only at hSw); go_simp; try rfl) (by assumption) ?_
                      try simp only [Act.put, List.setIfInBounds_toArray, List.set_cons_zero, List.set_cons_succ]
                      refine wpAnyH_done (by kernel_rfl) ?_ _
                      have HO5 := Lib.hid (HO.out.below HBn.out)
                      have HX5 := Lib.hid (HX.out.after HBn.out)
                      have HB5 := Lib.hid (below_then HB.out HBn.out)
                      clear x0 x1 x2 x3 t0 t1 t2 t3 hb5 hHeld HO HX HB HBn hbk hgk
                      rw [← HME.out]
                      have HPT5 : Hid (metAt rs H V M D x = true → allTo (metAt rs H V M D) (x + 1)) := HTS
                      have HPF5 : Hid (metAt rs H V M D x = false → allB (metAt rs H V M D) n = false) := HFS
                      clear HTS HFS HME
                      generalize metAt rs H V M D x = bb at *
                      go_wp2
                      go_roundw
                      case rel => exact ⟨x + 1, bb, by omega, by go_num, rfl, HPT5, HPF5, HO5, HX5, HB5⟩
                      case measure => simp [intOf]; omega
                    · obtain rfl : n = x := by omega
                      have xx : ¬ (n : Int) < (n : Int) := by omega
                      have HEQ := Lib.hid (HCF.out.yes rfl (by rw [hql]; exact HH.out) (allB_t (HPT.out rfl)))
                      obtain ⟨t0, t1, t2, t3⟩ := HX.out.1
                      have hcn : ∀ y, y < 1 * 4 → (wr.alloc (.cells #[.int .i64 H, .int .i64 V, .int .i64 M, .int .i64 D] 46)).cell? ⟨wr.heap.size, y, none⟩ = some (.int .i64 (nth [H, V, M, D] y)) := fun y hy =>
                        World.rowIs.cell (World.rowIs_alloc wr #[.int .i64 H, .int .i64 V, .int .i64 M, .int .i64 D] 46 (ints [H, V, M, D]) (fun i hi => by simp at hi; match i, hi with | 0, _ => rfl | 1, _ => rfl | 2, _ => rfl | 3, _ => rfl)) (by simpa using hy)
                      have HCN := Lib.hid hcn
                      have HBA := Lib.hid (HB.out.alloc HB.out.size (.cells #[.int .i64 H, .int .i64 V, .int .i64 M, .int .i64 D] 46))
                      have hW0 : w.heap.size ≤ (wr.alloc (.cells #[.int .i64 H, .int .i64 V, .int .i64 M, .int .i64 D] 46)).heap.size := HBA.out.size
                      have HXX : Hid (a4 ++ [H, V, M, D] = corM rs n i k a3 (j + 1)) := Lib.hid (by rw [HM1.out, HEQ.out])
                      have HAX : Hid (CorAcc (corM rs n i k a3 (j + 1)) (q + 1) (400 * i + 20 * t + (j + 1))) := by rw [HM1.out, HEQ.out]; exact Lib.hid ⟨by simp [HA.out.len]; omega, by have := HA.out.few; omega⟩
                      clear hcn
                      go_wp2_with (at_builtin; refine wpList_appR _ rfl (.tmp 92) (.tmp 94) 80 rfl w.heap.size 46 4 32 #[.int .i64 0, .int .i64 0, .int .i64 0, .int .i64 0] Try.underlying80 infoThr rfl (by decide) (by decide) _ q a4 rfl (by exact HO.out.alloc _) wr.heap.size 1 1 [H, V, M, D] rfl rfl (by exact HCN.out) (by omega) w.heap.size w (by exact HBA.out) (Nat.le_refl _) hW0 _ HXX.out ?_ (by omega); intro g' cap' w7 hown7 hb7; have HO7 := Lib.hid hown7; have HB7 := Lib.hid hb7)
                      go_roundw
                      case rel => exact ⟨j + 1, q + 1, by omega, by go_num, HAX, HO7, HB7⟩
                      case measure => simp [intOf]; omega
                · obtain rfl : n - (k + 1) = j := by omega
                  have e7 : (k : Int) + 1 + ((n - (k + 1) : Nat) : Int) = (n : Int) := by omega
                  have nn : ¬ (n : Int) < (n : Int) := by omega
                  have HA1 : Hid (CorAcc (corK rs n i a2 (t + 1)) q (400 * i + 20 * (t + 1))) := by rw [HK1.out]; exact Lib.hid ⟨HA.out.len, by have := HA.out.few; omega⟩
                  have HO1 := HO
                  rw [← HK1.out] at HO1
                  have e6 : (k : Int) + 1 = (i : Int) + 1 + ((t + 1 : Nat) : Int) := by omega
                  rw [e7]
                  go_wp2
                  go_roundw
                  case rel => exact ⟨t + 1, q, by omega, by first | rw [e6] | go_num, HA1, HO1, HB⟩
                  case measure => simp [intOf]; omega
            · obtain rfl : n - (i + 1) = t := by omega
              have e7 : (i : Int) + 1 + ((n - (i + 1) : Nat) : Int) = (n : Int) := by omega
              have nn : ¬ (n : Int) < (n : Int) := by omega
              have HA1 : Hid (CorAcc (corI rs n (i + 1)) q (400 * (i + 1))) := by rw [HI1.out]; exact Lib.hid ⟨HA.out.len, by have := HA.out.few; omega⟩
              have HO1 := HO
              rw [← HI1.out] at HO1
              rw [e7]
              go_wp2
              go_roundw
              case rel => exact ⟨i + 1, q, by omega, by go_num, HA1, HO1, HB⟩
              case measure => simp [intOf]; omega
        · obtain rfl : n = i := by omega
          have nn : ¬ (n : Int) < (n : Int) := by omega
          have hq : cornN rs n = q := by have := HA.out.len; rw [cornN, cornL_t HCT.out]; omega
          have HO1 := HO
          rw [← cornL_t HCT.out] at HO1
          obtain ⟨A9, c9, rfl, _⟩ := HO1.out.slice
          go_wp2
          go_ret
          exact ⟨.slice A9 q c9, rfl, by first | exact HO1.out | (rw [hq]; exact HO1.out), HB.out⟩
end Go.Proofs.Ytdjhiegolojoaaa
end

section
/-
  Contract: rowsFor in the program: the conditions that an arch with weights lays down.
-/
namespace Go.Proofs.Ytdjhiegolojoaaa
open Go.RowKit
set_option linter.unusedSimpArgs false

theorem infoRow : (Try.prog.info? 117).map (fun i => (i.zero, i.size, i.bytes)) = some (some (.agg #[.int .i64 0, .int .i64 0, .int .i64 0, .int .i64 0]), 4, 32) := by kernel_rfl
theorem OwnR.weaken {w : World} {base base' : Nat} {E : TypeId} {K n : Nat} {v : Value} {xs : List Int} (h : OwnR w base E K v n xs) (hb : base' ≤ base) : OwnR w base' E K v n xs := by
  refine ⟨⟨h.1.1, ?_⟩, h.2⟩
  rcases h.1.2 with h2 | ⟨g, cap, cur, h1, h2, h3⟩
  · exact .inl h2
  · exact .inr ⟨g, cap, cur, h1, Nat.le_trans hb h2, h3⟩
/-- Two cells outside the row turn. -/
theorem OwnR.set2 {w : World} {base : Nat} {E : TypeId} {K n : Nat} {v : Value} {xs : List Int} (h : OwnR w base E K v n xs) (p q : Addr) (x y : Value) (hp : p.block < base) (hq : q.block < base) : OwnR ((w.setCell p x).setCell q y) base E K v n xs := by
  refine ⟨⟨h.1.1, ?_⟩, h.2⟩
  rcases h.1.2 with h2 | ⟨g, cap, cur, h1, h2, h3, hr⟩
  · exact .inl h2
  · refine .inr ⟨g, cap, cur, h1, h2, ?_, hr⟩
    rw [Below.heap_setCell _ q y g (by omega), Below.heap_setCell _ p x g (by omega)]
    exact h3
/-- The call returns m rows, flattened to L, in memory of its own. -/
def RowsPost (w : World) (m : Nat) (L : List Int) (e : Ending) (w' : World) : Prop :=
  ∃ v, e = .returned v ∧ OwnR w' w.heap.size 117 4 v m L ∧ Below w.heap.size w w'
theorem sum_past {xs : List Int} {k : Nat} (hl : xs.length = k * 2) : sumW xs (k + 1) = sumW xs k ∧ sumM xs (k + 1) = sumM xs k := by
  have h1 : nth xs (k * 2) = 0 := by simp [nth, List.getD, List.getElem?_eq_none (show xs.length ≤ k * 2 by omega)]
  have h2 : nth xs (k * 2 + 1) = 0 := by simp [nth, List.getD, List.getElem?_eq_none (show xs.length ≤ k * 2 + 1 by omega)]
  exact ⟨by simp [sumW, h1], by simp [sumM, h2]⟩
/-- The loop's state: the boxes of the arch and of the sums, the rows so far. -/
structure RFor (w wr : World) (va : Value) (zs xs : List Int) (k : Nat) (v5 : Value) : Prop where
  arch : RowF wr w.heap.size 41 1 (fun _ => va)
  left : RowF wr (w.heap.size + 1) 163 2 (ints [sumW xs k, sumM xs k])
  own : OwnR wr (w.heap.size + 2) 117 4 v5 (k * 2) (rowTo zs (sumW xs) (sumM xs) k)
  below : Below w.heap.size w wr
theorem rfor_start (w : World) (va : Value) (zs xs : List Int) : RFor w ((w.alloc (.cells #[va] 41)).alloc (.cells #[.int .i64 0, .int .i64 0] 163)) va zs xs 0 (.slice none 0 0) := by
  refine ⟨(RowF.of_row (World.rowIs_alloc w #[va] _ (fun _ => va) (fun i hi => by simp at hi; subst hi; rfl))).alloc _, ?_, OwnR.nil _ _ _ _, ((Below.refl _ _).alloc (Nat.le_refl _) _).alloc (by simp) _⟩
  have h := RowF.of_row (World.rowIs_alloc (w.alloc (.cells #[va] 41)) #[.int .i64 0, .int .i64 0] 163 (ints [0, 0]) (fun i hi => by simp at hi; match i, hi with | 0, _ => rfl | 1, _ => rfl))
  rw [World.size_alloc] at h
  exact h
theorem RFor.drew {w wr : World} {va : Value} {zs xs : List Int} {k : Nat} {v5 : Value} (h : RFor w wr va zs xs k v5) : RFor w wr.drew va zs xs k v5 := ⟨h.arch.drew, h.left.drew, h.own.drew, h.below.drew⟩
theorem rowC_new4 (w : World) (a b c d : Int) (T : TypeId) : RowF (w.alloc (.cells #[.int .i64 a, .int .i64 b, .int .i64 c, .int .i64 d] T)) w.heap.size T 4 (ints [a, b, c, d]) :=
  RowF.of_row (World.rowIs_alloc w #[.int .i64 a, .int .i64 b, .int .i64 c, .int .i64 d] T _ (fun j hj => by simp at hj; match j, hj with | 0, _ => rfl | 1, _ => rfl | 2, _ => rfl | 3, _ => rfl))
theorem rowC_new8 (w : World) (a b c d e f g h : Int) (T : TypeId) : RowF (w.alloc (.cells #[.int .i64 a, .int .i64 b, .int .i64 c, .int .i64 d, .int .i64 e, .int .i64 f, .int .i64 g, .int .i64 h] T)) w.heap.size T 8 (ints [a, b, c, d, e, f, g, h]) :=
  RowF.of_row (World.rowIs_alloc w #[.int .i64 a, .int .i64 b, .int .i64 c, .int .i64 d, .int .i64 e, .int .i64 f, .int .i64 g, .int .i64 h] T _ (fun j hj => by simp at hj; match j, hj with | 0, _ => rfl | 1, _ => rfl | 2, _ => rfl | 3, _ => rfl | 4, _ => rfl | 5, _ => rfl | 6, _ => rfl | 7, _ => rfl))
theorem jWraps {ix iy ox oy w m : Int} (h : JBd ix iy ox oy w m) : IntKind.i64.wrap (-ix) = -ix ∧ IntKind.i64.wrap (-oy) = -oy ∧ IntKind.i64.wrap (ix * w) = ix * w ∧ IntKind.i64.wrap (m - ix * w) = m - ix * w ∧ IntKind.i64.wrap (ox * w) = ox * w ∧ IntKind.i64.wrap (ox * w - m) = ox * w - m := by
  obtain ⟨h1, h2, h3, h4, h5, h6⟩ := h
  exact ⟨IntWalk.i64_in _ (by omega), IntWalk.i64_in _ (by omega), IntWalk.i64_in _ (by omega), IntWalk.i64_in _ (by omega), IntWalk.i64_in _ (by omega), IntWalk.i64_in _ (by omega)⟩

end Go.Proofs.Ytdjhiegolojoaaa
end
