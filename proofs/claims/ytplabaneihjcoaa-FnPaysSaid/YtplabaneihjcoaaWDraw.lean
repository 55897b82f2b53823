/-
  Contracts: the cursor of the draws: it yields some number within its bounds, and only its own block turns.
-/
import Derived.Test.YtplabaneihjcoaaProg
import Derived.WalkKit
import Derived.Outline
import Derived.Test.YtplabaneihjcoaaBytes
import Derived.Test.YtplabaneihjcoaaOnly
import Derived.Laws.BitsAllLaws
import Derived.Laws.BitsLemmas
import Derived.IntWalk
import Derived.BigQuiet
namespace Go.Proofs.Ytplabaneihjcoaa
open Go.RowKit
set_option linter.unusedSimpArgs false

theorem and_low (a : Int) (m : Nat) (hm : m < 9223372036854775808) : 0 ≤ bits .and .i64 a (m : Int) ∧ bits .and .i64 a (m : Int) ≤ (m : Int) := by
  show 0 ≤ IntKind.i64.wrap ((BitVec.ofInt 64 a &&& BitVec.ofInt 64 (m : Int)).toNat : Int) ∧ IntKind.i64.wrap ((BitVec.ofInt 64 a &&& BitVec.ofInt 64 (m : Int)).toNat : Int) ≤ (m : Int)
  have e : (BitVec.ofInt 64 (m : Int)).toNat = m := by
    rw [BitVec.ofInt_natCast, BitVec.toNat_ofNat]; exact Nat.mod_eq_of_lt (by omega)
  rw [BitVec.toNat_and, e]
  have h := Nat.and_le_right (n := (BitVec.ofInt 64 a).toNat) (m := m)
  rw [IntWalk.i64_in _ (by omega)]
  omega
theorem Only.drewN {g : Nat} {w w' : World} (h : Only g w w') (k : Nat) : Only g w (w'.drewN k) := ⟨h.os, h.tape, h.output, h.size, h.block⟩
/-- The cursor's block: the bytes, the place, the number. -/
def Cur (w : World) (g : Nat) (A : Option Addr) (n c i : Nat) (h : Int) : Prop := RowF w g 94 3 (fun j => match j with | 0 => .slice A n c | 1 => .int .i64 (i : Int) | _ => .int .i64 h)
theorem Cur.after {w w' : World} {g : Nat} {A : Option Addr} {n c i : Nat} {h : Int} (hc : Cur w g A n c i h) (hb : Below w.heap.size w w') : Cur w' g A n c i h := RowF.after hc hb
/-- Some cursor over these bytes. -/
def CurAt (w : World) (g : Nat) (A : Option Addr) (n c : Nat) : Prop := ∃ (i : Nat) (h : Int), i ≤ n ∧ Cur w g A n c i h
theorem CurAt.after {w w' : World} {g : Nat} {A : Option Addr} {n c : Nat} (hc : CurAt w g A n c) (hb : Below w.heap.size w w') : CurAt w' g A n c := by
  obtain ⟨i, h, hi, hc⟩ := hc
  exact ⟨i, h, hi, hc.after hb⟩

set_option maxRecDepth 100000 in
set_option maxHeartbeats 1600000 in
theorem l01New_any (A : Option Addr) (n c : Nat) (zs : List Int) (w : World) (h : BytesAt w w.heap.size A n zs) (hn : n ≤ 1048576) :
    Calls Try.prog 32 #[.slice A n c] w fun e w' => ∃ g, e = .returned (.pointer (some ⟨g, 0, none⟩)) ∧ w.heap.size ≤ g ∧ CurAt w' g A n c ∧ Below w.heap.size w w' := by
  have H := Lib.hid h
  clear h
  go_enter Try.func32, Try.ntmps32
  go_wp2
  go_loop [3, 4] (fun m i => ∃ (k : Nat) (x : Int), k ≤ n ∧ i = .int .i64 k ∧ m = .int .i64 x) (fun _ i => n - (intOf i).toNat)
  case atStart => exact ⟨0, _, Nat.zero_le _, rfl, rfl⟩
  case round =>
    obtain ⟨k, x, hk, rfl, rfl⟩ := hrel
    by_cases hlt : k < n ∧ k < 4000
    · obtain ⟨b, off, rfl, hbB, hc⟩ := H.out.2 (by omega)
      have hx := hc k hlt.1
      have ki : (k : Int) < (n : Int) := by omega
      have k0 : (0 : Int) ≤ (k : Int) := by omega
      have k4 : (k : Int) < 4000 := by omega
      clear hc
      go_wp2
      go_round
      case rel => exact ⟨k + 1, _, by omega, by go_num, rfl⟩
      case measure => simp [intOf]; omega
    · have HB := Lib.hid ((Below.refl w.heap.size w).alloc (Nat.le_refl _) (.cells #[.slice A n c, .int .i64 0, .int .i64 x] 94))
      have HC : Hid (Cur (w.alloc (.cells #[.slice A n c, .int .i64 0, .int .i64 x] 94)) w.heap.size A n c 0 x) := RowF.of_row (World.rowIs_alloc w #[.slice A n c, .int .i64 0, .int .i64 x] 94 _ (fun j hj => by simp at hj; match j, hj with | 0, _ => rfl | 1, _ => rfl | 2, _ => rfl))
      by_cases h1 : k < n
      · have k1 : (k : Int) < (n : Int) := by omega
        have k4 : ¬ (k : Int) < 4000 := by omega
        go_wp2
        go_ret
        exact ⟨_, rfl, Nat.le_refl _, ⟨0, x, Nat.zero_le _, HC.out⟩, HB.out⟩
      · have k1 : ¬ (k : Int) < (n : Int) := by omega
        go_wp2
        go_ret
        exact ⟨_, rfl, Nat.le_refl _, ⟨0, x, Nat.zero_le _, HC.out⟩, HB.out⟩
/-- A number from 0 to m - 1 comes back; only the cursor turns. -/
def DrawPost (w : World) (g : Nat) (A : Option Addr) (n c : Nat) (m : Int) (e : Ending) (w' : World) : Prop := ∃ r : Int, e = .returned (.int .i64 r) ∧ 0 ≤ r ∧ r < m ∧ CurAt w' g A n c ∧ Only g w w'

set_option maxRecDepth 100000 in
set_option maxHeartbeats 3200000 in
theorem l01Byte_any (g : Nat) (A : Option Addr) (n c : Nat) (zs : List Int) (w : World) (h : BytesAt w g A n zs) (hn : n ≤ 1048576) (hc : CurAt w g A n c) :
    Calls Try.prog 82 #[.pointer (some ⟨g, 0, none⟩)] w (DrawPost w g A n c 256) := by
  obtain ⟨i, x, hi, hc⟩ := hc
  have HC := Lib.hid hc
  have c0 : w.cell? ⟨g, 0, none⟩ = some (.slice A n c) := hc.cell (i := 0) (by omega)
  have c1 : w.cell? ⟨g, 1, none⟩ = some (.int .i64 (i : Int)) := hc.cell (i := 1) (by omega)
  have c2 : w.cell? ⟨g, 2, none⟩ = some (.int .i64 x) := hc.cell (i := 2) (by omega)
  have f1 := hc.frozen 1
  have f2 := hc.frozen 2
  go_enter Try.func82, Try.ntmps82
  go_wp2_with fail
  generalize wrap64 (wrap64 (x * 6364136223846793005) + 1442695040888963407) = y
  have HC1 : Hid (Cur (w.setCell ⟨g, 2, none⟩ (.int .i64 y)) g A n c i y) := (RowF.set HC.out 2 (.int .i64 y)).congr (fun j hj => by match j, hj with | 0, _ => rfl | 1, _ => rfl | 2, _ => rfl)
  have HO1 := Lib.hid (Only.setCell (Only.refl g w) 2 (.int .i64 y))
  have hb1 : ∀ k, k < n → ∃ b off, A = some ⟨b, off, none⟩ ∧ (w.setCell ⟨g, 2, none⟩ (.int .i64 y)).cell? ⟨b, off + k, none⟩ = some (.int .u8 (nth zs k)) := fun k hk => by
    obtain ⟨b, off, e, hb, hcc⟩ := h.2 (by omega)
    exact ⟨b, off, e, (HO1.out.cell (p := ⟨b, off + k, none⟩) (by simp; omega)).trans (hcc k hk)⟩
  have HB1 := Lib.hid hb1
  generalize w.setCell ⟨g, 2, none⟩ (.int .i64 y) = w1 at *
  have hz := h.1
  clear c0 c1 c2 f1 f2 hb1 hc HC h
  have c0 : w1.cell? ⟨g, 0, none⟩ = some (.slice A n c) := RowF.cell HC1.out (i := 0) (by omega)
  have c1 : w1.cell? ⟨g, 1, none⟩ = some (.int .i64 (i : Int)) := RowF.cell HC1.out (i := 1) (by omega)
  have c2 : w1.cell? ⟨g, 2, none⟩ = some (.int .i64 y) := RowF.cell HC1.out (i := 2) (by omega)
  have f1 := RowF.frozen HC1.out 1
  go_quiet (fail)
  have hr := and_low (bits BinOp.xor IntKind.i64 (y / 8589934592) (y / 35184372088832)) 255 (by omega)
  have e255 : ((255 : Nat) : Int) = 255 := rfl
  rw [e255] at hr
  generalize bits BinOp.and IntKind.i64 (bits BinOp.xor IntKind.i64 (y / 8589934592) (y / 35184372088832)) 255 = r at *
  clear e255
  go_wp2_with fail
  by_cases hlt : i < n
  · obtain ⟨b, off, rfl, hx⟩ := HB1.out i hlt
    have hzz := hz.2 i
    have ki : (i : Int) < (n : Int) := by omega
    have k0 : (0 : Int) ≤ (i : Int) := by omega
    go_quiet (fail)
    go_wp2_with fail
    go_quiet (fail)
    have hr2 := and_low (r + nth zs i) 255 (by omega)
    have e255 : ((255 : Nat) : Int) = 255 := rfl
    rw [e255] at hr2
    generalize bits BinOp.and IntKind.i64 (r + nth zs i) 255 = r2 at *
    clear e255
    have HC2 : Hid (∀ k, Cur ((w1.drewN k).setCell ⟨g, 1, none⟩ (.int .i64 ((i : Int) + 1))) g (some ⟨b, off, none⟩) n c (i + 1) y) := fun k => (RowF.set (RowF.drewN HC1.out k) 1 (.int .i64 ((i : Int) + 1))).congr (fun j hj => by match j, hj with | 0, _ => rfl | 1, _ => rfl | 2, _ => rfl)
    go_wp2
    go_ret
    exact ⟨r2, rfl, hr2.1, by omega, ⟨i + 1, y, by omega, HC2.out _⟩, (HO1.out.drewN _).setCell 1 _⟩
  · have ki : ¬ (i : Int) < (n : Int) := by omega
    go_quiet (fail)
    go_wp2
    go_ret
    exact ⟨r, rfl, hr.1, by omega, ⟨i, y, hi, HC1.out⟩, HO1.out.drewN _⟩

set_option maxRecDepth 100000 in
set_option maxHeartbeats 3200000 in
/-- A number below m, for 0 < m ≤ 256. -/
theorem l01Below_any (g : Nat) (A : Option Addr) (n c : Nat) (zs : List Int) (m : Int) (w : World) (h : BytesAt w g A n zs) (hn : n ≤ 1048576) (hc : CurAt w g A n c) (h0 : 0 < m) (h1 : m ≤ 256) :
    Calls Try.prog 61 #[.pointer (some ⟨g, 0, none⟩), .int .i64 m] w (DrawPost w g A n c m) := by
  go_enter Try.func61, Try.ntmps61
  go_wp2_with fail
  refine (l01Byte_any g A n c zs _ h hn hc).mono ?_
  rintro e w1 ⟨r, rfl, hr0, hr1, hc1, ho1⟩
  have HR := Lib.hid (show CurAt w1 g A n c ∧ Only g w w1 from ⟨hc1, ho1⟩)
  have hm0 : ¬ m = 0 := by omega
  have hmb : (m == 0) = false := by simpa using hm0
  have hq1 : 0 ≤ r % m := Int.emod_nonneg _ hm0
  have hq2 : r % m < m := Int.emod_lt_of_pos _ h0
  clear hc1 ho1 hc h
  go_wp2
  go_ret
  exact ⟨r % m, rfl, hq1, hq2, HR.out.1, HR.out.2⟩
/-- The bytes stay while the cursor turns. -/
theorem BytesAt.only {w w' : World} {g B n : Nat} {A : Option Addr} {zs : List Int} (h : BytesAt w B A n zs) (ho : Only g w w') (hB : B ≤ g) : BytesAt w' B A n zs :=
  ⟨h.1, fun hn => by
    obtain ⟨b, off, e, hb, hc⟩ := h.2 hn
    exact ⟨b, off, e, hb, fun k hk' => (ho.cell (p := ⟨b, off + k, none⟩) (by simp; omega)).trans (hc k hk')⟩⟩
end Go.Proofs.Ytplabaneihjcoaa
