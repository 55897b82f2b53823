/-
  Texts that the law stands on, part 1.
-/
import Derived.Test.YtbpnbhemdbgmjaaGreatM1
import Derived.Test.YtbpnbhemdbgmjaaGreatM11
import Derived.Test.YtbpnbhemdbgmjaaGreatM18
import Derived.Test.YtbpnbhemdbgmjaaGreatM21
import Derived.Test.YtbpnbhemdbgmjaaGreatM25
import Derived.Test.YtbpnbhemdbgmjaaGreatM27
import Derived.Test.YtbpnbhemdbgmjaaGreatM28
import Derived.WalkKit
import Derived.ProofKit
import Derived.OpenShut
import Derived.SizedLaws
import Derived.ChangeSame
import Derived.Lib.Hide
import Derived.Deep.OwnRows
import Derived.Deep.Draws
import Derived.Outline
import Derived.Deep.QuietTactic
import Derived.BigQuiet
section
namespace Go.Proofs.YtbpnbhemdbgmjaaGreat
open Go.ChangeShapes Go.WideShapes Go.ChangeAt Go.RowKit
section
variable {H : Type} {enc : TypeId × Value → H} {P : Program}
end
section
variable {w w' : World} {B B' n : Nat} {A : Option Addr} {zs : List Int}
end
theorem list_ext_nth {xs ys : List Int} (hl : xs.length = ys.length) (h : ∀ k, k < xs.length → nth xs k = nth ys k) : xs = ys := by
  refine List.ext_getElem hl fun k h1 h2 => ?_
  have := h k h1
  rwa [nth_get _ _ h1, nth_get _ _ h2] at this
theorem open_ints_arg {H : Type} {enc : TypeId × Value → H} {P : Program} {W : World} {base : Nat} {t e : TypeId} {v : Value} {d : DataW H} {p : List MemPlace} (ht : P.underlying t = some (.slice e)) (he : P.underlying e = some (.int .i64)) (hc : P.cellsOf e = 1)
    (hv : Value.okWide P W .any base t v) (h : DataW.Trod enc P W 0 (fun _ => true) true t v d p) (hlt : ∀ x ∈ p, x.block < W.heap.size) :
    ∃ (A : Option Addr) (n c : Nat) (zs : List Int), v = .slice A n c ∧ IntsAt W W.heap.size A n zs ∧ n ≤ maxLen ∧ n ≤ c ∧ (∀ k, -9223372036854775808 ≤ nth zs k ∧ nth zs k ≤ 9223372036854775807) := by
  obtain ⟨A, n, c, rfl⟩ := okWide_slice ht hv
  obtain ⟨fuel, hf⟩ := h
  rcases open_ints ht he hc hf with ⟨h0, _⟩ | ⟨a, len, cap, ys, h1, _, hl, hm, hy, hx, hcell, hwf⟩
  · simp [Value.cells] at h0
    obtain ⟨rfl, rfl, rfl⟩ := h0
    exact ⟨_, _, _, [], rfl, IntsAt.nil, by simp [maxLen], Nat.le_refl _, fun k => by simp [nth]⟩
  · simp [Value.cells] at h1
    obtain ⟨rfl, rfl, rfl⟩ := h1
    simp only [if_true] at hy
    have hw : ∀ k, -9223372036854775808 ≤ nth (ys.take n) k ∧ nth (ys.take n) k ≤ 9223372036854775807 := by
      intro k
      by_cases hk : k < (ys.take n).length
      · rw [nth_get _ _ hk]
        exact i64_bounds (hwf _ (List.mem_of_mem_take (List.getElem_mem hk)))
      · simp [nth, List.getD, List.getElem?_eq_none (Nat.le_of_not_lt hk)]
    refine ⟨_, _, _, ys.take n, rfl, ⟨by simp; omega, fun hn => ?_⟩, by omega, hl, hw⟩
    obtain ⟨b, off, rfl, hc'⟩ := ints_at hcell (by omega)
    refine ⟨b, off, rfl, ?_, fun k hk => ?_⟩
    · have hpx : p = MemPlace.row ⟨b, off, none⟩ ys.length := by simpa using congrArg Prod.snd hx
      have : MemPlace.cell b off ∈ p := by
        rw [hpx]
        simp [MemPlace.row]
        omega
      exact hlt _ this
    · rw [hc' k (by omega)]
      have : nth (ys.take n) k = ys.getD k 0 := by
        simp [nth, List.getD, hk]
      rw [this]
end Go.Proofs.YtbpnbhemdbgmjaaGreat
end
section
namespace Go.Proofs.YtbpnbhemdbgmjaaGreat.X
open Go.RowKit
theorem infoInt : (Tryzx.prog.info? 3).map (fun i => (i.zero, i.size, i.bytes)) = some (some (.int .i64 0), 1, 8) := by kernel_rfl
def upto (zs : List Int) (k j : Nat) : Value := if j < k then .int .i64 (nth zs j) else .int .i64 0
theorem upto_at (zs : List Int) (k : Nat) : upto zs k k = .int .i64 0 := by simp [upto]
theorem upto_step (zs : List Int) (k j : Nat) : (if j = k then Value.int .i64 (nth zs k) else upto zs k j) = upto zs (k + 1) j := by
  unfold upto
  by_cases h : j = k
  · subst h; simp
  · by_cases h' : j < k
    · simp [h, h', show j < k + 1 by omega]
    · simp [h, h', show ¬ j < k + 1 by omega]
theorem upto_end (zs : List Int) (n j : Nat) (h : j < n) : upto zs n j = .int .i64 (nth zs j) := by simp [upto, h]
set_option maxHeartbeats 400000 in
theorem toIntS_any (A : Option Addr) (n c : Nat) (zs : List Int) (w : World) (h : IntsAt w w.heap.size A n zs) (hn : n ≤ 1048576) :
    Calls Tryzx.prog 32 #[.slice A n c] w fun e w' => e = .returned (.slice (some ⟨w.heap.size, 0, none⟩) n n) ∧ IntsAt w' w'.heap.size (some ⟨w.heap.size, 0, none⟩) n zs ∧ Below w.heap.size w w' := by
  have H := Lib.hid h
  clear h
  have hmk := run_make_row' (P := Tryzx.prog) 54 3 (.int .i64 0) 8 Tryzx.underlying54 infoInt rfl .i64 .i64 n (by omega) (by omega)
  go_enter Tryzx.func32, Tryz.ntmps32
  go_wp2
  clear hmk
  go_loopw [4] (fun i wr => ∃ k : Nat, k ≤ n ∧ i = .int .i64 k ∧ wr.rowIs w.heap.size 3 n (upto zs k) ∧ Below w.heap.size w wr) (fun i _ => n - (intOf i).toNat)
  case atStart => exact ⟨0, Nat.zero_le _, rfl, (World.rowIs_made _ _ _ _).congr (fun i _ => by simp [upto]), (Below.refl _ _).alloc (Nat.le_refl _) _⟩
  case round =>
    obtain ⟨k, hk, rfl, hrow, hb⟩ := hrel
    by_cases hlt : k < n
    · obtain ⟨b, off, rfl, hbB, hc⟩ := H.out.2 (by omega)
      have hcx : wr.cell? ⟨b, off + k, none⟩ = some (.int .i64 (nth zs k)) := (hb.cell (by exact hbB)).trans (hc k hlt)
      have hcy : wr.cell? ⟨w.heap.size, k, none⟩ = some (.int .i64 0) := by rw [hrow.cell hlt, upto_at]
      have hfy : wr.frozen? ⟨w.heap.size, k, none⟩ = false := hrow.frozen k
      have HR := Lib.hid hrow
      have HB := Lib.hid hb
      clear hrow hb hc
      go_wp2
      go_roundw
      case rel => exact ⟨k + 1, by omega, by go_num, (HR.out.set k _).congr (fun j _ => upto_step zs k j), HB.out.setCell (Nat.le_refl _) _⟩
      case measure => simp [intOf]; omega
    · have hkn : k = n := by omega
      subst hkn
      have HR := Lib.hid hrow
      have HB := Lib.hid hb
      clear hrow hb
      go_wp2
      go_ret
      exact ⟨rfl, intsAt_row HR.out H.out.1 (fun j hj => upto_end zs k j hj), HB.out⟩
def agree (xs ys : List Int) (k : Nat) : Prop := ∀ j, j < k → nth xs j = nth ys j
theorem agree_step {xs ys : List Int} {k : Nat} (h : agree xs ys k) (e : nth xs k = nth ys k) : agree xs ys (k + 1) := by
  intro j hj
  by_cases hjk : j = k
  · subst hjk; exact e
  · exact h j (by omega)
def eqL (xs ys : List Int) : Bool := decide (xs = ys)
theorem eqL_refl (xs : List Int) : eqL xs xs = true := by simp [eqL]
set_option maxHeartbeats 400000 in
theorem eqIntS_any (A A' : Option Addr) (n n' c c' : Nat) (xs ys : List Int) (w : World) (hx : IntsAt w w.heap.size A n xs) (hy : IntsAt w w.heap.size A' n' ys) (hn : n ≤ 1048576) (hn' : n' ≤ 1048576) :
    Calls Tryzx.prog 34 #[.slice A n c, .slice A' n' c'] w fun e w' => e = .returned (.bool (eqL xs ys)) ∧ Below w.heap.size w w' := by
  by_cases hl : n = n'
  · subst hl
    have HX := Lib.hid hx
    have HY := Lib.hid hy
    clear hx hy
    have ht : ((n : Int) != (n : Int)) = false := by simp
    go_enter Tryzx.func34, Tryz.ntmps34
    go_wp2
    go_loopw [5] (fun i wr => ∃ k : Nat, k ≤ n ∧ i = .int .i64 k ∧ agree xs ys k ∧ Below w.heap.size w wr) (fun i _ => n - (intOf i).toNat)
    case atStart => exact ⟨0, Nat.zero_le _, rfl, fun j hj => absurd hj (by omega), Below.refl _ _⟩
    case round =>
      obtain ⟨k, hk, rfl, hag, hb⟩ := hrel
      have HB := Lib.hid hb
      by_cases hlt : k < n
      · obtain ⟨b, off, rfl, hbB, hc⟩ := HX.out.2 (by omega)
        obtain ⟨b', off', rfl, hbB', hc'⟩ := HY.out.2 (by omega)
        have hcx : wr.cell? ⟨b, off + k, none⟩ = some (.int .i64 (nth xs k)) := (hb.cell (by exact hbB)).trans (hc k hlt)
        have hcy : wr.cell? ⟨b', off' + k, none⟩ = some (.int .i64 (nth ys k)) := (hb.cell (by exact hbB')).trans (hc' k hlt)
        have hki : (k : Int) < (n : Int) := by omega
        have hk0 : (0 : Int) ≤ (k : Int) := by omega
        clear hc hc' hb
        by_cases he : nth xs k = nth ys k
        · have hne : (nth xs k != nth ys k) = false := by simp [he]
          have HE := Lib.hid he
          clear he
          go_wp2
          go_quiet (fail)
          go_wp2
          go_roundw
          case rel => exact ⟨k + 1, by omega, by go_num, agree_step hag HE.out, below_drewN HB.out _⟩
          case measure => simp [intOf]; omega
        · have hne : (nth xs k != nth ys k) = true := by simp [he]
          have HE := Lib.hid he
          clear he
          go_wp2
          go_quiet (fail)
          go_wp2
          go_ret
          refine ⟨ret_bool ?_, below_drewN HB.out _⟩
          have : xs ≠ ys := fun e => HE.out (by rw [e])
          simp [eqL, this]
      · have hkn : k = n := by omega
        subst hkn
        clear hb
        go_wp2
        go_ret
        refine ⟨ret_bool ?_, HB.out⟩
        have : xs = ys := list_ext_nth (by rw [HX.out.1, HY.out.1]) (fun j hj => hag j (by rw [HX.out.1] at hj; exact hj))
        simp [eqL, this]
  · have H := Lib.hid (show xs ≠ ys from fun e => hl (by rw [← hx.1, ← hy.1, e]))
    have ht : ((n : Int) != (n' : Int)) = true := by simp; omega
    clear hx hy
    go_enter Tryzx.func34, Tryz.ntmps34
    go_wp2
    go_ret
    exact ⟨ret_bool (by simp [eqL, H.out]), Below.refl _ _⟩
end Go.Proofs.YtbpnbhemdbgmjaaGreat.X
end
section
namespace Go.Proofs.YtbpnbhemdbgmjaaGreat.X
open Go.RowKit
section
variable {w w1 w2 : World}
theorem below_box {o : Obj} (h : Below w.heap.size w w1) : Below w.heap.size w (w1.alloc o) := h.alloc h.size _
end
theorem toIntS_ex (A : Option Addr) (n c : Nat) (zs : List Int) (w : World) (h : IntsAt w w.heap.size A n zs) (hn : n ≤ 1048576) :
    Calls Tryzx.prog 32 #[.slice A n c] w fun e w' => ∃ g, e = .returned (.slice (some ⟨g, 0, none⟩) n n) ∧ w.heap.size ≤ g ∧ IntsAt w' w'.heap.size (some ⟨g, 0, none⟩) n zs ∧ Below w.heap.size w w' :=
  (toIntS_any A n c zs w h hn).mono fun _ _ ⟨he, hi, hb⟩ => ⟨_, he, Nat.le_refl _, hi, hb⟩
end Go.Proofs.YtbpnbhemdbgmjaaGreat.X
end
section
namespace Go.Proofs.YtbpnbhemdbgmjaaGreat.Rn
open Go.Conc Go.WideShapes
set_option linter.unusedVariables false
set_option linter.unusedSimpArgs false
section
variable {P : Program} {w : World} {r : Reach} {base : Nat} {t e u : TypeId} {fs : Array Field} {A : Option Addr} {n c : Nat}
theorem slice_atCells (ht : P.underlying t = some (.slice e)) (h : Value.okWide P w r base t (.slice A n c)) : AtCells w A := by
  simp only [Value.okWide, ht] at h
  exact cell_atCells ht h
end
section
variable {noT : TypeId} {ws : List Win} {v : World} {B K n i : Nat} {A : Option Addr} {zs : List Int}
theorem ints_recs (h : IntsAt v B A n zs) : RecsAt v B 1 A n zs := ⟨by rw [h.1, Nat.mul_one], by rw [Nat.mul_one]; exact h.2⟩
theorem recs_ints (h : RecsAt v B 1 A n zs) : IntsAt v B A n zs := ⟨by rw [h.1, Nat.mul_one], by have := h.2; rwa [Nat.mul_one] at this⟩
theorem lone_ints (h : IntsAt v B A n zs) (hi : ws[i]? = some (winOf .i64 A (n * 1) zs)) (t : Tp) (d : Nat) : IntsAt ((lworld noT ws v).tp t d) ((lworld noT ws v).tp t d).heap.size (lA A i) n zs := recs_ints (lone_recs (ints_recs h) hi t d)
end
end Go.Proofs.YtbpnbhemdbgmjaaGreat.Rn
end
section
namespace Go.Proofs.Tryzx
theorem ntmps5 : Tryz.f5.ntmps = 43 := Tryz.ntmps5
end Go.Proofs.Tryzx
end
section
namespace Go.Proofs.YtbpnbhemdbgmjaaGreat.X
open Go.RowKit
set_option linter.unusedVariables false
set_option maxRecDepth 100000 in
set_option maxHeartbeats 1600000 in
theorem fnExactStageStands.walk (A0 : Option Addr) (n0 c0 : Nat) (z0 : List Int) (hm0 : n0 ≤ maxLen) (A1 : Option Addr) (n1 c1 : Nat) (z1 : List Int) (w : World) (a0_ : RecsAt w w.heap.size 4 A0 n0 z0) (a1_ : IntsAt w w.heap.size A1 n1 z1) :
    Calls Tryzx.prog 5 #[.agg #[.slice A0 n0 c0], .slice A1 n1 c1] w fun e w' => e = .returned (.bool true) ∧ Below w.heap.size w w' := by
  have hm0' : n0 ≤ 9223372036854775807 := by unfold maxLen at hm0; omega
  have b_0 : Below w.heap.size w w := Below.refl _ _
  have a0_0 := a0_
  have a1_0 := a1_
  by_cases hn1 : n1 ≤ 1048576
  · have ht1 : ¬ (1048576 : Int) < (n1 : Int) := by omega
    have hb_1 : Below w.heap.size w (w.alloc (.cells #[.slice A0 n0 c0] 49)) := (Below.refl _ _).alloc (Nat.le_refl _) _
    have b_1 := below_then b_0 hb_1
    clear b_0
    have a0_1 := a0_0.after hb_1
    clear a0_0
    have a1_1 := a1_0.after hb_1
    clear a1_0
    clear hb_1
    have bx0_1 : Box (w.alloc (.cells #[.slice A0 n0 c0] 49)) w.heap.size (.slice A0 n0 c0) := Box.new _ _ _
    go_enter Tryzx.func5, Tryz.ntmps5
    go_wp2_with fail
    refine (sz1_any (n := n0) (by omega) (fun h => szArch_ok A0 n0 c0 _ _ (by omega) (by omega) hm0' h) (fun h => szArch_no A0 n0 c0 _ _ (by omega) (by omega) hm0' h)).mono ?_
    rintro e w2 ⟨r2, rfl, hb_2, hr2⟩
    have b_2 := below_then b_1 hb_2
    clear b_1
    have a0_2 := a0_1.after hb_2
    clear a0_1
    have a1_2 := a1_1.after hb_2
    clear a1_1
    have bx0_2 := bx0_1.after hb_2
    clear bx0_1
    have cbx0_2 := bx0_2.1
    clear hb_2
    rcases hr2 with rfl | hr2
    · go_wp2
      go_ret
      exact ⟨rfl, b_2⟩
    obtain ⟨hr2a, hr2b, hr2c⟩ := hr2
    have hn0 : n0 ≤ 1048576 := by omega
    have ht0 : ¬ r2 < 0 := by omega
    go_wp2_with fail
    refine (toArch_any A0 n0 c0 z0 _ a0_2 hn0).mono ?_
    rintro e w3 ⟨g3, rfl, _, r_3, hb_3⟩
    have b_3 := below_then b_2 hb_3
    clear b_2
    have a0_3 := a0_2.after hb_3
    clear a0_2
    have a1_3 := a1_2.after hb_3
    clear a1_2
    have bx0_3 := bx0_2.after hb_3
    clear bx0_2
    have cbx0_3 := bx0_3.1
    clear cbx0_2
    have s0_3 := recsAt_row r_3 a0_.1 (fun k _ => rfl)
    clear r_3 hb_3
    go_wp2_with fail
    refine (toIntS_ex A1 n1 c1 z1 _ a1_3 hn1).mono ?_
    rintro e w4 ⟨g4, rfl, _, s1_4, hb_4⟩
    have b_4 := below_then b_3 hb_4
    clear b_3
    have a0_4 := a0_3.after hb_4
    clear a0_3
    have a1_4 := a1_3.after hb_4
    clear a1_3
    have bx0_4 := bx0_3.after hb_4
    clear bx0_3
    have s0_4 := s0_3.after hb_4
    clear s0_3
    have cbx0_4 := bx0_4.1
    clear cbx0_3
    clear hb_4
    go_wp2_with fail
    refine (sStageStands_any _ _ _ z0 _ _ _ z1 _ s0_4 hn0 s1_4 hn1).mono ?_
    rintro e w5 ⟨rfl, hb_5⟩
    have b_5 := below_then b_4 hb_5
    clear b_4
    have a0_5 := a0_4.after hb_5
    clear a0_4
    have a1_5 := a1_4.after hb_5
    clear a1_4
    have bx0_5 := bx0_4.after hb_5
    clear bx0_4
    have s0_5 := s0_4.after hb_5
    clear s0_4
    have s1_5 := s1_4.after hb_5
    clear s1_4
    have cbx0_5 := bx0_5.1
    clear cbx0_4
    clear hb_5
    clear s0_5
    clear s1_5
    go_wp2_with fail
    refine (toArch_any A0 n0 c0 z0 _ a0_5 hn0).mono ?_
    rintro e w6 ⟨g6, rfl, _, r_6, hb_6⟩
    have b_6 := below_then b_5 hb_6
    clear b_5
    have a0_6 := a0_5.after hb_6
    clear a0_5
    have a1_6 := a1_5.after hb_6
    clear a1_5
    have bx0_6 := bx0_5.after hb_6
    clear bx0_5
    have cbx0_6 := bx0_6.1
    clear cbx0_5
    have s0_6 := recsAt_row r_6 a0_.1 (fun k _ => rfl)
    clear r_6 hb_6
    have hb_7 : Below w6.heap.size w6 (w6.alloc (.cells #[.slice (some ⟨g6, 0, none⟩) n0 n0] 26)) := (Below.refl _ _).alloc (Nat.le_refl _) _
    have b_7 := below_then b_6 hb_7
    clear b_6
    have a0_7 := a0_6.after hb_7
    clear a0_6
    have a1_7 := a1_6.after hb_7
    clear a1_6
    have bx0_7 := bx0_6.after hb_7
    clear bx0_6
    have s0_7 := s0_6.after hb_7
    clear s0_6
    have cbx0_7 := bx0_7.1
    clear cbx0_6
    clear hb_7
    have by0_7 : Box (w6.alloc (.cells #[.slice (some ⟨g6, 0, none⟩) n0 n0] 26)) w6.heap.size (.slice (some ⟨g6, 0, none⟩) n0 n0) := Box.new _ _ _
    have cby0_7 := by0_7.1
    go_wp2_with fail
    refine (toIntS_ex A1 n1 c1 z1 _ a1_7 hn1).mono ?_
    rintro e w8 ⟨g8, rfl, _, s1_8, hb_8⟩
    have b_8 := below_then b_7 hb_8
    clear b_7
    have a0_8 := a0_7.after hb_8
    clear a0_7
    have a1_8 := a1_7.after hb_8
    clear a1_7
    have bx0_8 := bx0_7.after hb_8
    clear bx0_7
    have s0_8 := s0_7.after hb_8
    clear s0_7
    have by0_8 := by0_7.after hb_8
    clear by0_7
    have cbx0_8 := bx0_8.1
    clear cbx0_7
    have cby0_8 := by0_8.1
    clear cby0_7
    clear hb_8
    go_wp2_with fail
    refine (iStageStands_any _ _ _ z0 _ _ _ z1 _ s0_8 hn0 s1_8 hn1).mono ?_
    rintro e w9 ⟨rfl, hb_9⟩
    have b_9 := below_then b_8 hb_9
    clear b_8
    have a0_9 := a0_8.after hb_9
    clear a0_8
    have a1_9 := a1_8.after hb_9
    clear a1_8
    have bx0_9 := bx0_8.after hb_9
    clear bx0_8
    have s0_9 := s0_8.after hb_9
    clear s0_8
    have by0_9 := by0_8.after hb_9
    clear by0_8
    have s1_9 := s1_8.after hb_9
    clear s1_8
    have cbx0_9 := bx0_9.1
    clear cbx0_8
    have cby0_9 := by0_9.1
    clear cby0_8
    clear hb_9
    go_wp2_with fail
    go_region_held3 (fun w' => w'.cell? ⟨w6.heap.size, 0, none⟩ = some (.slice (some ⟨g6, 0, none⟩) n0 n0) ∧ w'.cell? ⟨w.heap.size, 0, none⟩ = some (.slice A0 n0 c0)) (first | exact ⟨cby0_9, cbx0_9⟩ | exact ⟨dy0_1, dx0_1⟩ | exact ⟨dy0_2, dx0_2⟩) ((first | (go_at_call 28; refine (toArch_any A0 n0 c0 z0 _ (by exact a0_9) hn0).mono ?_; rintro e w10 ⟨g10, rfl, _, r_10, hbx10⟩; have hb_10 := below_undrew hbx10; have e0_1 := s0_9.after hb_10; have v0_1 := recsAt_row r_10 a0_.1 (fun k _ => rfl); have dy0_1 := (by0_9.after hb_10).1; have dx0_1 := (bx0_9.after hb_10).1) | (go_at_call 30; refine (eqArch_same _ _ _ _ _ z0 _ (by exact e0_1) (by exact v0_1) hn0).mono ?_; rintro e w11 ⟨rfl, hb_11⟩; have dy0_2 := ((by0_9.after hb_10).after hb_11).1; have dx0_2 := ((bx0_9.after hb_10).after hb_11).1)))
    have b_10 := below_then b_9 hb_10
    clear b_9
    have a0_10 := a0_9.after hb_10
    clear a0_9
    have a1_10 := a1_9.after hb_10
    clear a1_9
    have bx0_10 := bx0_9.after hb_10
    clear bx0_9
    have s0_10 := s0_9.after hb_10
    clear s0_9
    have by0_10 := by0_9.after hb_10
    clear by0_9
    have s1_10 := s1_9.after hb_10
    clear s1_9
    have cbx0_10 := bx0_10.1
    clear cbx0_9
    have cby0_10 := by0_10.1
    clear cby0_9
    have b_11 := below_then b_10 hb_11
    clear b_10
    have a0_11 := a0_10.after hb_11
    clear a0_10
    have a1_11 := a1_10.after hb_11
    clear a1_10
    have bx0_11 := bx0_10.after hb_11
    clear bx0_10
    have s0_11 := s0_10.after hb_11
    clear s0_10
    have by0_11 := by0_10.after hb_11
    clear by0_10
    have s1_11 := s1_10.after hb_11
    clear s1_10
    have cbx0_11 := bx0_11.1
    clear cbx0_10
    have cby0_11 := by0_11.1
    clear cby0_10
    clear hb_10 hb_11
    go_wp2_with fail
    refine (toIntS_ex A1 n1 c1 z1 _ a1_11 hn1).mono ?_
    rintro e w12 ⟨g12, rfl, _, t1_12, hb_12⟩
    have b_12 := below_then b_11 hb_12
    clear b_11
    have a0_12 := a0_11.after hb_12
    clear a0_11
    have a1_12 := a1_11.after hb_12
    clear a1_11
    have bx0_12 := bx0_11.after hb_12
    clear bx0_11
    have s0_12 := s0_11.after hb_12
    clear s0_11
    have by0_12 := by0_11.after hb_12
    clear by0_11
    have s1_12 := s1_11.after hb_12
    clear s1_11
    have cbx0_12 := bx0_12.1
    clear cbx0_11
    have cby0_12 := by0_12.1
    clear cby0_11
    clear hb_12
    go_wp2_with fail
    refine (eqIntS_any _ _ _ _ _ _ z1 z1 _ s1_12 t1_12 hn1 hn1).mono ?_
    rintro e w13 ⟨e13, hb_13⟩
    rw [eqL_refl] at e13
    subst e13
    have b_13 := below_then b_12 hb_13
    clear b_12
    have a0_13 := a0_12.after hb_13
    clear a0_12
    have a1_13 := a1_12.after hb_13
    clear a1_12
    have bx0_13 := bx0_12.after hb_13
    clear bx0_12
    have s0_13 := s0_12.after hb_13
    clear s0_12
    have by0_13 := by0_12.after hb_13
    clear by0_12
    have s1_13 := s1_12.after hb_13
    clear s1_12
    have t1_13 := t1_12.after hb_13
    clear t1_12
    have cbx0_13 := bx0_13.1
    clear cbx0_12
    have cby0_13 := by0_13.1
    clear cby0_12
    clear hb_13
    go_wp2
    go_ret
    exact ⟨rfl, b_13⟩
  · have ht1 : (1048576 : Int) < (n1 : Int) := by omega
    go_enter Tryzx.func5, Tryz.ntmps5
    go_wp2
    go_ret
    exact ⟨rfl, (below_box b_0)⟩
end Go.Proofs.YtbpnbhemdbgmjaaGreat.X
end
