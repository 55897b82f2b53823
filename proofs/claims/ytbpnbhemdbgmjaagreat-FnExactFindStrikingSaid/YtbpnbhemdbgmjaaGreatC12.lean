/-
  Texts that the law stands on, part 12.
-/
import Derived.Test.YtbpnbhemdbgmjaaGreatC1
import Derived.Test.YtbpnbhemdbgmjaaGreatC11
import Derived.Test.YtbpnbhemdbgmjaaGreatC10
import Derived.Deep.RegionHeld3
import Derived.Deep.QuietTactic
import Derived.BigQuiet
import Derived.BigRegion
import Derived.IntWalk
import Derived.Conc.WrSpec
import Derived.KernelRfl
set_option linter.unusedVariables false
set_option linter.unusedSimpArgs false
namespace Go.Proofs.YtbpnbhemdbgmjaaGreat
section
open Go.RowKit
theorem magnitude_any (a : Int) (w : World) (ha : okG a) : Calls Tryz.prog 123 #[.int .i64 a] w fun e w' => e = .returned (.int .u64 (a.natAbs : Nat)) ∧ w = w' := by
 go_enter Tryz.func123, Tryz.ntmps123
 go_wp2
 all_goals
  go_ret
  first
  | exact ⟨ret_int (u64_neg ha (by assumption)), rfl⟩
  | exact ⟨ret_int (u64_pos ha (by assumption)), rfl⟩
set_option maxHeartbeats 400000 in
theorem commonDivisor_any (A : Option Addr) (n c : Nat) (L : List Int) (w : World) (h : IntsAt w w.heap.size A n L) (hn : n ≤ 1048576) (hL : ∀ k, okG (nth L k)) :
  Calls Tryz.prog 78 #[.slice A n c] w fun e w' => e = .returned (.int .i64 (gcdTo L n : Nat)) ∧ ∃ n, w' = w.drewN n := by
 have H := Lib.hid h
 have HL := Lib.hid hL
 have HGL : Hid (∀ k, okU (gcdTo L k)) := fun k => okU_gcdTo hL k
 clear h hL
 go_enter Tryz.func78, Tryz.ntmps78
 go_wp2
 go_loopw [3, 9] (fun x i wr => ∃ (k : Nat), k ≤ n ∧ i = .int .i64 k ∧ x = .int .u64 (gcdTo L k : Nat) ∧ Hid (∃ n, wr = w.drewN n)) (fun _ i _ => n - (intOf i).toNat)
 case atStart => exact ⟨0, Nat.zero_le _, rfl, rfl, Lib.hid ⟨0, rfl⟩⟩
 case round =>
  obtain ⟨k, hk, rfl, rfl, HW⟩ := hrel
  by_cases hlt : k < n
  ·obtain ⟨b, off, rfl, hbB, hc⟩ := H.out.2 (by omega)
   have x0 : wr.cell? ⟨b, off + k, none⟩ = some (.int .i64 (nth L k)) := by
    obtain ⟨n', rfl⟩ := HW.out
    exact hc k hlt
   have ho := HL.out k
   have HS : Hid (gcdTo L (k + 1) = Nat.gcd (gcdTo L k) (nth L k).natAbs) := rfl
   have hu := HGL.out k
   have hm := okU_nat ho
   clear hc
   go_wp2_with fail
   refine (magnitude_any _ _ ho).mono ?_
   rintro e w' ⟨rfl, rfl⟩
   generalize gcdTo L k = d0 at *
   generalize (nth L k).natAbs = m0 at *
   go_wp2
   go_loopw [3, 6] (fun x y wr => ∃ (d m : Nat), x = .int .u64 d ∧ y = .int .u64 m ∧ Hid (Nat.gcd d m = Nat.gcd d0 m0) ∧ okU d ∧ okU m ∧ Hid (∃ n, wr = w.drewN n)) (fun _ y _ => (intOf y).toNat)
   case atStart => exact ⟨d0, m0, rfl, rfl, Lib.hid rfl, hu, hm, HW⟩
   case round =>
    clear HW hu hm
    obtain ⟨d, m, rfl, rfl, HG, hd, hm, HW⟩ := hrel
    by_cases h0 : m = 0
    ·subst h0
     have HF : Hid (gcdTo L (k + 1) = d) := by
      have h := HG.out
      rw [Nat.gcd_zero_right] at h
      show _ = _
      rw [HS.out, h]
     clear HG hm
     go_wp2
     go_roundw
     case rel => exact ⟨k + 1, by omega, by go_num, by rw [HF.out], HW⟩
     case measure => simp [intOf]; omega
    ·have hd1 : ((m : Int) != 0) = true := by simp [h0]
     have hd2 : ((m : Int) == 0) = false := by simp [h0]
     have hd3 : ¬ (m : Int) = 0 := by omega
     have he : Int.tmod (d : Int) (m : Int) = ((d % m : Nat) : Int) := by rw [Int.tmod_eq_emod_of_nonneg (by omega)]; rfl
     have HG2 : Hid (Nat.gcd m (d % m) = Nat.gcd d0 m0) := by
      show _ = _
      rw [gcd_round]; exact HG.out
     have HM : Hid (d % m < m) := Nat.mod_lt _ (by omega)
     have ho2 := okU_mod (d := d) h0 hm
     clear HG
     go_wp2
     go_quiet (fail)
     go_wp2
     go_roundw
     case rel => exact ⟨m, d % m, rfl, rfl, HG2, hm, ho2, by obtain ⟨n, rfl⟩ := HW.out; exact Lib.hid ⟨_, World.drewN_drewN _ _ _⟩⟩
     case measure => simp [intOf]; exact HM.out
  ·obtain rfl : n = k := by omega
   have hu := u64_to_i64 (HGL.out n)
   go_wp2
   go_ret
   exact ⟨rfl, HW.out⟩
theorem okG_of {a : Int} (h : -10000000000000 ≤ a ∧ a ≤ 10000000000000) : okG a := by unfold okG; omega
theorem okG_gcd {a b : Int} (ha : okG a) (hb : okG b) : okG (Nat.gcd a.natAbs b.natAbs : Nat) := by
 have h1 := okU_gcdTo (L := [a, b]) (fun k => match k with | 0 => ha | 1 => hb | k + 2 => by simp [nth, List.getD, okG]) 2
 rw [gcdTo_2] at h1
 unfold okU at h1
 unfold okG
 omega
theorem okG_nth4 {a b c d : Int} (ha : okG a) (hb : okG b) (hc : okG c) (hd : okG d) : ∀ k, okG (nth [a, b, c, d] k)
 | 0 => ha
 | 1 => hb
 | 2 => hc
 | 3 => hd
 | k + 4 => by simp [nth, List.getD, okG]
theorem gcd_one (x : Nat) : (((x : Nat) : Int) == 1) = decide (x = 1) := by
 rw [Bool.eq_iff_iff]
 simp
 omega
set_option maxRecDepth 100000 in
set_option maxHeartbeats 1600000 in
theorem iThrustOk_any (H V M D : Int) (w : World) :
  Calls Tryz.prog 74 #[.agg #[.int .i64 H, .int .i64 V, .int .i64 M, .int .i64 D]] w fun e w' => e = .returned (.bool (thrB H V M D)) ∧ Below w.heap.size w w' := by
 have HA := Lib.hid ((Below.refl w.heap.size w).alloc (Nat.le_refl _) (.cells #[.int .i64 H, .int .i64 V, .int .i64 M, .int .i64 D] 31))
 cases h1 : inB D 1 1000000
 ·have HF := Lib.hid (thrB_1 H V M h1)
  go_enter Tryz.func74, Tryz.ntmps74
  go_wp2_with (go_at_call 112; refine (within_any _ _ _ _).mono ?_; rw [h1]; rintro e w' ⟨rfl, rfl⟩)
  go_ret
  exact ⟨ret_bool HF.out.symm, HA.out⟩
 cases h2 : inB H 0 1000000000000
 ·have HF := Lib.hid (thrB_2 V M D h2)
  go_enter Tryz.func74, Tryz.ntmps74
  go_wp2_with (go_at_call 112; refine (within_any _ _ _ _).mono ?_; (first | rw [h1] | rw [h2]); rintro e w' ⟨rfl, rfl⟩)
  go_ret
  exact ⟨ret_bool HF.out.symm, HA.out⟩
 cases h3 : inB V (-10000000000000) 10000000000000
 ·have HF := Lib.hid (thrB_3 H M D h3)
  go_enter Tryz.func74, Tryz.ntmps74
  go_wp2_with (go_at_call 112; refine (within_any _ _ _ _).mono ?_; (first | rw [h1] | rw [h2] | rw [h3]); rintro e w' ⟨rfl, rfl⟩)
  go_ret
  exact ⟨ret_bool HF.out.symm, HA.out⟩
 cases h4 : inB M (-10000000000000) 10000000000000
 ·have HF := Lib.hid (thrB_4 H V D h4)
  go_enter Tryz.func74, Tryz.ntmps74
  go_wp2_with (go_at_call 112; refine (within_any _ _ _ _).mono ?_; (first | rw [h1] | rw [h2] | rw [h3] | rw [h4]); rintro e w' ⟨rfl, rfl⟩)
  go_ret
  exact ⟨ret_bool HF.out.symm, HA.out⟩
 have HT : Hid (decide (gcdTo [H, V, M, D] 4 = 1) = thrB H V M D) := by
  show _ = _
  rw [thrB_t h1 h2 h3 h4, gcdTo_4]
 have HOK : Hid (∀ k, okG (nth [H, V, M, D] k)) := by
  have b1 := inB_iff.1 h1
  have b2 := inB_iff.1 h2
  have b3 := inB_iff.1 h3
  have b4 := inB_iff.1 h4
  exact okG_nth4 (okG_of (by omega)) (okG_of (by omega)) (okG_of (by omega)) (okG_of (by omega))
 go_enter Tryz.func74, Tryz.ntmps74
 go_wp2_with (go_at_call 112; refine (within_any _ _ _ _).mono ?_; (first | rw [h1] | rw [h2] | rw [h3] | rw [h4]); rintro e w' ⟨rfl, rfl⟩)
 have hx : IntsAt ((w.alloc (.cells #[.int .i64 H, .int .i64 V, .int .i64 M, .int .i64 D] 31)).alloc (.cells #[.int .i64 H, .int .i64 V, .int .i64 M, .int .i64 D] 3)) ((w.alloc (.cells #[.int .i64 H, .int .i64 V, .int .i64 M, .int .i64 D] 31)).alloc (.cells #[.int .i64 H, .int .i64 V, .int .i64 M, .int .i64 D] 3)).heap.size (some ⟨w.heap.size + 1, 0, none⟩) 4 [H, V, M, D] := by
  have h := intsAt_row (World.rowIs_alloc (w.alloc (.cells #[.int .i64 H, .int .i64 V, .int .i64 M, .int .i64 D] 31)) #[.int .i64 H, .int .i64 V, .int .i64 M, .int .i64 D] 3 (ints [H, V, M, D]) (fun j hj => by simp at hj; match j, hj with | 0, _ => rfl | 1, _ => rfl | 2, _ => rfl | 3, _ => rfl)) (zs := [H, V, M, D]) (by simp) (fun k _ => rfl)
  simp only [World.size_alloc] at h ⊢
  exact h
 refine (commonDivisor_any _ _ _ [H, V, M, D] _ (by exact hx) (by omega) HOK.out).mono ?_
 rintro e w1 ⟨rfl, n1, rfl⟩
 have HG := Lib.hid (gcd_one (gcdTo [H, V, M, D] 4))
 clear hx
 generalize gcdTo [H, V, M, D] 4 = g0 at *
 go_wp2
 go_ret
 exact ⟨ret_bool (by rw [← HT.out]; first | exact HG.out | simp), below_drewN (HA.out.alloc (by simp) _) _⟩
end
section
open Go.RowKit
def Box4 (w : World) (b : Nat) (H V M D : Int) : Prop := (w.cell? ⟨b, 0, none⟩ = some (.int .i64 H) ∧ w.cell? ⟨b, 1, none⟩ = some (.int .i64 V) ∧ w.cell? ⟨b, 2, none⟩ = some (.int .i64 M) ∧ w.cell? ⟨b, 3, none⟩ = some (.int .i64 D)) ∧ b < w.heap.size
theorem Box4.after {w w1 : World} {b : Nat} {H V M D : Int} (h : Box4 w b H V M D) (hb : Below w.heap.size w w1) : Box4 w1 b H V M D :=
 ⟨⟨(hb.cell (p := ⟨b, 0, none⟩) h.2).trans h.1.1, (hb.cell (p := ⟨b, 1, none⟩) h.2).trans h.1.2.1, (hb.cell (p := ⟨b, 2, none⟩) h.2).trans h.1.2.2.1, (hb.cell (p := ⟨b, 3, none⟩) h.2).trans h.1.2.2.2⟩, Nat.lt_of_lt_of_le h.2 hb.size⟩
theorem Box4.new (w : World) (H V M D : Int) (t : TypeId) : Box4 (w.alloc (.cells #[.int .i64 H, .int .i64 V, .int .i64 M, .int .i64 D] t)) w.heap.size H V M D := by
 have h := World.rowIs_alloc w #[.int .i64 H, .int .i64 V, .int .i64 M, .int .i64 D] t (ints [H, V, M, D]) (fun j hj => by simp at hj; match j, hj with | 0, _ => rfl | 1, _ => rfl | 2, _ => rfl | 3, _ => rfl)
 exact ⟨⟨h.cell (by simp), h.cell (by simp), h.cell (by simp), h.cell (by simp)⟩, by simp⟩
structure AT (w wr : World) (v : Value) (H V M D : Int) : Prop where
 arch : Box wr w.heap.size v
 thr : Box4 wr (w.heap.size + 1) H V M D
 below : Below w.heap.size w wr
theorem AT.after {w wr w1 : World} {v : Value} {H V M D : Int} (h : AT w wr v H V M D) (hb : Below wr.heap.size wr w1) : AT w w1 v H V M D := ⟨h.arch.after hb, h.thr.after hb, h.below.trans (hb.mono h.below.size)⟩
theorem AT.start (w : World) (v : Value) (H V M D : Int) (T U : TypeId) : AT w ((w.alloc (.cells #[v] T)).alloc (.cells #[.int .i64 H, .int .i64 V, .int .i64 M, .int .i64 D] U)) v H V M D := by
 refine ⟨(Box.new w v T).alloc _, ?_, ((Below.refl _ _).alloc (Nat.le_refl _) _).alloc (by simp) _⟩
 have h := Box4.new (w.alloc (.cells #[v] T)) H V M D U
 rw [World.size_alloc] at h
 exact h
end
section
open Go.RowKit
structure SideBd (a b c d H V M D : Int) : Prop where
 aH : -100000000000000 ≤ a * H ∧ a * H ≤ 100000000000000
 bV : -1000000000000000 ≤ b * V ∧ b * V ≤ 1000000000000000
 cM : -10000000000000 ≤ c * M ∧ c * M ≤ 10000000000000
 dD : -1000000000000000 ≤ d * D ∧ d * D ≤ 1000000000000000
theorem sideBd {a b c d H V M D : Int} (ht : thrB H V M D = true) (hr : rowB a b c d = true) : SideBd a b c d H V M D := by
 obtain ⟨h1, h2, h3, h4, _⟩ := thrB_out ht
 rw [rowB_iff] at hr
 have e1 := mul_bd (a := a) (b := H) (m := 100) (n := 1000000000000) (by omega) (by omega)
 have e2 := mul_bd (a := b) (b := V) (m := 100) (n := 10000000000000) (by omega) (by omega)
 have e3 := mul_bd (a := c) (b := M) (m := 1) (n := 10000000000000) (by omega) (by omega)
 have e4 := mul_bd (a := d) (b := D) (m := 1000000000) (n := 1000000) (by omega) (by omega)
 exact ⟨by omega, by omega, by omega, by omega⟩
def metB (a b c d H V M D : Int) : Bool := decide (a * H + b * V + c * M ≤ d * D)
def fulB (a b c d H V M D : Int) : Bool := thrB H V M D && (rowB a b c d && metB a b c d H V M D)
theorem fulB_1 (a b c d : Int) {H V M D : Int} (h : thrB H V M D = false) : fulB a b c d H V M D = false := by simp [fulB, h]
theorem fulB_2 {a b c d : Int} (H V M D : Int) (h : rowB a b c d = false) : fulB a b c d H V M D = false := by simp [fulB, h]
theorem fulB_t {a b c d H V M D : Int} (h : thrB H V M D = true) (h2 : rowB a b c d = true) : fulB a b c d H V M D = metB a b c d H V M D := by simp [fulB, h, h2]
def fulAt (rs : List Int) (H V M D : Int) (i : Nat) : Bool := fulB (nth rs (i * 4)) (nth rs (i * 4 + 1)) (nth rs (i * 4 + 2)) (nth rs (i * 4 + 3)) H V M D
def fulAll (rs : List Int) (n : Nat) (H V M D : Int) : Bool := inB (n : Int) 1 40 && allB (fulAt rs H V M D) n
theorem fulAll_1 (rs : List Int) {n : Nat} (H V M D : Int) (h : inB (n : Int) 1 40 = false) : fulAll rs n H V M D = false := by simp [fulAll, h]
theorem fulAll_2 {rs : List Int} {n k : Nat} {H V M D : Int} (hk : k < n) (h : fulAt rs H V M D k = false) : fulAll rs n H V M D = false := by simp [fulAll, allB_f hk h]
theorem fulAll_t {rs : List Int} {n : Nat} {H V M D : Int} (h1 : inB (n : Int) 1 40 = true) (h : allTo (fulAt rs H V M D) n) : fulAll rs n H V M D = true := by simp [fulAll, h1, allB_t h]
theorem rwCells {wr : World} {b off n j : Nat} {zs : List Int} (hc : ∀ i, i < n * 4 → wr.cell? ⟨b, off + i, none⟩ = some (.int .i64 (nth zs i))) (hj : j < n) :
  wr.cell? ⟨b, off + j * 4, none⟩ = some (.int .i64 (nth zs (j * 4))) ∧ wr.cell? ⟨b, off + j * 4 + 1, none⟩ = some (.int .i64 (nth zs (j * 4 + 1))) ∧ wr.cell? ⟨b, off + j * 4 + 2, none⟩ = some (.int .i64 (nth zs (j * 4 + 2))) ∧ wr.cell? ⟨b, off + j * 4 + 3, none⟩ = some (.int .i64 (nth zs (j * 4 + 3))) :=
 ⟨hc (j * 4) (by omega), hc (j * 4 + 1) (by omega), hc (j * 4 + 2) (by omega), hc (j * 4 + 3) (by omega)⟩
set_option maxRecDepth 100000 in
set_option maxHeartbeats 1600000 in
theorem iRowOk_any (a b c d : Int) (w : World) :
  Calls Tryz.prog 143 #[.agg #[.int .i64 a, .int .i64 b, .int .i64 c, .int .i64 d]] w fun e w' => e = .returned (.bool (rowB a b c d)) ∧ Below w.heap.size w w' := by
 have HA := Lib.hid ((Below.refl w.heap.size w).alloc (Nat.le_refl _) (.cells #[.int .i64 a, .int .i64 b, .int .i64 c, .int .i64 d] 65))
 cases h1 : inB a (-100) 100
 ·have HF := Lib.hid (rowB_1 b c d h1)
  go_enter Tryz.func143, Tryz.ntmps143
  go_wp2_with (go_at_call 112; refine (within_any _ _ _ _).mono ?_; (first | rw [h1]); rintro e w' ⟨rfl, rfl⟩)
  go_ret
  exact ⟨ret_bool HF.out.symm, HA.out⟩
 cases h2 : inB b (-100) 100
 ·have HF := Lib.hid (rowB_2 a c d h2)
  go_enter Tryz.func143, Tryz.ntmps143
  go_wp2_with (go_at_call 112; refine (within_any _ _ _ _).mono ?_; (first | rw [h1] | rw [h2]); rintro e w' ⟨rfl, rfl⟩)
  go_ret
  exact ⟨ret_bool HF.out.symm, HA.out⟩
 cases h3 : inB c (-1) 1
 ·have HF := Lib.hid (rowB_3 a b d h3)
  go_enter Tryz.func143, Tryz.ntmps143
  go_wp2_with (go_at_call 112; refine (within_any _ _ _ _).mono ?_; (first | rw [h1] | rw [h2] | rw [h3]); rintro e w' ⟨rfl, rfl⟩)
  go_ret
  exact ⟨ret_bool HF.out.symm, HA.out⟩
 have HF := Lib.hid (rowB_t d h1 h2 h3)
 generalize hd : inB d (-1000000000) 1000000000 = u at *
 go_enter Tryz.func143, Tryz.ntmps143
 go_wp2_with (go_at_call 112; refine (within_any _ _ _ _).mono ?_; (first | rw [h1] | rw [h2] | rw [h3] | rw [hd]); rintro e w' ⟨rfl, rfl⟩)
 go_ret
 exact ⟨ret_bool HF.out.symm, HA.out⟩
set_option maxRecDepth 100000 in
set_option maxHeartbeats 1600000 in
theorem rowsOk_any (A : Option Addr) (n c : Nat) (rs : List Int) (w : World) (h : RecsAt w w.heap.size 4 A n rs) (hn : n ≤ 1048576) :
  Calls Tryz.prog 113 #[.slice A n c] w fun e w' => e = .returned (.bool (allB (rowAt rs) n)) ∧ Below w.heap.size w w' := by
 have HL := Lib.hid h
 clear h
 go_enter Tryz.func113, Tryz.ntmps113
 go_wp2
 go_loopw [7] (fun i wr => ∃ k : Nat, k ≤ n ∧ i = .int .i64 k ∧ Hid (allTo (rowAt rs) k) ∧ Hid (Below w.heap.size w wr)) (fun i _ => n - (intOf i).toNat)
 case atStart => exact ⟨0, Nat.zero_le _, rfl, Lib.hid (allTo_0 _), Lib.hid (Below.refl _ _)⟩
 case round =>
  obtain ⟨k, hk, rfl, HP, HB⟩ := hrel
  by_cases hlt : k < n
  ·obtain ⟨b, off, rfl, hbB, hc⟩ := HL.out.2 (by omega)
   obtain ⟨x0, x1, x2, x3⟩ := rwCells (fun i hi => (HB.out.cell (by exact hbB)).trans (hc i hi)) hlt
   have hz := HB.out.size
   have HS := Lib.hid (fun e => allTo_step HP.out (k := k) e)
   have HF0 := Lib.hid (fun e => allB_f (p := rowAt rs) hlt e)
   have eR : rowAt rs k = rowB (nth rs (k * 4)) (nth rs (k * 4 + 1)) (nth rs (k * 4 + 2)) (nth rs (k * 4 + 3)) := rfl
   have ER := Lib.hid eR
   clear hc eR
   generalize nth rs (k * 4) = y0 at *
   generalize nth rs (k * 4 + 1) = y1 at *
   generalize nth rs (k * 4 + 2) = y2 at *
   generalize nth rs (k * 4 + 3) = y3 at *
   have HBA := Lib.hid (HB.out.alloc hz (.cells #[.int .i64 y0, .int .i64 y1, .int .i64 y2, .int .i64 y3] 65))
   obtain ⟨⟨z0, z1, z2, z3⟩, _⟩ := Box4.new wr y0 y1 y2 y3 65
   go_wp2_with fail
   refine (iRowOk_any _ _ _ _ _).mono ?_
   rintro e w1 ⟨rfl, hb1⟩
   have HB1 := Lib.hid (HBA.out.trans (hb1.mono (by simp; omega)))
   clear hb1
   cases g : rowB y0 y1 y2 y3
   ·have HF := Lib.hid (HF0.out (ER.out.trans g))
    go_wp2
    go_ret
    exact ⟨ret_bool HF.out.symm, HB1.out⟩
   ·have HS1 := Lib.hid (HS.out (ER.out.trans g))
    go_wp2
    go_roundw
    case rel => exact ⟨k + 1, by omega, by go_num, HS1, HB1⟩
    case measure => simp [intOf]; omega
  ·obtain rfl : k = n := by omega
   have HF := Lib.hid (allB_t HP.out)
   go_wp2
   go_ret
   exact ⟨ret_bool HF.out.symm, HB.out⟩
set_option maxRecDepth 100000 in
set_option maxHeartbeats 1600000 in
theorem sides_any (a b c d H V M D : Int) (w : World) (hb : SideBd a b c d H V M D) :
  Calls Tryz.prog 166 #[.agg #[.int .i64 a, .int .i64 b, .int .i64 c, .int .i64 d], .agg #[.int .i64 H, .int .i64 V, .int .i64 M, .int .i64 D]] w fun e w' => e = .returned (.tuple #[.int .i64 (a * H + b * V + c * M), .int .i64 (d * D)]) ∧ Below w.heap.size w w' := by
 obtain ⟨b1, b2, b3, b4⟩ := hb
 have HA := Lib.hid (((Below.refl w.heap.size w).alloc (Nat.le_refl _) (.cells #[.int .i64 a, .int .i64 b, .int .i64 c, .int .i64 d] 65)).alloc (by simp) (.cells #[.int .i64 H, .int .i64 V, .int .i64 M, .int .i64 D] 31))
 go_enter Tryz.func166, Tryz.ntmps166
 go_wp2_with fail
 go_quiet (fail)
 go_wp2
 go_ret2
 exact ⟨rfl, below_drewN HA.out _⟩
structure TRi (w wr : World) (a b c d H V M D : Int) : Prop where
 thr : Box4 wr w.heap.size H V M D
 row : Box4 wr (w.heap.size + 1) a b c d
 below : Below w.heap.size w wr
theorem TRi.after {w wr w1 : World} {a b c d H V M D : Int} (h : TRi w wr a b c d H V M D) (hb : Below wr.heap.size wr w1) : TRi w w1 a b c d H V M D := ⟨h.thr.after hb, h.row.after hb, h.below.trans (hb.mono h.below.size)⟩
theorem TRi.start (w : World) (a b c d H V M D : Int) (T U : TypeId) : TRi w ((w.alloc (.cells #[.int .i64 H, .int .i64 V, .int .i64 M, .int .i64 D] T)).alloc (.cells #[.int .i64 a, .int .i64 b, .int .i64 c, .int .i64 d] U)) a b c d H V M D := by
 refine ⟨(Box4.new w H V M D T).after ((Below.refl _ _).alloc (Nat.le_refl _) _), ?_, ((Below.refl _ _).alloc (Nat.le_refl _) _).alloc (by simp) _⟩
 have h := Box4.new (w.alloc (.cells #[.int .i64 H, .int .i64 V, .int .i64 M, .int .i64 D] T)) a b c d U
 rw [World.size_alloc] at h
 exact h
set_option maxRecDepth 100000 in
set_option maxHeartbeats 1600000 in
theorem iFulfills_any (a b c d H V M D : Int) (w : World) :
  Calls Tryz.prog 122 #[.agg #[.int .i64 H, .int .i64 V, .int .i64 M, .int .i64 D], .agg #[.int .i64 a, .int .i64 b, .int .i64 c, .int .i64 d]] w fun e w' => e = .returned (.bool (fulB a b c d H V M D)) ∧ Below w.heap.size w w' := by
 have HT := Lib.hid (TRi.start w a b c d H V M D 31 65)
 cases hT : thrB H V M D
 ·have HF := Lib.hid (fulB_1 a b c d hT)
  go_enter Tryz.func122, Tryz.ntmps122
  go_wp2_with fail
  refine (iThrustOk_any _ _ _ _ _).mono ?_
  rw [hT]
  rintro e w1 ⟨rfl, hb1⟩
  have HT1 := Lib.hid (HT.out.after hb1)
  clear hb1
  go_wp2
  go_ret
  exact ⟨ret_bool HF.out.symm, HT1.out.below⟩
 cases hR : rowB a b c d
 ·have HF := Lib.hid (fulB_2 H V M D hR)
  go_enter Tryz.func122, Tryz.ntmps122
  go_wp2_with fail
  refine (iThrustOk_any _ _ _ _ _).mono ?_
  rw [hT]
  rintro e w1 ⟨rfl, hb1⟩
  have HT1 := Lib.hid (HT.out.after hb1)
  obtain ⟨c0, c1, c2, c3⟩ := HT1.out.row.1
  clear hb1
  go_wp2_with fail
  refine (iRowOk_any _ _ _ _ _).mono ?_
  rw [hR]
  rintro e w2 ⟨rfl, hb2⟩
  have HT2 := Lib.hid (HT1.out.after hb2)
  clear hb2
  go_wp2
  go_ret
  exact ⟨ret_bool HF.out.symm, HT2.out.below⟩
 have HF := Lib.hid (fulB_t hT hR)
 have HS := Lib.hid (sideBd hT hR)
 go_enter Tryz.func122, Tryz.ntmps122
 go_wp2_with fail
 refine (iThrustOk_any _ _ _ _ _).mono ?_
 rw [hT]
 rintro e w1 ⟨rfl, hb1⟩
 have HT1 := Lib.hid (HT.out.after hb1)
 obtain ⟨c0, c1, c2, c3⟩ := HT1.out.row.1
 clear hb1
 go_wp2_with fail
 refine (iRowOk_any _ _ _ _ _).mono ?_
 rw [hR]
 rintro e w2 ⟨rfl, hb2⟩
 have HT2 := Lib.hid (HT1.out.after hb2)
 clear c0 c1 c2 c3 hb2
 obtain ⟨c0, c1, c2, c3⟩ := HT2.out.row.1
 obtain ⟨d0, d1, d2, d3⟩ := HT2.out.thr.1
 go_wp2_with fail
 refine (sides_any _ _ _ _ _ _ _ _ _ HS.out).mono ?_
 rintro e w3 ⟨rfl, hb3⟩
 have HT3 := Lib.hid (HT2.out.after hb3)
 clear c0 c1 c2 c3 d0 d1 d2 d3 hb3
 go_wp2
 go_ret
 exact ⟨ret_bool (by rw [HF.out]; try rfl), HT3.out.below⟩
structure TRs (w wr : World) (a b c d H V M D : Int) : Prop where
 thr : Box4 wr w.heap.size H V M D
 row : Box4 wr (w.heap.size + 1) a b c d
 below : Below w.heap.size w wr
theorem TRs.after {w wr w1 : World} {a b c d H V M D : Int} (h : TRs w wr a b c d H V M D) (hb : Below wr.heap.size wr w1) : TRs w w1 a b c d H V M D := ⟨h.thr.after hb, h.row.after hb, h.below.trans (hb.mono h.below.size)⟩
theorem TRs.start (w : World) (a b c d H V M D : Int) (T U : TypeId) : TRs w ((w.alloc (.cells #[.int .i64 H, .int .i64 V, .int .i64 M, .int .i64 D] T)).alloc (.cells #[.int .i64 a, .int .i64 b, .int .i64 c, .int .i64 d] U)) a b c d H V M D := by
 refine ⟨(Box4.new w H V M D T).after ((Below.refl _ _).alloc (Nat.le_refl _) _), ?_, ((Below.refl _ _).alloc (Nat.le_refl _) _).alloc (by simp) _⟩
 have h := Box4.new (w.alloc (.cells #[.int .i64 H, .int .i64 V, .int .i64 M, .int .i64 D] T)) a b c d U
 rw [World.size_alloc] at h
 exact h
set_option maxRecDepth 100000 in
set_option maxHeartbeats 1600000 in
theorem iFulfillsAll_any (A : Option Addr) (n c : Nat) (rs : List Int) (H V M D : Int) (w : World) (h : RecsAt w w.heap.size 4 A n rs) (hn : n ≤ 1048576) :
  Calls Tryz.prog 77 #[.agg #[.int .i64 H, .int .i64 V, .int .i64 M, .int .i64 D], .slice A n c] w fun e w' => e = .returned (.bool (fulAll rs n H V M D)) ∧ Below w.heap.size w w' := by
 have HL := Lib.hid h
 have BX := Lib.hid (Box4.new w H V M D 31)
 have B0 := Lib.hid ((Below.refl w.heap.size w).alloc (Nat.le_refl _) (.cells #[.int .i64 H, .int .i64 V, .int .i64 M, .int .i64 D] 31))
 clear h
 cases hI : inB (n : Int) 1 40
 ·have HF := Lib.hid (fulAll_1 rs H V M D hI)
  go_enter Tryz.func77, Tryz.ntmps77
  go_wp2_with (go_at_call 112; refine (within_any _ _ _ _).mono ?_; rw [hI]; rintro e w' ⟨rfl, rfl⟩)
  go_ret
  exact ⟨ret_bool HF.out.symm, B0.out⟩
 have HT0 := Lib.hid (fun e => fulAll_t (rs := rs) (H := H) (V := V) (M := M) (D := D) hI e)
 go_enter Tryz.func77, Tryz.ntmps77
 go_wp2_with (go_at_call 112; refine (within_any _ _ _ _).mono ?_; rw [hI]; rintro e w' ⟨rfl, rfl⟩)
 go_loopw [13] (fun i wr => ∃ k : Nat, k ≤ n ∧ i = .int .i64 k ∧ Hid (allTo (fulAt rs H V M D) k) ∧ Hid (Box4 wr w.heap.size H V M D) ∧ Hid (Below w.heap.size w wr)) (fun i _ => n - (intOf i).toNat)
 case atStart => exact ⟨0, Nat.zero_le _, rfl, Lib.hid (allTo_0 _), BX, B0⟩
 case round =>
  clear BX B0
  obtain ⟨k, hk, rfl, HP, HX, HB⟩ := hrel
  by_cases hlt : k < n
  ·obtain ⟨b, off, rfl, hbB, hc⟩ := HL.out.2 (by omega)
   obtain ⟨x0, x1, x2, x3⟩ := rwCells (fun i hi => (HB.out.cell (by exact hbB)).trans (hc i hi)) hlt
   have hz := HB.out.size
   have HS := Lib.hid (fun e => allTo_step HP.out (k := k) e)
   have HF0 := Lib.hid (fun e => fulAll_2 (rs := rs) (H := H) (V := V) (M := M) (D := D) hlt e)
   have eR : fulAt rs H V M D k = fulB (nth rs (k * 4)) (nth rs (k * 4 + 1)) (nth rs (k * 4 + 2)) (nth rs (k * 4 + 3)) H V M D := rfl
   have ER := Lib.hid eR
   clear hc eR
   generalize nth rs (k * 4) = y0 at *
   generalize nth rs (k * 4 + 1) = y1 at *
   generalize nth rs (k * 4 + 2) = y2 at *
   generalize nth rs (k * 4 + 3) = y3 at *
   have HBA := Lib.hid (HB.out.alloc hz (.cells #[.int .i64 y0, .int .i64 y1, .int .i64 y2, .int .i64 y3] 65))
   have HXA := Lib.hid (HX.out.after ((Below.refl _ _).alloc (Nat.le_refl _) (.cells #[.int .i64 y0, .int .i64 y1, .int .i64 y2, .int .i64 y3] 65)))
   obtain ⟨⟨z0, z1, z2, z3⟩, _⟩ := Box4.new wr y0 y1 y2 y3 65
   obtain ⟨c0, c1, c2, c3⟩ := HXA.out.1
   go_wp2_with fail
   refine (iFulfills_any _ _ _ _ _ _ _ _ _).mono ?_
   rintro e w1 ⟨rfl, hb1⟩
   have HB1 := Lib.hid (HBA.out.trans (hb1.mono (by first | (simp; omega) | omega)))
   have HX1 := Lib.hid (HXA.out.after hb1)
   clear hb1 c0 c1 c2 c3
   cases g : fulB y0 y1 y2 y3 H V M D
   ·have HF := Lib.hid (HF0.out (ER.out.trans g))
    go_wp2
    go_ret
    exact ⟨ret_bool HF.out.symm, HB1.out⟩
   ·have HS1 := Lib.hid (HS.out (ER.out.trans g))
    go_wp2
    go_roundw
    case rel => exact ⟨k + 1, by omega, by go_num, HS1, HX1, HB1⟩
    case measure => simp [intOf]; omega
  ·obtain rfl : k = n := by omega
   have HF := Lib.hid (HT0.out HP.out)
   go_wp2
   go_ret
   exact ⟨ret_bool HF.out.symm, HB.out⟩
end
section
open Go.RowKit
open Go.Conc
def rowsB (n : Nat) (rs : List Int) : Bool := inB n 3 20 && allB (rowAt rs) n
theorem infoThrS : (Tryz.prog.info? 34).map (fun i => (i.zero, i.size, i.bytes)) = some (some (.slice none 0 0), 1, 24) := by kernel_rfl
theorem run_make_thrs (n : Nat) (hn : n ≤ 1048576) (w : World) : (Instr.makeSlice 134 (.int .i64 (n : Int)) (.int .i64 (n : Int))).run Tryz.prog w = .ok (.slice (some ⟨w.heap.size, 0, none⟩) n n) (w.alloc (.cells (madeCells #[.slice none 0 0] n) 34)) := by
 obtain ⟨i0, hi0, hz0, hz1, hz2⟩ := info_parts infoThrS
 have h := run_make (P := Tryz.prog) w 134 34 i0 (.slice none 0 0) Tryz.underlying134 hi0 hz0 .i64 .i64 (n : Int) (n : Int) (by omega) (by omega) (by rw [hz2]; omega) (by omega)
 simpa [hz1, Value.cells] using h
noncomputable def pbody : Code := Tryz.f68.body.getD .skip
theorem at_0 (w : World) (a b c : Obj) : (((w.alloc a).alloc b).alloc c).heap[w.heap.size]? = some a := by
 rw [Below.heap_alloc _ _ _ (by simp; omega), Below.heap_alloc _ _ _ (by simp)]
 exact Array.getElem?_push_size ..
theorem at_1 (w : World) (a b c : Obj) : (((w.alloc a).alloc b).alloc c).heap[w.heap.size + 1]? = some b := by
 rw [Below.heap_alloc _ _ _ (by simp)]
 have : ((w.alloc a).alloc b).heap[(w.alloc a).heap.size]? = some b := Array.getElem?_push_size ..
 simpa using this
theorem at_2 (w : World) (a b c : Obj) : (((w.alloc a).alloc b).alloc c).heap[w.heap.size + 2]? = some c := by
 have : (((w.alloc a).alloc b).alloc c).heap[((w.alloc a).alloc b).heap.size]? = some c := Array.getElem?_push_size ..
 simpa using this
def PF (n c : Nat) (A : Option Addr) (w0 : World) (ts : Array Value) (w : World) : Prop :=
 ∃ rb fb wg C, ts.size = 55 ∧ Rn.Fresh ts ∧ ts[1]? = some (.pointer (some ⟨rb, 0, none⟩)) ∧ ts[3]? = some (.pointer (some ⟨fb, 0, none⟩)) ∧ ts[4]? = some (.pointer (some ⟨wg, 0, none⟩)) ∧ ts[24]? = some (.int .i64 n) ∧ ts[25]? = some (.int .i64 0) ∧
  (w0.heap.size ≤ rb ∧ w0.heap.size ≤ fb ∧ w0.heap.size ≤ wg ∧ w0.heap.size ≤ C) ∧ (rb ≠ fb ∧ rb ≠ wg ∧ rb ≠ C ∧ fb ≠ wg ∧ fb ≠ C ∧ wg ≠ C) ∧
  w.heap[rb]? = some (.cells #[.slice A n c] 61) ∧ w.heap[fb]? = some (.cells #[.slice (some ⟨C, 0, none⟩) n n] 134) ∧
  w.heap[C]? = some (.cells (madeCells #[.slice none 0 0] n) 34) ∧ w.heap[wg]? = some (Go.ConcR.wgBlock 144 0 0)
def PR (n c : Nat) (A : Option Addr) (rs : List Int) (w0 : World) (b : Bool) (v : Value) (w : World) : Prop :=
 Below w0.heap.size w0 w ∧ match b with
  | false => v = .slice none 0 0 ∧ rowsB n rs = false
  | true => rowsB n rs = true ∧ ∃ ts, v = .tuple #[.int .i64 68, .tuple ts] ∧ PF n c A w0 ts w
set_option maxRecDepth 100000 in
set_option maxHeartbeats 3200000 in
theorem proW (A : Option Addr) (n c : Nat) (rs : List Int) (w : World) (h : RecsAt w w.heap.size 4 A n rs) (hn : n ≤ 1048576) (r0 pr r3 r4 r5 l tl : Code) (e : pbody = .seq r0 (.seq pr (.seq r3 (.seq r4 (.seq (.seq r5 l) tl))))) :
  Rn.Pro Tryz.prog (.seq r0 (.seq pr (.seq r3 (.seq r4 (.seq (.seq r5 (.refuse "")) .skip))))) (fun a w' => a.defers = [] ∧ PR n c A rs w true (.tuple #[.int .i64 68, .tuple a.tmps]) w') (fun a w' => a.defers = [] ∧ ∃ v, (results Tryz.f68 a.tmps).run Tryz.prog w' = .ok v w' ∧ PR n c A rs w false v w') ⟨#[.slice A n c] ++ Array.replicate 54 undef, []⟩ w := by
 have HB0 := Lib.hid ((Below.refl w.heap.size w).alloc (Nat.le_refl _) (.cells #[.slice A n c] 61))
 have HL := Lib.hid (RecsAt.after h HB0.out)
 clear h
 have hx0 : (w.alloc (.cells #[.slice A n c] 61)).cell? ⟨w.heap.size, 0, none⟩ = some (.slice A n c) := by simp
 generalize hw1 : w.alloc (.cells #[.slice A n c] 61) = w1 at HB0 HL hx0
 have hw1s : w1.heap.size = w.heap.size + 1 := by rw [← hw1]; simp
 simp only [pbody, Tryz.f68, Option.getD, Code.seq.injEq] at e
 obtain ⟨rfl, rfl, rfl, rfl, ⟨rfl, rfl⟩, rfl⟩ := e
 simp only [Array.replicate_succ, Array.replicate_zero, List.push_toArray, List.append_toArray, List.nil_append, List.cons_append]
 refine Rn.pro_seq ?_
 go_wp2
 refine Rn.pro_seq ?_
 cases hI : inB n 3 20
 ·have HF : Hid (rowsB n rs = false) := Lib.hid (by simp [rowsB, hI])
  go_wp2_with (go_at_call 112; refine (within_any _ _ _ _).mono ?_; rw [hI]; rintro e w' ⟨rfl, rfl⟩)
  exact ⟨rfl, _, by simp [results, Tryz.results68, go_sem], HB0.out, rfl, HF.out⟩
 cases hR : allB (rowAt rs) n
 ·have HF : Hid (rowsB n rs = false) := Lib.hid (by simp [rowsB, hR])
  go_wp2_with (first | (go_at_call 112; refine (within_any _ _ _ _).mono ?_; rw [hI]; rintro e w' ⟨rfl, rfl⟩) | (go_at_call 113; refine (rowsOk_any _ _ _ _ _ HL.out hn).mono ?_; rw [hR]; rintro e w2 ⟨rfl, hb2⟩))
  exact ⟨rfl, _, by simp [results, Tryz.results68, go_sem], HB0.out.trans (hb2.mono HB0.out.size), rfl, HF.out⟩
 have HT : Hid (rowsB n rs = true) := Lib.hid (by simp [rowsB, hI, hR])
 go_wp2_with (first | (go_at_call 112; refine (within_any _ _ _ _).mono ?_; rw [hI]; rintro e w' ⟨rfl, rfl⟩) | (go_at_call 113; refine (rowsOk_any _ _ _ _ _ HL.out hn).mono ?_; rw [hR]; rintro e w2 ⟨rfl, hb2⟩))
 have HB2 := Lib.hid (HB0.out.trans (hb2.mono HB0.out.size))
 have hx1 : w2.cell? ⟨w.heap.size, 0, none⟩ = some (.slice A n c) := (hb2.cell (by rw [hw1s]; simp)).trans hx0
 have hmk := run_make_thrs n hn
 refine Rn.pro_seq ?_
 go_wp2
 refine Rn.pro_seq ?_
 go_wp2
 have hs2 : w.heap.size + 1 ≤ w2.heap.size := by have := hb2.size; omega
 have hx2 : (((w2.alloc (.cells (madeCells #[.slice none 0 0] n) 34)).alloc (.cells #[.slice (some ⟨w2.heap.size, 0, none⟩) n n] 134)).alloc (.cells #[.int .u64 0, .int .u32 0] 144)).cell? ⟨w.heap.size, 0, none⟩ = some (.slice A n c) := by
  rw [World.cell?_alloc_lt _ _ _ (by simp; omega), World.cell?_alloc_lt _ _ _ (by simp; omega), World.cell?_alloc_lt _ _ _ (by show w.heap.size < _; omega)]
  exact hx1
 refine Rn.pro_left (Rn.pro_seq ?_)
 go_wp2
 refine Rn.pro_stop ⟨rfl, ?_, HT.out, _, rfl, w.heap.size, w2.heap.size + 1, w2.heap.size + 2, w2.heap.size, rfl, ⟨rfl, List.forall_mem_cons.2 ⟨rfl, List.forall_mem_cons.2 ⟨rfl, List.forall_mem_cons.2 ⟨rfl, List.forall_mem_cons.2 ⟨rfl, List.forall_mem_cons.2 ⟨rfl, List.forall_mem_cons.2 ⟨rfl, List.forall_mem_cons.2 ⟨rfl, List.forall_mem_cons.2 ⟨rfl, List.forall_mem_cons.2 ⟨rfl, List.forall_mem_cons.2 ⟨rfl, List.forall_mem_cons.2 ⟨rfl, List.forall_mem_cons.2 ⟨rfl, List.forall_mem_cons.2 ⟨rfl, List.forall_mem_cons.2 ⟨rfl, List.forall_mem_cons.2 ⟨rfl, List.forall_mem_cons.2 ⟨rfl, List.forall_mem_cons.2 ⟨rfl, List.forall_mem_cons.2 ⟨rfl, List.forall_mem_cons.2 ⟨rfl, List.forall_mem_cons.2 ⟨rfl, List.forall_mem_cons.2 ⟨rfl, List.forall_mem_cons.2 ⟨rfl, List.forall_mem_cons.2 ⟨rfl, List.forall_mem_cons.2 ⟨rfl, List.forall_mem_cons.2 ⟨rfl, List.forall_mem_cons.2 ⟨rfl, List.forall_mem_nil _⟩⟩⟩⟩⟩⟩⟩⟩⟩⟩⟩⟩⟩⟩⟩⟩⟩⟩⟩⟩⟩⟩⟩⟩⟩⟩⟩, rfl, rfl, rfl, rfl, rfl, ⟨by omega, by omega, by omega, by omega⟩, ⟨by omega, by omega, by omega, by omega, by omega, by omega⟩, ?_, ?_, ?_, ?_⟩
 ·exact ((HB2.out.alloc (by omega) _).alloc (by simp; omega) _).alloc (by simp; omega) _
 ·rw [Below.heap_alloc _ _ _ (by simp; omega), Below.heap_alloc _ _ _ (by simp; omega), Below.heap_alloc _ _ _ (by omega), hb2.block _ (by omega), ← hw1]
  show (w.heap.push _)[w.heap.size]? = _
  simp
 ·exact at_1 _ _ _ _
 ·exact at_0 _ _ _ _
 ·exact at_2 _ _ _ _
end
namespace Rn
open Go.Conc Go.RowKit Go.Conc.Lib Go.ConcR.Gen Go.ConcN.Gen
open Go.ConcN (WgLive PayAt Has)
open Go.ConcR (KK WgAt Payload)
def proL : List Nat := [112, 113, 143]
def proF : Nat → Bool := fun k => proL.contains k
theorem pro_all : proL.all (fun f => match Tryz.prog.funcs[f]? with | some fn => (fn.name != "runtime.NumGoroutine") && (match fn.body with | some c => okC Tryz.prog.toTables proF (fun _ => true) c | none => false) | none => false) = true := by decide +kernel
theorem pro_one {f : Nat} (h : proF f = true) : ∃ fn c, Tryz.prog.funcs[f]? = some fn ∧ (fn.name == "runtime.NumGoroutine") = false ∧ fn.body = some c ∧ okC Tryz.prog.toTables proF (fun _ => true) c = true := by
 have hm : f ∈ proL := by simpa [proF] using h
 have := List.all_eq_true.1 pro_all f hm
 cases hf : Tryz.prog.funcs[f]? with
 | none => rw [hf] at this; cases this
 | some fn =>
  rw [hf] at this
  dsimp only at this
  cases hb : fn.body with
  | none => rw [hb] at this; simp at this
  | some c =>
   rw [hb] at this
   simp only [Bool.and_eq_true] at this
   exact ⟨fn, c, rfl, by simpa using this.1, hb, this.2⟩
noncomputable def pctx (noT : TypeId) (off : Nat) : Ctx where
 tb := Tryz.prog.toTables
 fx := Tryz.prog.funcs
 fs := Tryz.prog.funcs
 F := proF
 RO := fun a => a = Tryz.prog.globals.size
 sh := fun a => if a = Tryz.prog.globals.size then off else 0
 noT := noT
 suf := fun c k => c = .block 0 (.loop cloop) ∧ k = [.code ctail]
theorem pro_fine (noT : TypeId) (off : Nat) : ∀ f, (pctx noT off).F f = true → Fine (pctx noT off) f := fun f h => by
 obtain ⟨fn, c, h1, _, h3, h4⟩ := pro_one h
 exact ⟨rfl, fn, c, h1, h3, h4⟩
theorem pro_ok (noT : TypeId) (off : Nat) : CtxOk (pctx noT off) := by
 have k : ∀ f, proF f = true → ∃ fn, Tryz.prog.funcs[f]? = some fn ∧ (fn.name == "runtime.NumGoroutine") = false ∧ fn.body.isNone = false := fun f h => by
  obtain ⟨fn, c, h1, h2, h3, _⟩ := pro_one h
  exact ⟨fn, h1, h2, by rw [h3]; rfl⟩
 exact ⟨k, k, fun f fn _ => resD_all fn, fun k f h => (by cases h), fun k f h => (by cases h)⟩
theorem pWR {noT : TypeId} {off blk : Nat} {v : World} {cells c' : Array Value} {T : TypeId} {z : Nat × Nat} (hno : Tryz.prog.toTables.info? noT = none) (hG : Tryz.prog.globals.size ≤ v.heap.size) (hb : v.heap[blk]? = some (.cells c' T z))
  (hc : ∀ (i : Nat) u, cells[i]? = some u → c'[i + off]? = some u ∧ ∃ x, u = .int .i64 x) : WR (pctx noT off) (winR Tryz.prog.globals.size blk) (winWorld v Tryz.prog.globals.size cells noT) v where
 lt := by
  rintro a b ⟨rfl, rfl⟩
  exact ⟨by simp [winWorld], (Array.getElem?_eq_some_iff.1 hb).1⟩
 fn := by rintro a b b' ⟨_, rfl⟩ ⟨_, rfl⟩; rfl
 inj := by rintro a a' b ⟨rfl, _⟩ ⟨rfl, _⟩; exact .inl rfl
 obj := by rintro a b ⟨rfl, _⟩ h; exact absurd rfl h
 win := by
  rintro a b ⟨rfl, rfl⟩ _
  refine ⟨cells, cells.size, c', T, z, ?_, Nat.le_refl _, hb, fun i u hu => ?_⟩
  ·exact win_at _ _ _ _
  ·obtain ⟨h1, x, rfl⟩ := hc i u hu
   exact ⟨_, by simpa [pctx] using h1, .int _ _⟩
 winG := by rintro a b ⟨rfl, _⟩ _; exact Nat.le_refl _
 glob := by rintro a b ⟨rfl, _⟩ h; exact absurd rfl h
 big := ⟨by show Tryz.prog.globals.size ≤ _; simp [winWorld], hG⟩
 shz := by intro a h; show (if a = Tryz.prog.globals.size then off else 0) = 0; exact if_neg (fun e => h e)
 roLt := by intro a h; subst h; simp [winWorld]
 noInfo := hno
set_option maxRecDepth 100000 in
theorem proIL (noT : TypeId) (off : Nat) {r0 pr r3 r4 r5 l tl : Code} (e : pbody = .seq r0 (.seq pr (.seq r3 (.seq r4 (.seq (.seq r5 l) tl))))) :
  IL (pctx noT off) (fun _ => true) [.code (.seq r0 (.seq pr (.seq r3 (.seq r4 (.seq (.seq r5 (.refuse "")) .skip)))))] [.code pbody] := by
 have e0 := e
 simp only [pbody, Tryz.f68, Option.getD, Code.seq.injEq] at e0
 obtain ⟨e1, e2, e3, e4, ⟨e5, e6⟩, e7⟩ := e0
 have h1 : okI (pctx noT off).tb (pctx noT off).F (fun _ => true) (.code r0) = true := by rw [← e1]; show okC Tryz.prog.toTables proF (fun _ => true) _ = true; decide +kernel
 have h2 : okI (pctx noT off).tb (pctx noT off).F (fun _ => true) (.code pr) = true := by rw [← e2]; show okC Tryz.prog.toTables proF (fun _ => true) _ = true; decide +kernel
 have h3 : okI (pctx noT off).tb (pctx noT off).F (fun _ => true) (.code r3) = true := by rw [← e3]; show okC Tryz.prog.toTables proF (fun _ => true) _ = true; decide +kernel
 have h4 : okI (pctx noT off).tb (pctx noT off).F (fun _ => true) (.code r4) = true := by rw [← e4]; show okC Tryz.prog.toTables proF (fun _ => true) _ = true; decide +kernel
 have h5 : okI (pctx noT off).tb (pctx noT off).F (fun _ => true) (.code r5) = true := by rw [← e5]; show okC Tryz.prog.toTables proF (fun _ => true) _ = true; decide +kernel
 rw [e]
 have i1 : IL (pctx noT off) (fun _ => true) [.code r5, .code (.refuse ""), .code .skip] [.code r5, .code l, .code tl] := .cons h5 (.stop ⟨by rw [← e6]; rfl, by rw [← e7]; rfl⟩ (fun id => rfl))
 have i2 : IL (pctx noT off) (fun _ => true) [.code (.seq (.seq r5 (.refuse "")) .skip)] [.code (.seq (.seq r5 l) tl)] := .part (.part i1)
 have i3 : IL (pctx noT off) (fun _ => true) [.code (.seq r4 (.seq (.seq r5 (.refuse "")) .skip))] [.code (.seq r4 (.seq (.seq r5 l) tl))] := .part (.cons h4 i2)
 have i4 : IL (pctx noT off) (fun _ => true) [.code (.seq r3 (.seq r4 (.seq (.seq r5 (.refuse "")) .skip)))] [.code (.seq r3 (.seq r4 (.seq (.seq r5 l) tl)))] := .part (.cons h3 i3)
 have i5 : IL (pctx noT off) (fun _ => true) [.code (.seq pr (.seq r3 (.seq r4 (.seq (.seq r5 (.refuse "")) .skip))))] [.code (.seq pr (.seq r3 (.seq r4 (.seq (.seq r5 l) tl))))] := .part (.cons h2 i4)
 exact .part (.cons h1 i5)
section
variable {C : Ctx} {r : Ren} {w v : World}
theorem ptr_inv (hw : WR C r w v) {a : Nat} {y : Value} (hr : ¬ C.RO a) (h : VR C r (.pointer (some ⟨a, 0, none⟩)) y) : ∃ b, y = .pointer (some ⟨b, 0, none⟩) ∧ r a b := by
 cases h with
 | @ptr _ b ab =>
  obtain ⟨k, e1, e2⟩ := ab
  obtain ⟨b0, b1, b2⟩ := b
  simp only at k e1 e2
  rw [hw.shz _ hr] at e1
  subst e1; subst e2
  exact ⟨b0, rfl, k⟩
theorem undef_inv {y : Value} (h : VR C r undef y) : y = undef := by
 cases h with
 | @tuple _ ys e k =>
  have : ys = #[] := Array.eq_empty_of_size_eq_zero e.symm
  rw [this]
  rfl
theorem int_inv {k : IntKind} {n : Int} {y : Value} (h : VR C r (.int k n) y) : y = .int k n := by cases h; rfl
theorem cells_inv (hw : WR C r w v) {a b : Nat} (ab : r a b) (hr : ¬ C.RO a) {c : Array Value} {t : TypeId} {z : Nat × Nat} (h : w.heap[a]? = some (.cells c t z)) : ∃ c', v.heap[b]? = some (.cells c' t z) ∧ VAll C r c c' := by
 have ho := hw.obj a b ab hr
 rw [h] at ho
 cases hv : v.heap[b]? with
 | none => rw [hv] at ho; cases ho
 | some o => rw [hv] at ho; cases ho with | cells va => exact ⟨_, rfl, va⟩
end
structure AtNew (own : Bl) (n c : Nat) (rb fb blk off wg C : Nat) (T : Array Value) (w : World) : Prop where
 tc : TC T rb fb wg n
 s24 : T[24]? = some (.int .i64 n)
 s25 : T[25]? = some (.int .i64 0)
 own : own rb ∧ own fb ∧ own wg ∧ own C
 ne : rb ≠ fb ∧ rb ≠ wg ∧ rb ≠ C ∧ fb ≠ wg ∧ fb ≠ C ∧ wg ≠ C
 rbx : w.cell? ⟨rb, 0, none⟩ = some (.slice (some ⟨blk, off, none⟩) n c)
 fbx : w.cell? ⟨fb, 0, none⟩ = some (.slice (some ⟨C, 0, none⟩) n n)
 cb : ∃ cs : Array Value, w.heap[C]? = some (.cells cs 34) ∧ cs.size = n
 wgb : w.heap[wg]? = some (Go.ConcR.wgBlock wgLink.tWg 0 0)
theorem PF.real {noT : TypeId} {off blk n c : Nat} {w0 wl v : World} {ts ts' : Array Value} {r : Ren} {own : Bl} (hP : PF n c (some ⟨Tryz.prog.globals.size, 0, none⟩) w0 ts wl) (hw0 : w0.heap.size = Tryz.prog.globals.size + 1)
  (hv : VAll (pctx noT off) r ts ts') (hw : WR (pctx noT off) r wl v) (hin : Within2 (pctx noT off) r own (fun b => b = blk)) : ∃ rb fb wg Cb, AtNew own n c rb fb blk off wg Cb ts' v := by
 obtain ⟨rb, fb, wg, C, hs, hfr, h1, h3, h4, h24, h25, ⟨l1, l2, l3, l4⟩, ⟨n1, n2, n3, n4, n5, n6⟩, o1, o2, o3, o4⟩ := hP
 have nr : ∀ a, w0.heap.size ≤ a → ¬ (pctx noT off).RO a := fun a h e => by have e' : a = Tryz.prog.globals.size := e; omega
 have hfr' : Fresh ts' := by
  refine ⟨?_, fun i hi => ?_⟩
  ·obtain ⟨y, hy, k⟩ := hv.get? hfr.1
   cases k
   exact hy
  ·obtain ⟨y, hy, k⟩ := hv.get? (hfr.2 i hi)
   rw [hy, undef_inv k]
 obtain ⟨y1, hy1, v1⟩ := hv.get? h1
 obtain ⟨rb', rfl, r1⟩ := ptr_inv hw (nr _ l1) v1
 obtain ⟨y3, hy3, v3⟩ := hv.get? h3
 obtain ⟨fb', rfl, r3⟩ := ptr_inv hw (nr _ l2) v3
 obtain ⟨y4, hy4, v4⟩ := hv.get? h4
 obtain ⟨wg', rfl, r4⟩ := ptr_inv hw (nr _ l3) v4
 obtain ⟨y5, hy5, v5⟩ := hv.get? h24
 obtain rfl := int_inv v5
 obtain ⟨y6, hy6, v6⟩ := hv.get? h25
 obtain rfl := int_inv v6
 obtain ⟨c1, q1, a1⟩ := cells_inv hw r1 (nr _ l1) o1
 obtain ⟨c2, q2, a2⟩ := cells_inv hw r3 (nr _ l2) o2
 obtain ⟨c4, q4, a4⟩ := cells_inv hw r4 (nr _ l3) o4
 obtain ⟨z1, hz1, u1⟩ := a1.get? (i := 0) rfl
 obtain ⟨z2, hz2, u2⟩ := a2.get? (i := 0) rfl
 obtain ⟨x1, rfl, hx1⟩ : ∃ x, z1 = .slice (some x) n c ∧ x = ⟨blk, off, none⟩ := by
  cases u1 with
  | @sl _ b _ _ ab =>
   obtain ⟨k, e1, e2⟩ := ab
   obtain ⟨b0, b1, b2⟩ := b
   simp only at k e1 e2
   have hb0 : b0 = blk := (hin _ _ k).2 rfl
   have hsh : (pctx noT off).sh Tryz.prog.globals.size = off := by show (if Tryz.prog.globals.size = Tryz.prog.globals.size then off else 0) = off; simp
   rw [hsh] at e1
   subst hb0; subst e2
   exact ⟨_, rfl, by rw [e1]; simp⟩
 subst hx1
 obtain ⟨C', rfl, r5⟩ : ∃ C', z2 = .slice (some ⟨C', 0, none⟩) n n ∧ r C C' := by
  cases u2 with
  | @sl _ b _ _ ab =>
   obtain ⟨k, e1, e2⟩ := ab
   obtain ⟨b0, b1, b2⟩ := b
   simp only at k e1 e2
   rw [hw.shz _ (nr _ l4)] at e1
   subst e1; subst e2
   exact ⟨b0, rfl, k⟩
 obtain ⟨c3, q3, a3⟩ := cells_inv hw r5 (nr _ l4) o3
 have ne : ∀ a a' b b', r a b → r a' b' → w0.heap.size ≤ a → a ≠ a' → b ≠ b' := fun a a' b b' k k' l hne e => by
  rcases hw.inj a a' b k (by rw [e]; exact k') with e' | ⟨e', _⟩
  ·exact hne e'
  ·exact nr _ l e'
 refine ⟨rb', fb', wg', C', ⟨⟨by rw [← hv.size, hs], hy1, hy3, hy4, hfr'⟩, hy5, hy6, ⟨(hin _ _ r1).1 (nr _ l1), (hin _ _ r3).1 (nr _ l2), (hin _ _ r4).1 (nr _ l3), (hin _ _ r5).1 (nr _ l4)⟩, ⟨ne _ _ _ _ r1 r3 l1 n1, ne _ _ _ _ r1 r4 l1 n2, ne _ _ _ _ r1 r5 l1 n3, ne _ _ _ _ r3 r4 l2 n4, ne _ _ _ _ r3 r5 l2 n5, ne _ _ _ _ r4 r5 l3 n6⟩, ?_, ?_, ⟨c3, q3, ?_⟩, ?_⟩⟩
 ·simp [World.cell?, q1, hz1]
 ·simp [World.cell?, q2, hz2]
 ·rw [← a3.size]; simp [size_madeCells]
 ·rw [q4]
  have e : c4 = #[.int .u64 0, .int .u32 0] := by
   obtain ⟨g0, hg0, k0⟩ := a4.get? (i := 0) rfl
   obtain ⟨g1, hg1, k1⟩ := a4.get? (i := 1) rfl
   obtain rfl := int_inv k0
   obtain rfl := int_inv k1
   have hsz : c4.size = 2 := a4.size.symm
   refine Array.ext (by rw [hsz]; rfl) fun i h1 h2 => ?_
   match i, h1 with
   | 0, _ => exact (Array.getElem?_eq_some_iff.1 hg0).2
   | 1, _ => exact (Array.getElem?_eq_some_iff.1 hg1).2
   | i + 2, h => omega
  rw [e]
  rfl
theorem frR_stop {C : Ctx} {r : Ren} {g : FuncId} {ts : Array Value} {k0 : List Item} {f' : Frame} (h : FrR C r (fra g ts (.code (.refuse "") :: k0) false) f') : ∃ ts' c k, f' = fra g ts' (.code c :: k) false ∧ VOn C r (C.D g) ts ts' ∧ C.suf c k := by
 generalize hx : fra g ts (.code (.refuse "") :: k0) false = x at h
 cases h with
 | @mk f ts1 ts' todo todo' m hF hv hk =>
  have e : g = f ∧ ts = ts1 ∧ (.code (.refuse "") :: k0) = todo ∧ false = m := by
   have e1 := congrArg Frame.fn hx
   have e2 := congrArg Frame.tmps hx
   have e3 := congrArg Frame.todo hx
   have e4 := congrArg Frame.mode hx
   refine ⟨e1, e2, e3, ?_⟩
   cases m with
   | false => rfl
   | true => cases e4
  obtain ⟨rfl, rfl, rfl, rfl⟩ := e
  cases hk with
  | cons h0 hk => cases h0
  | stop hs _ => exact ⟨ts', _, _, rfl, hv, hs⟩
theorem Pro.mono {P : Program} {c : Code} {Q Qr Q' Qr' : Act → World → Prop} {a : Act} {w : World} (h : Pro P c Q Qr a w) (hq : ∀ a w, Q a w → Q' a w) (hr : ∀ a w, Qr a w → Qr' a w) : Pro P c Q' Qr' a w := fun b k cs =>
 (h b k cs).imp (fun ⟨a', w', k0, x, y⟩ => ⟨a', w', k0, hq _ _ x, y⟩) fun ⟨a', w', todo, x, y⟩ => ⟨a', w', todo, hr _ _ x, y⟩
set_option maxRecDepth 100000 in
theorem pbody_body : Tryz.f68.body = some pbody := by simp only [pbody, Tryz.f68, Option.getD]
theorem enterC (x : Value) : Frame.enter Tryz.prog 68 #[x] .normal = fra 68 (#[x] ++ Array.replicate 54 undef) [.code pbody] false := by
 rw [enter_at (P := Tryz.prog) #[x] Tryz.func68 pbody_body, Tryz.ntmps68, fra_run]
 rfl
theorem sameC (noT : TypeId) (off : Nat) : SameF (pctx noT off) 68 := ⟨rfl, _, _, Tryz.func68, pbody_body⟩
theorem pbody_form : ∃ r0 pr r3 r4 r5 l tl, pbody = .seq r0 (.seq pr (.seq r3 (.seq r4 (.seq (.seq r5 l) tl)))) := ⟨_, _, _, _, _, _, _, rfl⟩
def StopP (cf : Frame) (cs : List Frame) (n c blk off : Nat) (xs : List Int) (own : Bl) (g : Goroutine) (w : World) : Prop :=
 (rowsB n xs = false ∧ g = G (cf.finish (.slice none 0 0)) cs) ∨
 (rowsB n xs = true ∧ ∃ T rb fb wg C, g = G ((base 68).at ⟨T, []⟩ [.code (.block 0 (.loop cloop)), .code ctail]) (cf :: cs) ∧ AtNew own n c rb fb blk off wg C T w)
section
variable {n c blk off : Nat} {xs : List Int}
theorem pro_way {noT : TypeId} (hno : Tryz.prog.toTables.info? noT = none) {w : World} (cf : Frame) (cs : List Frame) (hn : 1 ≤ n) (hn2 : n ≤ 1048576) (hxs : xs.length = n * 4)
  (hrows : ∀ k, k < 4 * n → w.cell? ⟨blk, off + k, none⟩ = some (.int .i64 (nth xs k))) (hG : Tryz.prog.globals.size ≤ w.heap.size) :
  WayG Tryz.prog true (fun own => Stays (fun b => own b ∨ b = blk)) (fun own => Did own (fun b => b = blk)) (StopP cf cs n c blk off xs) (fun _ => False) (G (Frame.enter Tryz.prog 68 #[.slice (some ⟨blk, off, none⟩) n c] .normal) (cf :: cs)) w := by
 have h0 := hrows 0 (by omega)
 obtain ⟨c', T, z, hb⟩ : ∃ c' T z, w.heap[blk]? = some (.cells c' T z) := by
  unfold World.cell? at h0
  revert h0
  cases w.heap[blk]? with
  | none => intro h0; cases h0
  | some o => cases o <;> intro h0 <;> first | exact ⟨_, _, _, rfl⟩ | cases h0
 have hcs : ∀ (j : Nat) u, ((Array.range (4 * n)).map fun k => Value.int .i64 (nth xs k))[j]? = some u → c'[j + off]? = some u ∧ ∃ x, u = .int .i64 x := by
  intro j u hu
  rw [Array.getElem?_map] at hu
  obtain ⟨y, hy, rfl⟩ := Option.map_eq_some_iff.1 hu
  obtain ⟨hlt, rfl⟩ := Array.getElem?_eq_some_iff.1 hy
  simp only [Array.size_range] at hlt
  have := hrows j hlt
  simp only [World.cell?, hb] at this
  refine ⟨?_, _, rfl⟩
  rw [Nat.add_comm]
  simpa using this
 have hWR := pWR (noT := noT) (off := off) (v := w) hno hG hb hcs
 obtain ⟨r0, pr, r3, r4, r5, l, tl, e⟩ := pbody_form
 have hrec : ∀ t d, RecsAt ((winW w n xs noT).tp t d) ((winW w n xs noT).tp t d).heap.size 4 (some ⟨Tryz.prog.globals.size, 0, none⟩) n xs := fun t d => ⟨hxs, fun _ => ⟨_, 0, rfl, by rw [win_size]; omega, fun i hi => by rw [Nat.zero_add, win_cell]; simp [show i < 4 * n by omega]⟩⟩
 have hres : Res (pctx noT off).Px (fun b v w' => ∃ t d, PR n c (some ⟨Tryz.prog.globals.size, 0, none⟩) xs ((winW w n xs noT).tp t d) b v w') ⟨fra 68 (#[.slice (some ⟨Tryz.prog.globals.size, 0, none⟩) n c] ++ Array.replicate 54 undef) [.code (.seq r0 (.seq pr (.seq r3 (.seq r4 (.seq (.seq r5 (.refuse "")) .skip)))))] false, [Xb], winW w n xs noT⟩ :=
  Res.of_pro (fn := Tryz.f68) Tryz.func68 fun t d => (proW _ n c xs _ (hrec t d) hn2 r0 pr r3 r4 r5 l tl e).mono (fun a w' x => ⟨x.1, t, d, x.2⟩) fun a w' x => ⟨x.1, x.2.imp fun v y => ⟨y.1, t, d, y.2⟩⟩
 have henter := enterC (.slice (some ⟨blk, off, none⟩) n c)
 have hv1 : VR (pctx noT off) (winR Tryz.prog.globals.size blk) (.slice (some ⟨Tryz.prog.globals.size, 0, none⟩) n c) (.slice (some ⟨blk, off, none⟩) n c) := .sl n c ⟨⟨rfl, rfl⟩, by simp [pctx], rfl⟩
 have hva := (VAll.one hv1).append (VAll.replicate 54 (vr_undef (C := pctx noT off) (r := winR Tryz.prog.globals.size blk)))
 have hfr : FrR (pctx noT off) (winR Tryz.prog.globals.size blk) (fra 68 (#[.slice (some ⟨Tryz.prog.globals.size, 0, none⟩) n c] ++ Array.replicate 54 undef) [.code (.seq r0 (.seq pr (.seq r3 (.seq r4 (.seq (.seq r5 (.refuse "")) .skip)))))] false) (fra 68 (#[.slice (some ⟨blk, off, none⟩) n c] ++ Array.replicate 54 undef) [.code pbody] false) :=
  .mk false (sameC noT off) hva.on (proIL noT off e)
 have hway := way_of_res (main := true) (bs := cf :: cs) (ro := fun b => b = blk) (own := fun _ => False) (pro_ok noT off) (fun _ _ => rfl) (pro_fine noT off) hres _ hres.acc (Path.refl _ _) hfr (LR.nil) hWR (by
  rintro a b ⟨rfl, rfl⟩
  exact ⟨fun h => absurd rfl h, fun _ => rfl⟩)
 rw [henter]
 have hway2 := hway.toG.bind' (R' := fun own => Stays (fun b => own b ∨ b = blk)) (D' := fun own => Did own (fun b => b = blk)) (Stop' := fun o g w1 => ∀ w2, Stays (fun b => o b ∨ b = blk) w1 w2 → AtEnd (pctx noT off) (fun b v w' => ∃ t d, PR n c (some ⟨Tryz.prog.globals.size, 0, none⟩) xs ((winW w n xs noT).tp t d) b v w') (fun b => b = blk) (cf :: cs) o g w2)
  (fun _ _ _ x => x) (fun _ _ _ _ x => x) fun o g w x => .stop fun w1 h1 w2 h2 => x w2 (h1.trans h2)
 refine hway2.bind (fun _ _ => .refl _ _) (fun _ _ _ x => x) (fun _ _ _ _ x => x) ?_
 intro o g w2 hend
 have hrun : g.status = .running := by
  obtain ⟨_, _, _, _, _, _, rfl, _⟩ := hend w2 (.refl _ _)
  rfl
 cases hB : rowsB n xs
 ·refine .next hrun fun w3 h3 => ?_
  obtain ⟨r, wl, f, f', eb, x, rfl, hf, hwr, hte, hin, ⟨t, d, hbel, hpr⟩, hends⟩ := hend w3 h3
  cases eb with
  | true => exact absurd hpr.1 (by rw [hB]; simp)
  | false =>
   obtain ⟨rfl, _⟩ := hpr
   have hlv : f.leaving Tryz.prog wl (.returned (.slice none 0 0)) := by
    rcases hends with ⟨_, h⟩ | ⟨e, _⟩
    ·exact h
    ·cases e
   obtain ⟨y, v1, es, r1, hs, hext, hw1, hev, hvr⟩ := ret_step (pro_ok noT off) hf hwr hte hlv cf cs true
   have hd := hext.did hwr hw1 hin hev
   cases hvr
   exact ⟨_, v1, es, hs, hd, .stop fun w4 h4 => .inl ⟨hB, rfl⟩⟩
 ·refine .stop fun w3 h3 => .inr ⟨hB, ?_⟩
  obtain ⟨r, wl, f, f', eb, x, rfl, hf, hwr, hte, hin, ⟨t, d, hbel, hpr⟩, hends⟩ := hend w3 h3
  cases eb with
  | false => exact absurd hpr.2 (by rw [hB]; simp)
  | true =>
   obtain ⟨_, ts, rfl, hPF⟩ := hpr
   rcases hends with ⟨e, _⟩ | ⟨_, g0, ts0, k0, rfl, e⟩
   ·cases e
   simp at e
   obtain ⟨eg, rfl⟩ := e
   have eg2 : g0 = (68 : Nat) := by first | exact eg.symm | exact (Int.ofNat.inj eg).symm | exact (Int.ofNat_inj.1 eg).symm
   subst eg2
   obtain ⟨ts', c1, k1, rfl, hv, rfl, rfl⟩ := frR_stop hf
   obtain ⟨rb, fb, wg, Cb, hA⟩ := PF.real hPF (win_size t d) (VOn.all hv) hwr hin
   exact ⟨ts', rb, fb, wg, Cb, rfl, hA⟩
end
end Rn
section
open Go.RowKit
def mkBd (h v m d : Int) : Bool := inB h (-4000000000000000000) 4000000000000000000 && (inB v (-4000000000000000000) 4000000000000000000 && (inB m (-4000000000000000000) 4000000000000000000 && inB d (-4000000000000000000) 4000000000000000000))
def mkG (h v m d : Int) : Int := if d < 0 then -(gcd4 h v m d : Int) else gcd4 h v m d
def mkT (h v m d : Int) : Bool := thrB (Int.tdiv h (mkG h v m d)) (Int.tdiv v (mkG h v m d)) (Int.tdiv m (mkG h v m d)) (Int.tdiv d (mkG h v m d))
def mkB (h v m d : Int) : Bool := !decide (d = 0) && (mkBd h v m d && mkT h v m d)
def mkI (h v m d x : Int) : Int := if mkB h v m d = true then Int.tdiv x (mkG h v m d) else 0
theorem mkB_0 (h v m : Int) {d : Int} (hd : d = 0) : mkB h v m d = false := by simp [mkB, hd]
theorem mkB_1 {h v m d : Int} (hb : mkBd h v m d = false) : mkB h v m d = false := by simp [mkB, hb]
theorem mkB_2 {h v m d : Int} (hb : mkT h v m d = false) : mkB h v m d = false := by simp [mkB, hb]
theorem mkB_t {h v m d : Int} (hd : ¬ d = 0) (hb : mkBd h v m d = true) (ht : mkT h v m d = true) : mkB h v m d = true := by simp [mkB, hb, hd, ht]
theorem mkI_f {h v m d : Int} (hb : mkB h v m d = false) (x : Int) : mkI h v m d x = 0 := by simp [mkI, hb]
theorem mkI_t {h v m d : Int} (hb : mkB h v m d = true) (x : Int) : mkI h v m d x = Int.tdiv x (mkG h v m d) := by simp [mkI, hb]
theorem mkI_thr {h v m d : Int} (hb : mkB h v m d = true) : thrB (mkI h v m d h) (mkI h v m d v) (mkI h v m d m) (mkI h v m d d) = true := by
 simp only [mkI_t hb]
 simp only [mkB, Bool.and_eq_true] at hb
 exact hb.2.2
theorem mkBd_out {h v m d : Int} (hb : mkBd h v m d = true) : okG h ∧ okG v ∧ okG m ∧ okG d := by
 simp only [mkBd, Bool.and_eq_true, inB_iff] at hb
 exact hb
theorem mkG_ne (h v m : Int) {d : Int} (hd : ¬ d = 0) : mkG h v m d ≠ 0 := by
 have := gcd4_pos (a := h) (b := v) (c := m) hd
 unfold mkG
 split <;> omega
theorem tdiv_bd {x g : Int} (h : okG x) : okG (Int.tdiv x g) := by
 have h1 : (Int.tdiv x g).natAbs ≤ x.natAbs := by
  rw [Int.natAbs_tdiv]
  exact Nat.div_le_self _ _
 unfold okG at *
 omega
theorem okG_wrap {x : Int} (h : okG x) : IntKind.i64.wrap x = x := by
 unfold okG at h
 exact IntWalk.i64_in _ (by omega)
def det9 (a0 a1 a2 b0 b1 b2 c0 c1 c2 : Int) : Int := a0 * (b1 * c2 - b2 * c1) - a1 * (b0 * c2 - b2 * c0) + a2 * (b0 * c1 - b1 * c0)
structure DetBd (a0 a1 a2 b0 b1 b2 c0 c1 c2 : Int) : Prop where
 p1 : -1000000000000000000 ≤ b1 * c2 ∧ b1 * c2 ≤ 1000000000000000000
 p2 : -1000000000000000000 ≤ b2 * c1 ∧ b2 * c1 ≤ 1000000000000000000
 p3 : -1000000000000000000 ≤ b0 * c2 ∧ b0 * c2 ≤ 1000000000000000000
 p4 : -1000000000000000000 ≤ b2 * c0 ∧ b2 * c0 ≤ 1000000000000000000
 p5 : -1000000000000000000 ≤ b0 * c1 ∧ b0 * c1 ≤ 1000000000000000000
 p6 : -1000000000000000000 ≤ b1 * c0 ∧ b1 * c0 ≤ 1000000000000000000
 q1 : -1000000000000000000 ≤ a0 * (b1 * c2 - b2 * c1) ∧ a0 * (b1 * c2 - b2 * c1) ≤ 1000000000000000000
 q2 : -1000000000000000000 ≤ a1 * (b0 * c2 - b2 * c0) ∧ a1 * (b0 * c2 - b2 * c0) ≤ 1000000000000000000
 q3 : -1000000000000000000 ≤ a2 * (b0 * c1 - b1 * c0) ∧ a2 * (b0 * c1 - b1 * c0) ≤ 1000000000000000000
structure DetW (a0 a1 a2 b0 b1 b2 c0 c1 c2 : Int) : Prop where
 w1 : IntKind.i64.wrap (b1 * c2) = b1 * c2
 w2 : IntKind.i64.wrap (b2 * c1) = b2 * c1
 w3 : IntKind.i64.wrap (b0 * c2) = b0 * c2
 w4 : IntKind.i64.wrap (b2 * c0) = b2 * c0
 w5 : IntKind.i64.wrap (b0 * c1) = b0 * c1
 w6 : IntKind.i64.wrap (b1 * c0) = b1 * c0
 s1 : IntKind.i64.wrap (b1 * c2 - b2 * c1) = b1 * c2 - b2 * c1
 s2 : IntKind.i64.wrap (b0 * c2 - b2 * c0) = b0 * c2 - b2 * c0
 s3 : IntKind.i64.wrap (b0 * c1 - b1 * c0) = b0 * c1 - b1 * c0
 m1 : IntKind.i64.wrap (a0 * (b1 * c2 - b2 * c1)) = a0 * (b1 * c2 - b2 * c1)
 m2 : IntKind.i64.wrap (a1 * (b0 * c2 - b2 * c0)) = a1 * (b0 * c2 - b2 * c0)
 m3 : IntKind.i64.wrap (a2 * (b0 * c1 - b1 * c0)) = a2 * (b0 * c1 - b1 * c0)
 t1 : IntKind.i64.wrap (a0 * (b1 * c2 - b2 * c1) - a1 * (b0 * c2 - b2 * c0)) = a0 * (b1 * c2 - b2 * c1) - a1 * (b0 * c2 - b2 * c0)
 t2 : IntKind.i64.wrap (a0 * (b1 * c2 - b2 * c1) - a1 * (b0 * c2 - b2 * c0) + a2 * (b0 * c1 - b1 * c0)) = a0 * (b1 * c2 - b2 * c1) - a1 * (b0 * c2 - b2 * c0) + a2 * (b0 * c1 - b1 * c0)
theorem DetBd.wraps {a0 a1 a2 b0 b1 b2 c0 c1 c2 : Int} (h : DetBd a0 a1 a2 b0 b1 b2 c0 c1 c2) : DetW a0 a1 a2 b0 b1 b2 c0 c1 c2 := by
 obtain ⟨p1, p2, p3, p4, p5, p6, q1, q2, q3⟩ := h
 exact ⟨IntWalk.i64_in _ (by omega), IntWalk.i64_in _ (by omega), IntWalk.i64_in _ (by omega), IntWalk.i64_in _ (by omega), IntWalk.i64_in _ (by omega), IntWalk.i64_in _ (by omega), IntWalk.i64_in _ (by omega), IntWalk.i64_in _ (by omega), IntWalk.i64_in _ (by omega), IntWalk.i64_in _ (by omega), IntWalk.i64_in _ (by omega), IntWalk.i64_in _ (by omega), IntWalk.i64_in _ (by omega), IntWalk.i64_in _ (by omega)⟩
theorem DetBd.out {a0 a1 a2 b0 b1 b2 c0 c1 c2 : Int} (h : DetBd a0 a1 a2 b0 b1 b2 c0 c1 c2) : okG (det9 a0 a1 a2 b0 b1 b2 c0 c1 c2) := by
 obtain ⟨p1, p2, p3, p4, p5, p6, q1, q2, q3⟩ := h
 unfold okG det9
 omega
def solD (pa pb pc pd qa qb qc qd ra rb rc rd : Int) : Int := if (rowB pa pb pc pd && (rowB qa qb qc qd && rowB ra rb rc rd)) = true then det9 pa pb pc qa qb qc ra rb rc else 0
end
section
open Go.RowKit
def thrV (h v m d : Int) (b : Bool) : Value := .tuple #[.agg #[.int .i64 h, .int .i64 v, .int .i64 m, .int .i64 d], .bool b]
def mkV (h v m d : Int) : Value := thrV (mkI h v m d h) (mkI h v m d v) (mkI h v m d m) (mkI h v m d d) (mkB h v m d)
theorem mkV_f {h v m d : Int} (hb : mkB h v m d = false) : mkV h v m d = thrV 0 0 0 0 false := by simp only [mkV, mkI_f hb, hb]
theorem mkV_t {h v m d : Int} (hb : mkB h v m d = true) : mkV h v m d = thrV (Int.tdiv h (mkG h v m d)) (Int.tdiv v (mkG h v m d)) (Int.tdiv m (mkG h v m d)) (Int.tdiv d (mkG h v m d)) true := by simp only [mkV, mkI_t hb, hb]
theorem below_dr {B : Nat} {a w : World} (h : Below B a w) : Below B a w.drew := ⟨h.os, h.tape, h.output, h.size, h.block⟩
theorem below_set4 {B : Nat} {a w : World} (h : Below B a w) {b : Nat} (hb : B ≤ b) (x y z u : Value) : Below B a ((((w.setCell ⟨b, 0, none⟩ x).setCell ⟨b, 1, none⟩ y).setCell ⟨b, 2, none⟩ z).setCell ⟨b, 3, none⟩ u) :=
 ((((h.setCell hb _).setCell hb _).setCell hb _).setCell hb _)
end
section
section
variable {P : Program} {ops : Array Oper} {Q : Exit → Act → World → Prop} {md : Region.Mode} {S : World → Prop}
theorem take_heldS {i d : Nat} {oi : Oper} {v : Value} {fuel : Nat} {listed : Array Bool} {a : Act} {w : World} (hi : ops[i]? = some oi) (hd : oi.dst = some d)
  (h : wpAnyH P md ops Q S fuel (listed.setIfInBounds i true) (a.put (some d) v) w)
  (hs : Region.noSelect ops = true := by kernel_rfl) (hf : Region.free md ops listed i = true := by kernel_rfl) (hr : (Region.ready md ops listed).contains i = true := by kernel_rfl) (hQ : ∀ c a w, Q (.panic c) (a.put (some d) v) w → Q (.panic c) a w := by exact fun _ _ _ h => h)
  (hw : Region.wanted oi (yielded ops a.tmps) = true := by kernel_rfl) (hy : ∀ w, S w → (execOp a.eval oi).run P w = .ok (.value v) w := by intro w hSw; (try dsimp only at hSw); go_simp; try rfl) (hS : S w := by assumption) : wpAnyH P md ops Q S (fuel + 1) listed a w :=
 wpAnyH_take (v := v) hi hs hf hr (by rw [hd]; exact hQ) (Or.inl ⟨hw, hy⟩) hS (by rw [hd]; exact h)
end
end
end Go.Proofs.YtbpnbhemdbgmjaaGreat
