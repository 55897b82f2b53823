/-
  Texts that the law stands on, part 2.
-/
import Derived.Test.YtodneggnnipcnaaGreatX1
import Derived.Test.YtodneggnnipcnaaGreatC10
import Derived.Test.YtodneggnnipcnaaGreatC18
import Derived.Test.YtodneggnnipcnaaGreatC19
import Derived.Test.YtodneggnnipcnaaGreatC23
import Derived.Test.YtodneggnnipcnaaGreatC24
set_option maxRecDepth 100000
set_option linter.unusedVariables false
set_option linter.unusedSimpArgs false
namespace Go.Proofs.YtodneggnnipcnaaGreat
namespace X
open Go.RowKit
def lfB (zs : List Int) (n : Nat) (ls : List Int) (q : Nat) (k : Int) : Bool := loadsB zs n ls q && inB k 0 ((n : Int) - 1)
def lfW (zs : List Int) (n : Nat) (ls : List Int) (q : Nat) (k : Int) : Int := if lfB zs n ls q k = true then leftW zs ls q k.toNat else 0
def lfM (zs : List Int) (n : Nat) (ls : List Int) (q : Nat) (k : Int) : Int := if lfB zs n ls q k = true then leftM zs ls q k.toNat else 0
theorem lf_f {zs : List Int} {n : Nat} {ls : List Int} {q : Nat} {k : Int} (h : lfB zs n ls q k = false) : lfW zs n ls q k = 0 ∧ lfM zs n ls q k = 0 := by simp [lfW, lfM, h]
theorem lf_t {zs : List Int} {n : Nat} {ls : List Int} {q k : Nat} (h : lfB zs n ls q (k : Int) = true) : lfW zs n ls q (k : Int) = leftW zs ls q k ∧ lfM zs n ls q (k : Int) = leftM zs ls q k := by simp [lfW, lfM, h]
theorem lfB_1 {zs : List Int} {n : Nat} {ls : List Int} {q : Nat} (k : Int) (h : loadsB zs n ls q = false) : lfB zs n ls q k = false := by simp [lfB, h]
theorem lfB_2 (zs : List Int) {n : Nat} (ls : List Int) (q : Nat) {k : Int} (h : inB k 0 ((n : Int) - 1) = false) : lfB zs n ls q k = false := by simp [lfB, h]
theorem lfB_t {zs : List Int} {n : Nat} {ls : List Int} {q : Nat} {k : Int} (h : loadsB zs n ls q = true) (h2 : inB k 0 ((n : Int) - 1) = true) : lfB zs n ls q k = true := by simp [lfB, h, h2]
theorem rowF_new2 (w : World) (a b : Int) (T : TypeId) : RowF (w.alloc (.cells #[.int .i64 a, .int .i64 b] T)) w.heap.size T 2 (ints [a, b]) :=
 RowF.of_row (World.rowIs_alloc w #[.int .i64 a, .int .i64 b] T _ (fun j hj => by simp at hj; match j, hj with | 0, _ => rfl | 1, _ => rfl))
theorem rowF_set2 {w : World} {g : Nat} {T : TypeId} {a b : Int} (h : RowF w g T 2 (ints [a, b])) (a' b' : Int) : RowF ((w.setCell ⟨g, 0, none⟩ (.int .i64 a')).setCell ⟨g, 1, none⟩ (.int .i64 b')) g T 2 (ints [a', b']) :=
 ((h.set 0 (.int .i64 a')).set 1 (.int .i64 b')).congr (fun i hi => by match i, hi with | 0, _ => rfl | 1, _ => rfl)
structure LeftStart (w wr : World) (v : Value) (a b : Int) : Prop where
 box : Box wr w.heap.size v
 res : RowF wr (w.heap.size + 1) 142 2 (ints [0, 0])
 sum : RowF wr (w.heap.size + 2) 142 2 (ints [a, b])
 below : Below w.heap.size w wr
theorem LeftStart.after {w wr w2 : World} {v : Value} {a b : Int} (h : LeftStart w wr v a b) (hb : Below wr.heap.size wr w2) : LeftStart w w2 v a b := ⟨h.box.after hb, h.res.after hb, h.sum.after hb, h.below.trans (hb.mono h.below.size)⟩
theorem LeftStart.set {w wr : World} {v : Value} {a b : Int} (h : LeftStart w wr v a b) (a' b' : Int) : LeftStart w ((wr.setCell ⟨w.heap.size + 2, 0, none⟩ (.int .i64 a')).setCell ⟨w.heap.size + 2, 1, none⟩ (.int .i64 b')) v a' b' :=
 ⟨⟨(World.cell?_setCell_far _ _ _ _ (by simp)).trans ((World.cell?_setCell_far _ _ _ _ (by simp)).trans h.box.1), by have := h.box.2; simpa using this⟩, (h.res.set_other (by simp) _).set_other (by simp) _, rowF_set2 h.sum a' b', (h.below.setCell (by simp) _).setCell (by simp) _⟩
theorem leftStart (w : World) (v : Value) (T : TypeId) : LeftStart w (((w.alloc (.cells #[v] T)).alloc (.cells #[.int .i64 0, .int .i64 0] 142)).alloc (.cells #[.int .i64 0, .int .i64 0] 142)) v 0 0 := by
 refine ⟨((Box.new w v T).alloc _).alloc _, ?_, ?_, (((Below.refl _ _).alloc (Nat.le_refl _) _).alloc (by simp) _).alloc (by simp; omega) _⟩
 ·have h := (rowF_new2 (w.alloc (.cells #[v] T)) 0 0 142).alloc (.cells #[.int .i64 0, .int .i64 0] 142)
  rw [World.size_alloc] at h;exact h
 ·have h := rowF_new2 ((w.alloc (.cells #[v] T)).alloc (.cells #[.int .i64 0, .int .i64 0] 142)) 0 0 142
  rw [World.size_alloc, World.size_alloc] at h;exact h
set_option maxRecDepth 100000 in
set_option maxHeartbeats 1600000 in
theorem leftOf_any (A : Option Addr) (n c : Nat) (zs : List Int) (B : Option Addr) (q d : Nat) (ls : List Int) (k : Int) (w : World) (h : RecsAt w w.heap.size 4 A n zs) (hn : n ≤ 1048576) (hl : RecsAt w w.heap.size 3 B q ls) (hq : q ≤ 1048576) :
  Calls Tryzx.prog 112 #[.agg #[.slice A n c], .slice B q d, .int .i64 k] w fun e w' => e = .returned (.agg #[.int .i64 (lfW zs n ls q k), .int .i64 (lfM zs n ls q k)]) ∧ Below w.heap.size w w' := by
 have ST := leftStart w (.slice A n c) 32;have h0 := ((h.alloc (Nat.le_refl _) (.cells #[.slice A n c] 32)).mono (B' := (w.alloc (.cells #[.slice A n c] 32)).heap.size) (by simp))
 have h1 := (h0.after ((Below.refl _ _).alloc (Nat.le_refl _) (.cells #[.int .i64 0, .int .i64 0] 142))).after ((Below.refl _ _).alloc (Nat.le_refl _) (.cells #[.int .i64 0, .int .i64 0] 142));have l0 := ((hl.alloc (Nat.le_refl _) (.cells #[.slice A n c] 32)).mono (B' := (w.alloc (.cells #[.slice A n c] 32)).heap.size) (by simp))
 have l1 := (l0.after ((Below.refl _ _).alloc (Nat.le_refl _) (.cells #[.int .i64 0, .int .i64 0] 142))).after ((Below.refl _ _).alloc (Nat.le_refl _) (.cells #[.int .i64 0, .int .i64 0] 142));have HST := Lib.hid ST;clear h0 l0 h hl ST;cases hL : loadsB zs n ls q
 ·have HF := Lib.hid (lf_f (lfB_1 k hL))
  go_enter Tryzx.func112, Tryz.ntmps112;go_wp2_with fail
  refine (iLoadsOk_any _ _ _ zs _ _ _ ls _ h1 hn l1 hq).mono ?_;rw [hL];rintro e w1 ⟨rfl, hb1⟩;have HS1 := Lib.hid (HST.out.after hb1);have c0 := HS1.out.sum.cell (i := 0) (by omega)
  have c1 := HS1.out.sum.cell (i := 1) (by omega)
  have d0 := HS1.out.res.cell (i := 0) (by omega)
  have d1 := HS1.out.res.cell (i := 1) (by omega)
  have f0 := HS1.out.res.frozen 0;have f1 := HS1.out.res.frozen 1;have r0 : ints [0, 0] 0 = .int .i64 0 := rfl;have r1 : ints [0, 0] 1 = .int .i64 0 := rfl;rw [r0] at c0 d0;rw [r1] at c1 d1;clear hb1 r0 r1;go_wp2;refine bodyPost_ret (v := .agg #[.int .i64 0, .int .i64 0]) (by simp [results, Tryz.results112, go_sem, *]) rfl ⟨by rw [HF.out.1, HF.out.2], ?_⟩
  exact (HS1.out.below.setCell (p := ⟨w.heap.size + 1, 0, none⟩) (by simp) _).setCell (p := ⟨w.heap.size + 1, 1, none⟩) (by simp) _
 ·obtain ⟨hA, hq6, hLA⟩ := loadsB_out hL
  have hn8 := (archB_out hA).1;have e1 : IntKind.i64.wrap ((n : Int) - 1) = (n : Int) - 1 := IntWalk.i64_in _ (by omega)
  clear hA hLA;cases hK : inB k 0 ((n : Int) - 1)
  ·have HF := Lib.hid (lf_f (lfB_2 zs ls q hK))
   go_enter Tryzx.func112, Tryz.ntmps112;go_wp2_with fail
   refine (iLoadsOk_any _ _ _ zs _ _ _ ls _ h1 hn l1 hq).mono ?_;rw [hL];rintro e w1 ⟨rfl, hb1⟩;have HS1 := Lib.hid (HST.out.after hb1);have c0 := HS1.out.sum.cell (i := 0) (by omega)
   have c1 := HS1.out.sum.cell (i := 1) (by omega)
   have d0 := HS1.out.res.cell (i := 0) (by omega)
   have d1 := HS1.out.res.cell (i := 1) (by omega)
   have f0 := HS1.out.res.frozen 0;have f1 := HS1.out.res.frozen 1;have r0 : ints [0, 0] 0 = .int .i64 0 := rfl;have r1 : ints [0, 0] 1 = .int .i64 0 := rfl;have bx := HS1.out.box.1;rw [r0] at c0 d0;rw [r1] at c1 d1;clear hb1 r0 r1;go_wp2_with (go_at_call 80; refine (within_any _ _ _ _).mono ?_; rw [hK]; rintro e w' ⟨rfl, rfl⟩);refine bodyPost_ret (v := .agg #[.int .i64 0, .int .i64 0]) (by simp [results, Tryz.results112, go_sem, *]) rfl ⟨by rw [HF.out.1, HF.out.2], ?_⟩
   exact (HS1.out.below.setCell (p := ⟨w.heap.size + 1, 0, none⟩) (by simp) _).setCell (p := ⟨w.heap.size + 1, 1, none⟩) (by simp) _
  ·have hk := inB_iff.1 hK
   obtain ⟨K, rfl⟩ : ∃ K : Nat, k = (K : Int) := ⟨k.toNat, by omega⟩
   have HT := Lib.hid (lf_t (lfB_t hL hK));obtain ⟨m, rfl⟩ : ∃ m, n = m + 1 := ⟨n - 1, by omega⟩
   have hKm : K ≤ m := by omega
   have HWB := Lib.hid (leftW_bd zs (loadsB_out hL).2.2 hq6);have HMB := Lib.hid (leftM_bd zs (loadsB_out hL).2.2 hq6);have HKB := Lib.hid (fun k => kwTo_bd zs (loadsB_out hL).2.2 hq6 k (Nat.le_refl q))
   have HNB := Lib.hid (fun k => kmTo_bd zs (loadsB_out hL).2.2 hq6 k (Nat.le_refl q))
   have hK' : inB (K : Int) 0 (m : Int) = true := inB_t (by omega)
   clear hk hK;go_enter Tryzx.func112, Tryz.ntmps112;go_wp2_with fail
   refine (iLoadsOk_any _ _ _ zs _ _ _ ls _ h1 hn l1 hq).mono ?_;rw [hL];rintro e w1 ⟨rfl, hb1⟩;have HS1 := Lib.hid (HST.out.after hb1);have bx := HS1.out.box.1;have h2 := h1.after hb1;have l2 := l1.after hb1;clear hb1;go_wp2_with (go_at_call 80; refine (within_any _ _ _ _).mono ?_; rw [hK']; rintro e w' ⟨rfl, rfl⟩);refine (weightsOf_any _ _ _ zs _ _ _ ls _ h2 l2 hL).mono ?_;rintro e w2 ⟨g, rfl, hg, hrw, hb2⟩;have HS2 := Lib.hid (HS1.out.after hb2);have HRW := Lib.hid hrw;have hrr := HS2.out.sum.lt;have hgs : w.heap.size + 2 < g := by have := HS1.out.sum.lt; omega
   have s0 : (0 : Int) ≤ (K : Int) := by omega
   have s1 : (K : Int) ≤ ((m + 1 - 1 : Nat) : Int) := by omega
   have s2 : (K : Int) ≤ (m : Int) := by omega
   clear hb2 hrw h1 l1 h2 l2 HS1 HST bx hg;rw [Nat.add_sub_cancel] at *
   go_wp2;have HS0 : Hid (RowF w2 (w.heap.size + 2) 142 2 (ints [leftW zs ls q 0, leftM zs ls q 0])) := HS2.out.sum;go_loopw [30] (fun i wr => ∃ j : Nat, j ≤ K ∧ i = .int .i64 j ∧ Hid (LeftStart w wr (.slice A (m + 1) c) (leftW zs ls q j) (leftM zs ls q j)) ∧ Hid (RowF wr g 142 (m * 2) (ints (wmL zs ls q m)))) (fun i _ => K - (intOf i).toNat)
   case atStart => exact ⟨0, Nat.zero_le _, rfl, HS2, HRW⟩
   case round =>
    clear HS2 HRW HS0;obtain ⟨j, hj, rfl, HS, HR⟩ := hrel;by_cases hlt : j < K
    ·have hz := HS.out.sum.lt
     have hgl := HR.out.lt;have x0 := HR.out.cell (i := j * 2) (by omega)
     have x1 := HR.out.cell (i := j * 2 + 1) (by omega)
     have hn := wmL_nth zs ls q (m := m) (k := j) (by omega)
     rw [ints_def, hn.1] at x0;rw [ints_def, hn.2] at x1;have c0 : wr.cell? ⟨w.heap.size + 2, 0, none⟩ = some (.int .i64 (leftW zs ls q j)) := HS.out.sum.cell (by omega)
     have c1 : wr.cell? ⟨w.heap.size + 2, 1, none⟩ = some (.int .i64 (leftM zs ls q j)) := HS.out.sum.cell (by omega)
     have f0 := HS.out.sum.frozen 0;have f1 := HS.out.sum.frozen 1;have HSA := Lib.hid (HS.out.after ((Below.refl _ _).alloc (Nat.le_refl _) (.cells #[.int .i64 (kwTo zs ls j q), .int .i64 (kmTo zs ls j q)] 142)));have HRA := Lib.hid (HR.out.alloc (.cells #[.int .i64 (kwTo zs ls j q), .int .i64 (kmTo zs ls j q)] 142));have hw1 := HWB.out j;have hw2 := HMB.out j;have hw3 := HKB.out j;have hw4 := HNB.out j;have HW1 : Hid (leftW zs ls q (j + 1) = leftW zs ls q j + kwTo zs ls j q) := rfl;have HM1 : Hid (leftM zs ls q (j + 1) = leftM zs ls q j + kmTo zs ls j q) := rfl;have js : (0 : Int) ≤ (j : Int) := by omega
     have js1 : (j : Int) < (K : Int) := by omega
     clear hn;go_wp2;go_roundw
     case rel => exact ⟨j + 1, by omega, by go_num, Lib.hid ((HS.out.set _ _).after ((Below.refl _ _).alloc (Nat.le_refl _) _)), Lib.hid (((HR.out.set_other (by simp; omega) _).set_other (by simp; omega) _).alloc _)⟩
     case measure => simp [intOf]; omega
    ·obtain rfl : K = j := by omega
     have c0 : wr.cell? ⟨w.heap.size + 2, 0, none⟩ = some (.int .i64 (leftW zs ls q K)) := HS.out.sum.cell (by omega)
     have c1 : wr.cell? ⟨w.heap.size + 2, 1, none⟩ = some (.int .i64 (leftM zs ls q K)) := HS.out.sum.cell (by omega)
     have d0 : wr.cell? ⟨w.heap.size + 1, 0, none⟩ = some (.int .i64 0) := HS.out.res.cell (by omega)
     have d1 : wr.cell? ⟨w.heap.size + 1, 1, none⟩ = some (.int .i64 0) := HS.out.res.cell (by omega)
     have f0 := HS.out.res.frozen 0;have f1 := HS.out.res.frozen 1;go_wp2;refine bodyPost_ret (v := .agg #[.int .i64 (leftW zs ls q K), .int .i64 (leftM zs ls q K)]) (by simp [results, Tryz.results112, go_sem, *]) rfl ⟨by rw [HT.out.1, HT.out.2], ?_⟩
     exact (HS.out.below.setCell (p := ⟨w.heap.size + 1, 0, none⟩) (by simp) _).setCell (p := ⟨w.heap.size + 1, 1, none⟩) (by simp) _
end X
namespace X
open Go.RowKit
set_option maxRecDepth 100000 in
set_option maxHeartbeats 1600000 in
theorem pushOk_any (A : Option Addr) (n c : Nat) (zs : List Int) (B : Option Addr) (q d : Nat) (ls : List Int) (H V M D k : Int) (w : World) (h : RecsAt w w.heap.size 4 A n zs) (hn : n ≤ 1048576) (hl : RecsAt w w.heap.size 3 B q ls) (hq : q ≤ 1048576) :
  Calls Tryzx.prog 111 #[.agg #[.slice A n c], .slice B q d, .agg #[.int .i64 H, .int .i64 V, .int .i64 M, .int .i64 D], .int .i64 k] w fun e w' => e = .returned (.bool (pushB zs n ls q H V M D k)) ∧ Below w.heap.size w w' := by
 have at0 := AT.start w (.slice A n c) H V M D 32 40;have b0 := at_below w (.slice A n c) H V M D 32 40;have h1 := h.after b0;have l1 := hl.after b0;have HAT := Lib.hid at0;clear at0 b0 h hl;cases hL : loadsB zs n ls q
 ·have HF := Lib.hid (pushB_1 H V M D k hL)
  go_enter Tryzx.func111, Tryz.ntmps111;go_wp2_with fail
  refine (iLoadsOk_any _ _ _ zs _ _ _ ls _ h1 hn l1 hq).mono ?_;rw [hL];rintro e w1 ⟨rfl, hb1⟩;have HB1 := Lib.hid (HAT.out.after hb1).below;clear hb1;go_wp2;go_ret;exact ⟨ret_bool HF.out.symm, HB1.out⟩
 have hn8 := (archB_out (loadsB_out hL).1).1;have e1 : IntKind.i64.wrap ((n : Int) - 1) = (n : Int) - 1 := IntWalk.i64_in _ (by omega)
 cases hT : thrB H V M D
 ·have HF := Lib.hid (pushB_2 zs n ls q k hT)
  go_enter Tryzx.func111, Tryz.ntmps111;go_wp2_with fail
  refine (iLoadsOk_any _ _ _ zs _ _ _ ls _ h1 hn l1 hq).mono ?_;rw [hL];rintro e w1 ⟨rfl, hb1⟩;have HA1 := Lib.hid (HAT.out.after hb1);have c0 := HA1.out.thr.1.1;have c1 := HA1.out.thr.1.2.1;have c2 := HA1.out.thr.1.2.2.1;have c3 := HA1.out.thr.1.2.2.2;clear hb1;go_wp2_with fail
  refine (iThrustOk_any _ _ _ _ _).mono ?_;rw [hT];rintro e w2 ⟨rfl, hb2⟩;have HB2 := Lib.hid (HA1.out.after hb2).below;clear hb2;go_wp2;go_ret;exact ⟨ret_bool HF.out.symm, HB2.out⟩
 have HF : Hid (inB k 0 ((n : Int) - 1) = pushB zs n ls q H V M D k) := by
  show _ = _
  simp [pushB, hL, hT]
 go_enter Tryzx.func111, Tryz.ntmps111;go_wp2_with fail
 refine (iLoadsOk_any _ _ _ zs _ _ _ ls _ h1 hn l1 hq).mono ?_;rw [hL];rintro e w1 ⟨rfl, hb1⟩;have HA1 := Lib.hid (HAT.out.after hb1);have c0 := HA1.out.thr.1.1;have c1 := HA1.out.thr.1.2.1;have c2 := HA1.out.thr.1.2.2.1;have c3 := HA1.out.thr.1.2.2.2;clear hb1;go_wp2_with fail
 refine (iThrustOk_any _ _ _ _ _).mono ?_;rw [hT];rintro e w2 ⟨rfl, hb2⟩;have HA2 := Lib.hid (HA1.out.after hb2);have c4 := HA2.out.arch.1;clear hb2 c0 c1 c2 c3;go_wp2_with (go_at_call 80; refine (within_any _ _ _ _).mono ?_; rintro e w' ⟨rfl, rfl⟩);go_ret;exact ⟨ret_bool HF.out, HA2.out.below⟩
set_option maxRecDepth 100000 in
set_option maxHeartbeats 1600000 in
theorem l09Ok_any (A : Option Addr) (n c : Nat) (zs : List Int) (B : Option Addr) (q d : Nat) (ls : List Int) (H V M D k : Int) (w : World) (h : RecsAt w w.heap.size 4 A n zs) (hn : n ≤ 1048576) (hl : RecsAt w w.heap.size 3 B q ls) (hq : q ≤ 1048576) :
  Calls Tryzx.prog 107 #[.agg #[.slice A n c], .slice B q d, .agg #[.int .i64 H, .int .i64 V, .int .i64 M, .int .i64 D], .int .i64 k] w fun e w' => e = .returned (.bool (pushB zs n ls q H V M D k)) ∧ Below w.heap.size w w' := by
 have at0 := AT.start w (.slice A n c) H V M D 32 40;have b0 := at_below w (.slice A n c) H V M D 32 40;have h1 := h.after b0;have l1 := hl.after b0;have HAT := Lib.hid at0;clear at0 b0 h hl;cases hL : loadsB zs n ls q
 ·have HF := Lib.hid (pushB_1 H V M D k hL)
  go_enter Tryzx.func107, Tryz.ntmps107;go_wp2_with fail
  refine (sLoadsOk_any _ _ _ zs _ _ _ ls _ h1 hn l1 hq).mono ?_;rw [hL];rintro e w1 ⟨rfl, hb1⟩;have HB1 := Lib.hid (HAT.out.after hb1).below;clear hb1;go_wp2;go_ret;exact ⟨ret_bool HF.out.symm, HB1.out⟩
 have hn8 := (archB_out (loadsB_out hL).1).1;have e1 : IntKind.i64.wrap ((n : Int) - 1) = (n : Int) - 1 := IntWalk.i64_in _ (by omega)
 cases hT : thrB H V M D
 ·have HF := Lib.hid (pushB_2 zs n ls q k hT)
  go_enter Tryzx.func107, Tryz.ntmps107;go_wp2_with fail
  refine (sLoadsOk_any _ _ _ zs _ _ _ ls _ h1 hn l1 hq).mono ?_;rw [hL];rintro e w1 ⟨rfl, hb1⟩;have HA1 := Lib.hid (HAT.out.after hb1);have c0 := HA1.out.thr.1.1;have c1 := HA1.out.thr.1.2.1;have c2 := HA1.out.thr.1.2.2.1;have c3 := HA1.out.thr.1.2.2.2;clear hb1;go_wp2_with fail
  refine (sThrustOk_any _ _ _ _ _).mono ?_;rw [hT];rintro e w2 ⟨rfl, hb2⟩;have HB2 := Lib.hid (HA1.out.after hb2).below;clear hb2;go_wp2;go_ret;exact ⟨ret_bool HF.out.symm, HB2.out⟩
 have HF : Hid (inB k 0 ((n : Int) - 1) = pushB zs n ls q H V M D k) := by
  show _ = _
  simp [pushB, hL, hT]
 go_enter Tryzx.func107, Tryz.ntmps107;go_wp2_with fail
 refine (sLoadsOk_any _ _ _ zs _ _ _ ls _ h1 hn l1 hq).mono ?_;rw [hL];rintro e w1 ⟨rfl, hb1⟩;have HA1 := Lib.hid (HAT.out.after hb1);have c0 := HA1.out.thr.1.1;have c1 := HA1.out.thr.1.2.1;have c2 := HA1.out.thr.1.2.2.1;have c3 := HA1.out.thr.1.2.2.2;clear hb1;go_wp2_with fail
 refine (sThrustOk_any _ _ _ _ _).mono ?_;rw [hT];rintro e w2 ⟨rfl, hb2⟩;have HA2 := Lib.hid (HA1.out.after hb2);have c4 := HA2.out.arch.1;clear hb2 c0 c1 c2 c3;go_wp2_with (go_at_call 79; refine (l01In_any _ _ _ _).mono ?_; rintro e w' ⟨rfl, rfl⟩);go_ret;exact ⟨ret_bool HF.out, HA2.out.below⟩
set_option maxRecDepth 100000 in
set_option maxHeartbeats 1600000 in
theorem l09Moment_any (H V M D W Mo px py : Int) (w : World) (h : MomBd H V M D W Mo px py) :
  Calls Tryzx.prog 109 #[.agg #[.int .i64 H, .int .i64 V, .int .i64 M, .int .i64 D], .int .i64 W, .int .i64 Mo, .agg #[.int .i64 px, .int .i64 py]] w fun e w' => e = .returned (.int .i64 (momI H V M D W Mo px py)) ∧ Below w.heap.size w w' := by
 obtain ⟨h1, h2, h3, h4, h5, h6⟩ := h;have HE : Hid (M - D * Mo - px * (V - D * W) + py * H = momI H V M D W Mo px py) := rfl;have e1 : IntKind.i64.wrap (D * Mo) = D * Mo := IntWalk.i64_in _ (by omega)
 have e2 : IntKind.i64.wrap (D * W) = D * W := IntWalk.i64_in _ (by omega)
 have e3 : IntKind.i64.wrap (px * (V - D * W)) = px * (V - D * W) := IntWalk.i64_in _ (by omega)
 have e4 : IntKind.i64.wrap (py * H) = py * H := IntWalk.i64_in _ (by omega)
 go_enter Tryzx.func109, Tryz.ntmps109;go_wp2;go_ret;exact ⟨ret_int HE.out, ((Below.refl _ _).alloc (Nat.le_refl _) _).alloc (by simp) _⟩
structure MCap (w : World) (gt gl gu : Nat) (H V M D W Mo : Int) : Prop where
 thr : Box4 w gt H V M D
 left : w.cell? ⟨gl, 0, none⟩ = some (.int .i64 W) ∧ w.cell? ⟨gl, 1, none⟩ = some (.int .i64 Mo) ∧ gl < w.heap.size
 up : w.cell? ⟨gu, 0, none⟩ = some (.int .i64 (V - D * W)) ∧ gu < w.heap.size
theorem MCap.after {w w1 : World} {gt gl gu : Nat} {H V M D W Mo : Int} (h : MCap w gt gl gu H V M D W Mo) (hb : Below w.heap.size w w1) : MCap w1 gt gl gu H V M D W Mo :=
 ⟨h.thr.after hb, ⟨(hb.cell (p := ⟨gl, 0, none⟩) h.left.2.2).trans h.left.1, (hb.cell (p := ⟨gl, 1, none⟩) h.left.2.2).trans h.left.2.1, Nat.lt_of_lt_of_le h.left.2.2 hb.size⟩, ⟨(hb.cell (p := ⟨gu, 0, none⟩) h.up.2).trans h.up.1, Nat.lt_of_lt_of_le h.up.2 hb.size⟩⟩
set_option maxRecDepth 100000 in
set_option maxHeartbeats 1600000 in
theorem moment1_any (gt gl gu : Nat) (H V M D W Mo px py : Int) (w : World) (hc : MCap w gt gl gu H V M D W Mo) (h : MomBd H V M D W Mo px py) :
  Calls Tryzx.prog 113 #[.agg #[.int .i64 px, .int .i64 py], .pointer (some ⟨gt, 0, none⟩), .pointer (some ⟨gl, 0, none⟩), .pointer (some ⟨gu, 0, none⟩)] w fun e w' => e = .returned (.int .i64 (momI H V M D W Mo px py)) ∧ Below w.heap.size w w' := by
 obtain ⟨h1, h2, h3, h4, h5, h6⟩ := h;have HE : Hid (M - D * Mo - px * (V - D * W) + py * H = momI H V M D W Mo px py) := rfl;have e1 : IntKind.i64.wrap (D * Mo) = D * Mo := IntWalk.i64_in _ (by omega)
 have e3 : IntKind.i64.wrap (px * (V - D * W)) = px * (V - D * W) := IntWalk.i64_in _ (by omega)
 have e4 : IntKind.i64.wrap (py * H) = py * H := IntWalk.i64_in _ (by omega)
 obtain ⟨⟨⟨t0, t1, t2, t3⟩, tl⟩, ⟨l0, l1, ll⟩, ⟨u0, ul⟩⟩ := hc;have HU : Hid (∀ x, x = V - D * W → -720000000000000 ≤ px * x ∧ px * x ≤ 720000000000000 ∧ M - D * Mo - px * x + py * H = momI H V M D W Mo px py) := fun x hx => by subst hx; exact ⟨h5.1, h5.2, rfl⟩
 go_enter Tryzx.func113, Tryz.ntmps113;go_wp2;go_ret;exact ⟨ret_int HE.out, (Below.refl _ _).alloc (Nat.le_refl _) _⟩
end X
namespace X
open Go.RowKit
theorem MCap.drew {w : World} {gt gl gu : Nat} {H V M D W Mo : Int} (h : MCap w gt gl gu H V M D W Mo) : MCap w.drew gt gl gu H V M D W Mo := ⟨h.thr, h.left, h.up⟩
set_option maxRecDepth 100000 in
set_option maxHeartbeats 3200000 in
theorem sMomentsAt_any (A : Option Addr) (n c : Nat) (zs : List Int) (B : Option Addr) (q d : Nat) (ls : List Int) (H V M D k : Int) (w : World) (h : RecsAt w w.heap.size 4 A n zs) (hn : n ≤ 1048576) (hl : RecsAt w w.heap.size 3 B q ls) (hq : q ≤ 1048576) :
  Calls Tryzx.prog 85 #[.agg #[.slice A n c], .slice B q d, .agg #[.int .i64 H, .int .i64 V, .int .i64 M, .int .i64 D], .int .i64 k] w fun e w' => e = .returned (.tuple #[.int .i64 (mIn zs n ls q H V M D k), .int .i64 (mOut zs n ls q H V M D k)]) ∧ Below w.heap.size w w' := by
 have at0 := AT.start w (.slice A n c) H V M D 32 40;have b0 := at_below w (.slice A n c) H V M D 32 40;have h1 := h.after b0;have l1 := hl.after b0;have HAT := Lib.hid at0;clear at0 b0 hl;cases hP : pushB zs n ls q H V M D k
 ·have HF := Lib.hid (m_f hP)
  go_enter Tryzx.func85, Tryz.ntmps85;go_wp2_with fail
  refine (l09Ok_any _ _ _ zs _ _ _ ls _ _ _ _ _ _ h1 hn l1 hq).mono ?_;rw [hP];rintro e w1 ⟨rfl, hb1⟩;have HB1 := Lib.hid (HAT.out.after hb1).below;clear hb1;go_wp2;go_ret2;exact ⟨by rw [HF.out.1, HF.out.2]; rfl, HB1.out⟩
 obtain ⟨hL, hT, hk0, hk1⟩ := pushB_out hP;obtain ⟨K, rfl⟩ : ∃ K : Nat, k = (K : Int) := ⟨k.toNat, by omega⟩
 have HM := Lib.hid (m_t hP);have HMB := Lib.hid (m_bds hP);have hK : K < n := by omega
 obtain ⟨b, off, rfl, hbB, hcell⟩ := h.2 (by omega)
 have HC := Lib.hid (jtCells hcell hK);have k0 : (0 : Int) ≤ (K : Int) := by omega
 have k1 : (K : Int) < (n : Int) := by omega
 clear hcell h hk0 hk1;go_enter Tryzx.func85, Tryz.ntmps85;go_wp2_with fail
 refine (l09Ok_any _ _ _ zs _ _ _ ls _ _ _ _ _ _ h1 hn l1 hq).mono ?_;rw [hP];rintro e w1 ⟨rfl, hb1⟩;have HA1 := Lib.hid (HAT.out.after hb1);have h2 := h1.after hb1;have l2 := l1.after hb1;have a0 := HA1.out.arch.1;clear hb1;go_wp2_with fail
 refine (sLeft_any _ _ _ zs _ _ _ ls _ h2 l2 hL).mono ?_;rintro e w2 ⟨A6, c6, A7, c7, rfl, hi6, hi7, hb2⟩;obtain ⟨b6, o6, rfl, hl6, hc6⟩ := hi6.2 (by omega)
 obtain ⟨b7, o7, rfl, hl7, hc7⟩ := hi7.2 (by omega)
 have z6 := hc6 K hK;have z7 := hc7 K hK;rw [lwL_nth hK] at z6;rw [lmL_nth hK] at z7;have HA2 := Lib.hid (HA1.out.after hb2);clear a0 hb2 h1 h2 l1 l2 hc6 hc7 hi6 hi7;have hz2 := HA2.out.below.size;have a2 := HA2.out.arch.1;have al := HA2.out.arch.2;have tl := HA2.out.thr.2;have t0 := HA2.out.thr.1.1;have t1 := HA2.out.thr.1.2.1;have t2 := HA2.out.thr.1.2.2.1;have t3 := HA2.out.thr.1.2.2.2;have j0 := (HA2.out.below.cell (p := ⟨b, off + K * 4, none⟩) hbB).trans HC.out.1;have j1 := (HA2.out.below.cell (p := ⟨b, off + K * 4 + 1, none⟩) hbB).trans HC.out.2.1;have j2 := (HA2.out.below.cell (p := ⟨b, off + K * 4 + 2, none⟩) hbB).trans HC.out.2.2.1;have j3 := (HA2.out.below.cell (p := ⟨b, off + K * 4 + 3, none⟩) hbB).trans HC.out.2.2.2;have bl : b < w2.heap.size := by omega
 go_wp2;go_region_held3 (fun w' => w'.cell? ⟨w.heap.size, 0, none⟩ = some (.slice (some ⟨b, off, none⟩) n c) ∧ (w'.cell? ⟨w.heap.size + 1, 0, none⟩ = some (.int .i64 H) ∧ w'.cell? ⟨w.heap.size + 1, 1, none⟩ = some (.int .i64 V) ∧ w'.cell? ⟨w.heap.size + 1, 2, none⟩ = some (.int .i64 M) ∧ w'.cell? ⟨w.heap.size + 1, 3, none⟩ = some (.int .i64 D)) ∧ w'.cell? ⟨b6, o6 + K, none⟩ = some (.int .i64 (leftW zs ls q K)) ∧ w'.cell? ⟨b7, o7 + K, none⟩ = some (.int .i64 (leftM zs ls q K)) ∧ (w'.cell? ⟨b, off + K * 4, none⟩ = some (.int .i64 (nth zs (K * 4))) ∧ w'.cell? ⟨b, off + K * 4 + 1, none⟩ = some (.int .i64 (nth zs (K * 4 + 1))) ∧ w'.cell? ⟨b, off + K * 4 + 2, none⟩ = some (.int .i64 (nth zs (K * 4 + 2))) ∧ w'.cell? ⟨b, off + K * 4 + 3, none⟩ = some (.int .i64 (nth zs (K * 4 + 3))))) (first | exact ⟨a2, ⟨t0, t1, t2, t3⟩, z6, z7, ⟨j0, j1, j2, j3⟩⟩ | (refine ⟨?_, ⟨?_, ?_, ?_, ?_⟩, ?_, ?_, ⟨?_, ?_, ?_, ?_⟩⟩ <;> (rw [hcc _ _ (by first | omega | (simp <;> omega))]; assumption)))
  ((first | ((with_reducible refine (l09Moment_any _ _ _ _ _ _ _ _ _ HMB.out.1).mono ?_); rintro e w3 ⟨rfl, hb3⟩; obtain ⟨hcc, hff⟩ := bcell hb3; have hz3 := hb3.size; try simp at hz3) | ((with_reducible refine (l09Moment_any _ _ _ _ _ _ _ _ _ HMB.out.2).mono ?_); rintro e w4 ⟨rfl, hb4⟩; have hcc1 := hcc; clear hcc; obtain ⟨hcc2, hff2⟩ := bcell hb4; have hz4 := hb4.size; have hcc : ∀ b o, b < w2.heap.size → w4.cell? ⟨b, o, none⟩ = w2.cell? ⟨b, o, none⟩ := fun b o h => (hcc2 b o (by omega)).trans (hcc1 b o (by simp; omega)))))
 have HB4 := Lib.hid ((below_drewN HA2.out.below 1).trans (hb3.mono (by simp; omega)) |>.trans (hb4.mono (by omega)))
 clear hcc hcc1 hcc2 hff hff2 hb3 hb4;go_wp2;go_ret2;exact ⟨by rw [HM.out.1, HM.out.2]; rfl, HB4.out⟩
set_option maxRecDepth 100000 in
set_option maxHeartbeats 3200000 in
theorem iMomentsAt_any (A : Option Addr) (n c : Nat) (zs : List Int) (B : Option Addr) (q d : Nat) (ls : List Int) (H V M D k : Int) (w : World) (h : RecsAt w w.heap.size 4 A n zs) (hn : n ≤ 1048576) (hl : RecsAt w w.heap.size 3 B q ls) (hq : q ≤ 1048576) :
  Calls Tryzx.prog 87 #[.agg #[.slice A n c], .slice B q d, .agg #[.int .i64 H, .int .i64 V, .int .i64 M, .int .i64 D], .int .i64 k] w fun e w' => e = .returned (.tuple #[.int .i64 (mIn zs n ls q H V M D k), .int .i64 (mOut zs n ls q H V M D k)]) ∧ Below w.heap.size w w' := by
 have at0 := AT.start w (.slice A n c) H V M D 32 40;have b0 := at_below w (.slice A n c) H V M D 32 40;have h1 := h.after b0;have l1 := hl.after b0;have HAT := Lib.hid at0;clear at0 b0 hl;cases hP : pushB zs n ls q H V M D k
 ·have HF := Lib.hid (m_f hP)
  go_enter Tryzx.func87, Tryz.ntmps87;go_wp2_with fail
  refine (pushOk_any _ _ _ zs _ _ _ ls _ _ _ _ _ _ h1 hn l1 hq).mono ?_;rw [hP];rintro e w1 ⟨rfl, hb1⟩;have HB1 := Lib.hid (HAT.out.after hb1).below;clear hb1;go_wp2;go_ret2;exact ⟨by rw [HF.out.1, HF.out.2]; rfl, HB1.out⟩
 obtain ⟨hL, hT, hk0, hk1⟩ := pushB_out hP;obtain ⟨K, rfl⟩ : ∃ K : Nat, k = (K : Int) := ⟨k.toNat, by omega⟩
 have HM := Lib.hid (m_t hP);have HMB := Lib.hid (m_bds hP);have hK : K < n := by omega
 obtain ⟨b, off, rfl, hbB, hcell⟩ := h.2 (by omega)
 have HC := Lib.hid (jtCells hcell hK);have k0 : (0 : Int) ≤ (K : Int) := by omega
 have k1 : (K : Int) < (n : Int) := by omega
 clear hcell h hk0 hk1;go_enter Tryzx.func87, Tryz.ntmps87;go_wp2_with fail
 refine (pushOk_any _ _ _ zs _ _ _ ls _ _ _ _ _ _ h1 hn l1 hq).mono ?_;rw [hP];rintro e w1 ⟨rfl, hb1⟩;have HA1 := Lib.hid (HAT.out.after hb1);have h2 := h1.after hb1;have l2 := l1.after hb1;have a0 := HA1.out.arch.1;clear hb1;have hlt : lfB zs n ls q (K : Int) = true := lfB_t hL (inB_t (by omega))
 have HLT := Lib.hid (lf_t hlt);clear hlt;go_wp2_with fail
 refine (leftOf_any _ _ _ zs _ _ _ ls _ _ h2 hn l2 hq).mono ?_;rw [HLT.out.1, HLT.out.2];rintro e w2 ⟨rfl, hb2⟩;have HA2 := Lib.hid (HA1.out.after hb2);clear a0 hb2 h1 h2 l1 l2;have hz2 := HA2.out.below.size;have a2 := HA2.out.arch.1;have al := HA2.out.arch.2;have tl := HA2.out.thr.2;have t0 := HA2.out.thr.1.1;have t1 := HA2.out.thr.1.2.1;have t2 := HA2.out.thr.1.2.2.1;have t3 := HA2.out.thr.1.2.2.2;have j0 := (HA2.out.below.cell (p := ⟨b, off + K * 4, none⟩) hbB).trans HC.out.1;have j1 := (HA2.out.below.cell (p := ⟨b, off + K * 4 + 1, none⟩) hbB).trans HC.out.2.1;have j2 := (HA2.out.below.cell (p := ⟨b, off + K * 4 + 2, none⟩) hbB).trans HC.out.2.2.1;have j3 := (HA2.out.below.cell (p := ⟨b, off + K * 4 + 3, none⟩) hbB).trans HC.out.2.2.2;have bl : b < w2.heap.size := by omega
 have hbd := HMB.out.1.dw;have hv := HMB.out.1.v;have e2 : IntKind.i64.wrap (D * leftW zs ls q K) = D * leftW zs ls q K := IntWalk.i64_in _ (by omega)
 have HS0 : Below w2.heap.size w2 ((w2.alloc (.cells #[.int .i64 (leftW zs ls q K), .int .i64 (leftM zs ls q K)] 142)).alloc (.cells #[.int .i64 (V - D * leftW zs ls q K)] 3)) := ((Below.refl _ _).alloc (Nat.le_refl _) _).alloc (by simp) _
 have HCAP : Hid (MCap ((w2.alloc (.cells #[.int .i64 (leftW zs ls q K), .int .i64 (leftM zs ls q K)] 142)).alloc (.cells #[.int .i64 (V - D * leftW zs ls q K)] 3)) (w.heap.size + 1) w2.heap.size (w2.heap.size + 1) H V M D (leftW zs ls q K) (leftM zs ls q K)) := by
  have h1 := (rowF_new2 w2 (leftW zs ls q K) (leftM zs ls q K) 142).alloc (.cells #[.int .i64 (V - D * leftW zs ls q K)] 3);have h2 := rowF_new1 (w2.alloc (.cells #[.int .i64 (leftW zs ls q K), .int .i64 (leftM zs ls q K)] 142)) (.int .i64 (V - D * leftW zs ls q K)) 3;rw [World.size_alloc] at h2;exact ⟨HA2.out.thr.after HS0, ⟨h1.cell (by omega), h1.cell (by omega), h1.lt⟩, ⟨h2.cell (by omega), h2.lt⟩⟩
 have HA3 := Lib.hid (HA2.out.after HS0);have a3 := HA3.out.arch.1;have i0 := (HS0.cell (p := ⟨b, off + K * 4, none⟩) bl).trans j0;have i1 := (HS0.cell (p := ⟨b, off + K * 4 + 1, none⟩) bl).trans j1;have i2 := (HS0.cell (p := ⟨b, off + K * 4 + 2, none⟩) bl).trans j2;have i3 := (HS0.cell (p := ⟨b, off + K * 4 + 3, none⟩) bl).trans j3;clear HS0 j0 j1 j2 j3;generalize hW3 : leftW zs ls q K = lw at *
 generalize hM3 : leftM zs ls q K = lm at *
 have HW3 := Lib.hid hW3;have HM3 := Lib.hid hM3;clear hW3 hM3;go_wp2;clear a2 t0 t1 t2 t3 hbd hv;have HCAPD := Lib.hid HCAP.out.drew;go_region_held3 (fun w' => w'.cell? ⟨w.heap.size, 0, none⟩ = some (.slice (some ⟨b, off, none⟩) n c) ∧ (w'.cell? ⟨b, off + K * 4, none⟩ = some (.int .i64 (nth zs (K * 4))) ∧ w'.cell? ⟨b, off + K * 4 + 1, none⟩ = some (.int .i64 (nth zs (K * 4 + 1))) ∧ w'.cell? ⟨b, off + K * 4 + 2, none⟩ = some (.int .i64 (nth zs (K * 4 + 2))) ∧ w'.cell? ⟨b, off + K * 4 + 3, none⟩ = some (.int .i64 (nth zs (K * 4 + 3))))) (first | exact ⟨a3, ⟨i0, i1, i2, i3⟩⟩ | (refine ⟨?_, ⟨?_, ?_, ?_, ?_⟩⟩ <;> (rw [hcc _ _ (by first | omega | (simp <;> omega))]; assumption)))
  (((go_at_call 113; first | ((with_reducible refine (moment1_any _ _ _ _ _ _ _ _ _ _ _ _ HCAPD.out HMB.out.1).mono ?_); rintro e w3 ⟨rfl, hb3⟩; have HCAP3 := Lib.hid (HCAPD.out.after hb3); obtain ⟨hcc, hff⟩ := bcell hb3; have hz3 := hb3.size; try simp at hz3) | ((with_reducible refine (moment1_any _ _ _ _ _ _ _ _ _ _ _ _ HCAP3.out HMB.out.2).mono ?_); rintro e w4 ⟨rfl, hb4⟩; have hcc1 := hcc; clear hcc; obtain ⟨hcc2, hff2⟩ := bcell hb4; have hz4 := hb4.size; have hcc : ∀ b o, b < w2.heap.size + 2 → w4.cell? ⟨b, o, none⟩ = ((w2.alloc (.cells #[.int .i64 lw, .int .i64 lm] 142)).alloc (.cells #[.int .i64 (V - D * lw)] 3)).cell? ⟨b, o, none⟩ := fun b o h => (hcc2 b o (by omega)).trans (hcc1 b o (by simp; omega))))))
 have HB4 := Lib.hid ((below_drewN HA3.out.below 1).trans (hb3.mono (by simp; omega)) |>.trans (hb4.mono (by omega)))
 clear hcc hcc1 hcc2 hff hff2 hb3 hb4;go_wp2;go_ret2;exact ⟨by rw [HM.out.1, HM.out.2]; rfl, HB4.out⟩
end X
section
open Go.RowKit
theorem OwnV.slice {w : World} {base : Nat} {E : TypeId} {v : Value} {xs : List Int} (h : OwnV w base E v xs) : ∃ A k c, v = .slice A k c := by
 rcases h.form with ⟨e, _⟩ | ⟨g, cap, e, _⟩
 ·exact ⟨_, _, _, e⟩
 ·exact ⟨_, _, _, e⟩
theorem OwnV.weakenV {w : World} {base base' : Nat} {E : TypeId} {v : Value} {xs : List Int} (h : OwnV w base E v xs) (hb : base' ≤ base) : OwnV w base' E v xs := by
 refine ⟨h.1, ?_⟩;rcases h.2 with h2 | ⟨g, cap, cur, h1, h2, h3⟩
 ·exact .inl h2
 ·exact .inr ⟨g, cap, cur, h1, Nat.le_trans hb h2, h3⟩
theorem OwnV.belowV {w w' : World} {base : Nat} {E : TypeId} {v : Value} {xs : List Int} (h : OwnV w base E v xs) (hb : Below w.heap.size w w') : OwnV w' base E v xs := by
 refine ⟨h.1, ?_⟩;rcases h.2 with h2 | ⟨g, cap, cur, h1, h2, h3, hr⟩
 ·exact .inl h2
 ·refine .inr ⟨g, cap, cur, h1, h2, (hb.block g ?_).trans h3, hr⟩
  exact (Array.getElem?_eq_some_iff.1 h3).1
theorem OwnV.sliceV {w : World} {base : Nat} {E : TypeId} {v : Value} {xs : List Int} (h : OwnV w base E v xs) : ∃ A l c, v = .slice A l c := by
 rcases h.form with ⟨rfl, _⟩ | ⟨g, cap, rfl, _⟩ <;> exact ⟨_, _, _, rfl⟩
end
namespace X
open Go.RowKit
theorem wpList_app {P : Program} (w : World) {ops : Array Oper} {rest : List Oper} {o : Oper} {a : Act} {Q : Exit → Act → World → Prop} (hgd : o.guard = none) (s x : Operand) (t : TypeId)
  (ho : o.op = .call { callee := .builtin .append, args := #[s, x], argTypes := #[t, t] })
  (base : Nat) (E : TypeId) (ht : P.underlying t = some (.slice E)) (hinfo : (P.info? E).map (fun i => (i.zero, i.size, i.bytes)) = some (some (.int .i64 0), 1, 8))
  (v : Value) (xs : List Int) (hs : a.eval s = v) (hown : OwnV w base E v xs) (g c : Nat) (z : Int) (hx : a.eval x = .slice (some ⟨g, 0, none⟩) 1 c)
  (hg : w.cell? ⟨g, 0, none⟩ = some (.int .i64 z)) (B : Nat) (w0 : World) (hb : Below B w0 w) (hB : B ≤ base) (hbase : base ≤ w.heap.size) (k : Nat) (hk : xs.length = k) (hk2 : k ≤ 1099511627776) (xs' : List Int) (hxs : xs ++ [z] = xs')
  (h : ∀ g' cap' w', OwnV w' base E (.slice (some ⟨g', 0, none⟩) (k + 1) cap') xs' → Below B w0 w' → wpList P ops Q rest (a.put o.dst (.slice (some ⟨g', 0, none⟩) (k + 1) cap')) w') : wpList P ops Q (o :: rest) a w := by
 subst hk hxs;refine wpList_append_int w hgd s x t ho base E ht hinfo v xs hs hown g c z hx hg hk2 hbase ?_;intro g' cap' w' hown' hgr;refine h g' cap' w' ?_ (hb.grown hgr (by omega) (fun k hk => by have := hown.ownLt k hk; omega))
 have e := hown'.toV;rw [List.length_append] at e;exact e
end X
namespace X
open Go.RowKit
section
variable (zs : List Int) (n : Nat) (ls : List Int) (q : Nat) (H V M D : Int)
def crAt (k : Nat) : Int := if mIn zs n ls q H V M D (k : Int) = 0 then 1 else if mOut zs n ls q H V M D (k : Int) = 0 then 2 else 0
def crL (k : Nat) : List Int := (List.range k).map (crAt zs n ls q H V M D)
def crRes : List Int := if stB zs n ls q H V M D = true then crL zs n ls q H V M D n else []
end
section
variable {zs : List Int} {n : Nat} {ls : List Int} {q : Nat} {H V M D : Int}
theorem crL_len (k : Nat) : (crL zs n ls q H V M D k).length = k := by simp [crL]
theorem crL_step (k : Nat) : crL zs n ls q H V M D k ++ [crAt zs n ls q H V M D k] = crL zs n ls q H V M D (k + 1) := by simp [crL, List.range_succ]
theorem crRes_t (h : stB zs n ls q H V M D = true) : crRes zs n ls q H V M D = crL zs n ls q H V M D n := by simp [crRes, h]
theorem crRes_f (h : stB zs n ls q H V M D = false) : crRes zs n ls q H V M D = [] := by simp [crRes, h]
end
def CrPost (w : World) (L : List Int) (e : Ending) (w' : World) : Prop :=
 ∃ A l c, e = .returned (.slice A l c) ∧ OwnV w' w.heap.size 3 (.slice A l c) L ∧ Below w.heap.size w w'
theorem AT.keep2 {w wr w1 : World} {v : Value} {H V M D : Int} (h : AT w wr v H V M D) (hb : Below (w.heap.size + 2) wr w1) : AT w w1 v H V M D :=
  ⟨⟨(hb.cell (p := ⟨w.heap.size, 0, none⟩) (by simp)).trans h.arch.1, Nat.lt_of_lt_of_le h.arch.2 hb.size⟩,
   ⟨⟨(hb.cell (p := ⟨w.heap.size + 1, 0, none⟩) (by simp)).trans h.thr.1.1, (hb.cell (p := ⟨w.heap.size + 1, 1, none⟩) (by simp)).trans h.thr.1.2.1, (hb.cell (p := ⟨w.heap.size + 1, 2, none⟩) (by simp)).trans h.thr.1.2.2.1, (hb.cell (p := ⟨w.heap.size + 1, 3, none⟩) (by simp)).trans h.thr.1.2.2.2⟩, Nat.lt_of_lt_of_le h.thr.2 hb.size⟩,
   h.below.trans (hb.mono (by omega))⟩
set_option maxRecDepth 100000 in
set_option maxHeartbeats 3200000 in
theorem iCracksOf_any (A : Option Addr) (n c : Nat) (zs : List Int) (B : Option Addr) (q d : Nat) (ls : List Int) (H V M D : Int) (w : World) (h : RecsAt w w.heap.size 4 A n zs) (hn : n ≤ 1048576) (hl : RecsAt w w.heap.size 3 B q ls) (hq : q ≤ 1048576) :
  Calls Tryzx.prog 78 #[.agg #[.slice A n c], .slice B q d, .agg #[.int .i64 H, .int .i64 V, .int .i64 M, .int .i64 D]] w (CrPost w (crRes zs n ls q H V M D)) := by
 have at0 := AT.start w (.slice A n c) H V M D 32 40;have b0 := at_below w (.slice A n c) H V M D 32 40;have h1 := h.after b0;have l1 := hl.after b0;have HAT := Lib.hid at0;have HH := Lib.hid h;have HL := Lib.hid hl;have hs0 : ((w.alloc (.cells #[.slice A n c] 32)).alloc (.cells #[.int .i64 H, .int .i64 V, .int .i64 M, .int .i64 D] 40)).heap.size = w.heap.size + 2 := by simp
 clear at0 b0 h hl;cases hS : stB zs n ls q H V M D
 ·have HF := Lib.hid (crRes_f hS)
  clear hs0;go_enter Tryzx.func78, Tryz.ntmps78;go_wp2_with fail
  refine (iStandsWith_any _ _ _ zs _ _ _ ls _ _ _ _ _ h1 hn l1 hq).mono ?_;rw [hS];rintro e w1 ⟨rfl, hb1⟩;have HB1 := Lib.hid (HAT.out.after hb1).below;clear hb1;go_wp2;go_ret;exact ⟨_, _, _, rfl, by rw [HF.out]; exact OwnV.nil _ _ _, HB1.out⟩
 have HT := Lib.hid (crRes_t hS);have HS0 := Lib.hid hs0;clear hs0;go_enter Tryzx.func78, Tryz.ntmps78;go_wp2_with fail
 refine (iStandsWith_any _ _ _ zs _ _ _ ls _ _ _ _ _ h1 hn l1 hq).mono ?_;rw [hS];rintro e W1 ⟨rfl, hb1⟩;have HA1 := Lib.hid (HAT.out.after hb1);have a1 := HA1.out.arch.1;have hz1 := hb1.size;rw [HS0.out] at hz1;clear hb1 h1 l1 HAT;go_wp2;go_loopw [7, 19] (fun v7 v19 wr => ∃ (k : Nat), k ≤ n ∧ v19 = .int .i64 k ∧ Hid (OwnV wr W1.heap.size 3 v7 (crL zs n ls q H V M D k)) ∧ Hid (Below W1.heap.size W1 wr)) (fun _ v19 _ => n - (intOf v19).toNat)
 case atStart => exact ⟨0, Nat.zero_le _, rfl, Lib.hid (OwnV.nil _ _ _), Lib.hid (Below.refl _ _)⟩
 case round =>
  clear a1;obtain ⟨k, hk, rfl, HO, HB⟩ := hrel;have HA := Lib.hid (HA1.out.after HB.out);have hz := HB.out.size;by_cases hlt : k < n
  ·have a0 := HA.out.arch.1
   have t0 := HA.out.thr.1.1;have t1 := HA.out.thr.1.2.1;have t2 := HA.out.thr.1.2.2.1;have t3 := HA.out.thr.1.2.2.2;have r1 := HH.out.below HA.out.below |>.mono HA.out.below.size;have r2 := HL.out.below HA.out.below |>.mono HA.out.below.size;have HSTEP := Lib.hid (crL_step (zs := zs) (n := n) (ls := ls) (q := q) (H := H) (V := V) (M := M) (D := D) k);have HAT : Hid (∀ x y, mIn zs n ls q H V M D (k : Int) = x → mOut zs n ls q H V M D (k : Int) = y → crAt zs n ls q H V M D k = if x = 0 then 1 else if y = 0 then 2 else 0) := fun x y h1 h2 => by subst h1; subst h2; rfl
   go_wp2_with fail
   refine (iMomentsAt_any _ _ _ zs _ _ _ ls _ _ _ _ _ _ r1 hn r2 hq).mono ?_;generalize mIn zs n ls q H V M D (k : Int) = x at *
   generalize mOut zs n ls q H V M D (k : Int) = y at *
   have HE := Lib.hid (HAT.out x y rfl rfl);rintro e w2 ⟨rfl, hb2⟩;have HO2 := Lib.hid (HO.out.belowV hb2);have HB2 := Lib.hid (HB.out.trans (hb2.mono hz));have hz2 := HB2.out.size;clear hb2 a0 t0 t1 t2 t3 r1 r2 HO HB HA HAT;by_cases hx : x = 0
   ·subst hx
    have HX := Lib.hid (show crL zs n ls q H V M D k ++ [1] = crL zs n ls q H V M D (k + 1) by rw [← HSTEP.out, HE.out]; rfl)
    have HBA := Lib.hid (HB2.out.alloc hz2 (.cells #[.int .i64 1] 3));go_wp2_with (at_builtin; refine wpList_app _ rfl (.tmp 36) (.tmp 37) 45 rfl W1.heap.size 3 Tryzx.underlying45 infoInt _ (crL zs n ls q H V M D k) rfl (by exact HO2.out.alloc _) w2.heap.size 1 1 rfl (by exact cell_new1 _ _ _) W1.heap.size W1 (by exact HBA.out) (Nat.le_refl _) (by simp; omega) k (by exact crL_len k) (by omega) _ HX.out ?_; intro g' cap' w3 hown3 hb3)
    go_wp2;go_roundw
    case rel => exact ⟨k + 1, by omega, by go_num, hown3, hb3⟩
    case measure => simp [intOf]; omega
   ·have hxb : (x == 0) = false := by simpa using hx
    by_cases hy : y = 0
    ·subst hy
     have HX := Lib.hid (show crL zs n ls q H V M D k ++ [2] = crL zs n ls q H V M D (k + 1) by rw [← HSTEP.out, HE.out, if_neg hx]; rfl)
     have HBA := Lib.hid (HB2.out.alloc hz2 (.cells #[.int .i64 2] 3));go_wp2_with (at_builtin; refine wpList_app _ rfl (.tmp 42) (.tmp 43) 45 rfl W1.heap.size 3 Tryzx.underlying45 infoInt _ (crL zs n ls q H V M D k) rfl (by exact HO2.out.alloc _) w2.heap.size 1 2 rfl (by exact cell_new1 _ _ _) W1.heap.size W1 (by exact HBA.out) (Nat.le_refl _) (by simp; omega) k (by exact crL_len k) (by omega) _ HX.out ?_; intro g' cap' w3 hown3 hb3)
     go_wp2;go_roundw
     case rel => exact ⟨k + 1, by omega, by go_num, hown3, hb3⟩
     case measure => simp [intOf]; omega
    ·have hyb : (y == 0) = false := by simpa using hy
     have HX := Lib.hid (show crL zs n ls q H V M D k ++ [0] = crL zs n ls q H V M D (k + 1) by rw [← HSTEP.out, HE.out, if_neg hx, if_neg hy])
     have HBA := Lib.hid (HB2.out.alloc hz2 (.cells #[.int .i64 0] 3));go_wp2_with (at_builtin; refine wpList_app _ rfl (.tmp 30) (.tmp 31) 45 rfl W1.heap.size 3 Tryzx.underlying45 infoInt _ (crL zs n ls q H V M D k) rfl (by exact HO2.out.alloc _) w2.heap.size 1 0 rfl (by exact cell_new1 _ _ _) W1.heap.size W1 (by exact HBA.out) (Nat.le_refl _) (by simp; omega) k (by exact crL_len k) (by omega) _ HX.out ?_; intro g' cap' w3 hown3 hb3)
     go_wp2;go_roundw
     case rel => exact ⟨k + 1, by omega, by go_num, hown3, hb3⟩
     case measure => simp [intOf]; omega
  ·obtain rfl : n = k := by omega
   obtain ⟨A9, l9, c9, rfl⟩ := HO.out.sliceV;have HO9 := Lib.hid (HO.out.weakenV HA1.out.below.size);go_wp2;go_ret;exact ⟨_, _, _, rfl, by rw [HT.out]; exact HO9.out, HA.out.below⟩
set_option maxRecDepth 100000 in
set_option maxHeartbeats 3200000 in
theorem sCracksOf_any (A : Option Addr) (n c : Nat) (zs : List Int) (B : Option Addr) (q d : Nat) (ls : List Int) (H V M D : Int) (w : World) (h : RecsAt w w.heap.size 4 A n zs) (hn : n ≤ 1048576) (hl : RecsAt w w.heap.size 3 B q ls) (hq : q ≤ 1048576) :
  Calls Tryzx.prog 75 #[.agg #[.slice A n c], .slice B q d, .agg #[.int .i64 H, .int .i64 V, .int .i64 M, .int .i64 D]] w (CrPost w (crRes zs n ls q H V M D)) := by
 have at0 := AT.start w (.slice A n c) H V M D 32 40;have HH := Lib.hid h;have HL := Lib.hid hl;have hs0 : ((w.alloc (.cells #[.slice A n c] 32)).alloc (.cells #[.int .i64 H, .int .i64 V, .int .i64 M, .int .i64 D] 40)).heap.size = w.heap.size + 1 + 1 := by simp
 have HA0 := Lib.hid (at0.after (by rw [hs0]; exact (Below.refl _ _).alloc (by simp) (.cells #[] 3)))
 have HO0 : Hid (OwnV (((w.alloc (.cells #[.slice A n c] 32)).alloc (.cells #[.int .i64 H, .int .i64 V, .int .i64 M, .int .i64 D] 40)).alloc (.cells #[] 3)) (w.heap.size + 1 + 1) 3 (.slice (some ⟨w.heap.size + 1 + 1, 0, none⟩) 0 0) []) := by
  have h := (OwnI.new ((w.alloc (.cells #[.slice A n c] 32)).alloc (.cells #[.int .i64 H, .int .i64 V, .int .i64 M, .int .i64 D] 40)) 3).toV;rw [hs0] at h;exact h
 have HT : Hid (stB zs n ls q H V M D = true → crRes zs n ls q H V M D = crL zs n ls q H V M D n) := crRes_t;have HF : Hid (stB zs n ls q H V M D = false → crRes zs n ls q H V M D = []) := crRes_f;clear at0 h hl hs0;go_enter Tryzx.func75, Tryz.ntmps75;go_wp2;go_loopw [7, 8] (fun v7 v8 wr => ∃ (k : Nat), k ≤ n ∧ v8 = .int .i64 k ∧ Hid (stB zs n ls q H V M D = false → k = 0) ∧ Hid (OwnV wr (w.heap.size + 1 + 1) 3 v7 (crL zs n ls q H V M D k)) ∧ Hid (AT w wr (.slice A n c) H V M D)) (fun _ v8 _ => n - (intOf v8).toNat)
 case atStart => exact ⟨0, Nat.zero_le _, rfl, Lib.hid (fun _ => rfl), HO0, HA0⟩
 case round =>
  clear HO0 HA0;obtain ⟨k, hk, rfl, HK, HO, HA⟩ := hrel;have a0 := HA.out.arch.1;have t0 := HA.out.thr.1.1;have t1 := HA.out.thr.1.2.1;have t2 := HA.out.thr.1.2.2.1;have t3 := HA.out.thr.1.2.2.2;have hz := HA.out.thr.2;by_cases hlt : k < n
  ·have r1 := HH.out.below HA.out.below |>.mono HA.out.below.size
   have r2 := HL.out.below HA.out.below |>.mono HA.out.below.size;have HSTEP := Lib.hid (crL_step (zs := zs) (n := n) (ls := ls) (q := q) (H := H) (V := V) (M := M) (D := D) k);have HAT : Hid (∀ x y, mIn zs n ls q H V M D (k : Int) = x → mOut zs n ls q H V M D (k : Int) = y → crAt zs n ls q H V M D k = if x = 0 then 1 else if y = 0 then 2 else 0) := fun x y h1 h2 => by subst h1; subst h2; rfl
   go_wp2_with fail
   refine (sStandsWith_any _ _ _ zs _ _ _ ls _ _ _ _ _ r1 hn r2 hq).mono ?_;rintro e w1 ⟨rfl, hb1⟩;have HA1 := Lib.hid (HA.out.after hb1);have HO1 := Lib.hid (HO.out.belowV hb1);have s1 := r1.after hb1;have s2 := r2.after hb1;clear a0 t0 t1 t2 t3 hb1 r1 r2 HO HA;cases hS : stB zs n ls q H V M D
   ·have hk0 := HK.out hS
    subst hk0;have HF1 := Lib.hid (HF.out hS);obtain ⟨A9, l9, c9, rfl⟩ := HO1.out.sliceV;have HO9 := Lib.hid (HO1.out.weakenV (base' := w.heap.size) (by omega))
    go_wp2;go_ret;exact ⟨_, _, _, rfl, by rw [HF1.out]; exact HO9.out, HA1.out.below⟩
   have HK1 : Hid (stB zs n ls q H V M D = false → k + 1 = 0) := fun e => by rw [hS] at e; cases e
   have a0 := HA1.out.arch.1;have t0 := HA1.out.thr.1.1;have t1 := HA1.out.thr.1.2.1;have t2 := HA1.out.thr.1.2.2.1;have t3 := HA1.out.thr.1.2.2.2;clear hS;go_wp2_with fail
   refine (sMomentsAt_any _ _ _ zs _ _ _ ls _ _ _ _ _ _ s1 hn s2 hq).mono ?_;generalize mIn zs n ls q H V M D (k : Int) = x at *
   generalize mOut zs n ls q H V M D (k : Int) = y at *
   have HE := Lib.hid (HAT.out x y rfl rfl);rintro e w2 ⟨rfl, hb2⟩;have HA2 := Lib.hid (HA1.out.after hb2);have HO2 := Lib.hid (HO1.out.belowV hb2);have hz2 := HA2.out.thr.2;clear a0 t0 t1 t2 t3 hb2 s1 s2 HO1 HA1 HAT;by_cases hx : x = 0
   ·by_cases hy : y = 0
    ·have hxb : (x == 0) = true := by simpa using hx
     have hyb : (y == 0) = true := by simpa using hy
     have HX := Lib.hid (show crL zs n ls q H V M D k ++ [1] = crL zs n ls q H V M D (k + 1) by rw [← HSTEP.out, HE.out, if_pos hx])
     have HBA := Lib.hid ((Below.refl (w.heap.size + 2) w2).alloc (by omega) (.cells #[.int .i64 1] 3))
     clear hx hy;go_wp2_with (at_builtin; refine wpList_app _ rfl (.tmp 38) (.tmp 40) 45 rfl (w.heap.size + 1 + 1) 3 Tryzx.underlying45 infoInt _ (crL zs n ls q H V M D k) rfl (by exact HO2.out.alloc _) w2.heap.size 1 1 rfl (by exact cell_new1 _ _ _) (w.heap.size + 2) w2 (by exact HBA.out) (Nat.le_refl _) (by simp; omega) k (by exact crL_len k) (by omega) _ HX.out ?_; intro g' cap' w3 hown3 hb3)
     have HA3 := Lib.hid (HA2.out.keep2 hb3);clear hb3;go_wp2;go_roundw
     case rel => exact ⟨k + 1, by omega, by go_num, HK1, hown3, HA3⟩
     case measure => simp [intOf]; omega
    ·have hxb : (x == 0) = true := by simpa using hx
     have hyb : (y == 0) = false := by simpa using hy
     have HX := Lib.hid (show crL zs n ls q H V M D k ++ [1] = crL zs n ls q H V M D (k + 1) by rw [← HSTEP.out, HE.out, if_pos hx])
     have HBA := Lib.hid ((Below.refl (w.heap.size + 2) w2).alloc (by omega) (.cells #[.int .i64 1] 3))
     clear hx hy;go_wp2_with (at_builtin; refine wpList_app _ rfl (.tmp 38) (.tmp 40) 45 rfl (w.heap.size + 1 + 1) 3 Tryzx.underlying45 infoInt _ (crL zs n ls q H V M D k) rfl (by exact HO2.out.alloc _) w2.heap.size 1 1 rfl (by exact cell_new1 _ _ _) (w.heap.size + 2) w2 (by exact HBA.out) (Nat.le_refl _) (by simp; omega) k (by exact crL_len k) (by omega) _ HX.out ?_; intro g' cap' w3 hown3 hb3)
     have HA3 := Lib.hid (HA2.out.keep2 hb3);clear hb3;go_wp2;go_roundw
     case rel => exact ⟨k + 1, by omega, by go_num, HK1, hown3, HA3⟩
     case measure => simp [intOf]; omega
   ·by_cases hy : y = 0
    ·have hxb : (x == 0) = false := by simpa using hx
     have hyb : (y == 0) = true := by simpa using hy
     have HX := Lib.hid (show crL zs n ls q H V M D k ++ [2] = crL zs n ls q H V M D (k + 1) by rw [← HSTEP.out, HE.out, if_neg hx, if_pos hy])
     have HBA := Lib.hid ((Below.refl (w.heap.size + 2) w2).alloc (by omega) (.cells #[.int .i64 2] 3))
     clear hx hy;go_wp2_with (at_builtin; refine wpList_app _ rfl (.tmp 38) (.tmp 40) 45 rfl (w.heap.size + 1 + 1) 3 Tryzx.underlying45 infoInt _ (crL zs n ls q H V M D k) rfl (by exact HO2.out.alloc _) w2.heap.size 1 2 rfl (by exact cell_new1 _ _ _) (w.heap.size + 2) w2 (by exact HBA.out) (Nat.le_refl _) (by simp; omega) k (by exact crL_len k) (by omega) _ HX.out ?_; intro g' cap' w3 hown3 hb3)
     have HA3 := Lib.hid (HA2.out.keep2 hb3);clear hb3;go_wp2;go_roundw
     case rel => exact ⟨k + 1, by omega, by go_num, HK1, hown3, HA3⟩
     case measure => simp [intOf]; omega
    ·have hxb : (x == 0) = false := by simpa using hx
     have hyb : (y == 0) = false := by simpa using hy
     have HX := Lib.hid (show crL zs n ls q H V M D k ++ [0] = crL zs n ls q H V M D (k + 1) by rw [← HSTEP.out, HE.out, if_neg hx, if_neg hy])
     have HBA := Lib.hid ((Below.refl (w.heap.size + 2) w2).alloc (by omega) (.cells #[.int .i64 0] 3))
     clear hx hy;go_wp2_with (at_builtin; refine wpList_app _ rfl (.tmp 38) (.tmp 40) 45 rfl (w.heap.size + 1 + 1) 3 Tryzx.underlying45 infoInt _ (crL zs n ls q H V M D k) rfl (by exact HO2.out.alloc _) w2.heap.size 1 0 rfl (by exact cell_new1 _ _ _) (w.heap.size + 2) w2 (by exact HBA.out) (Nat.le_refl _) (by simp; omega) k (by exact crL_len k) (by omega) _ HX.out ?_; intro g' cap' w3 hown3 hb3)
     have HA3 := Lib.hid (HA2.out.keep2 hb3);clear hb3;go_wp2;go_roundw
     case rel => exact ⟨k + 1, by omega, by go_num, HK1, hown3, HA3⟩
     case measure => simp [intOf]; omega
  ·obtain rfl : n = k := by omega
   obtain ⟨A9, l9, c9, rfl⟩ := HO.out.sliceV;have HO9 := Lib.hid (HO.out.weakenV (base' := w.heap.size) (by omega))
   go_wp2;go_ret;refine ⟨_, _, _, rfl, ?_, HA.out.below⟩;cases hS : stB zs n ls q H V M D
   ·have hk0 := HK.out hS
    rw [HF.out hS];have h9 := HO9.out;rw [show crL zs n ls q H V M D n = [] by rw [hk0]; rfl] at h9
    exact h9
   ·rw [HT.out hS]; exact HO9.out
end X
namespace X
open Go.RowKit
def crTo (cs : List Int) (k : Nat) : Prop := ∀ i, i < k → inB (nth cs i) 0 2 = true
theorem crTo_0 (cs : List Int) : crTo cs 0 := fun i hi => absurd hi (by omega)
theorem crTo_step {cs : List Int} {k : Nat} (h : crTo cs k) (e : inB (nth cs k) 0 2 = true) : crTo cs (k + 1) := by
 intro i hi;by_cases hik : i = k
 ·subst hik; exact e
 ·exact h i (by omega)
def cracksB (zs : List Int) (n : Nat) (cs : List Int) (q : Nat) : Bool := archB zs n && (decide (q = n) && (List.range q).all (fun i => inB (nth cs i) 0 2))
theorem cracksB_1 {zs : List Int} {n : Nat} (cs : List Int) (q : Nat) (h : archB zs n = false) : cracksB zs n cs q = false := by simp [cracksB, h]
theorem cracksB_2 {zs : List Int} {n : Nat} (cs : List Int) {q : Nat} (h : ¬ q = n) : cracksB zs n cs q = false := by simp [cracksB, h]
theorem cracksB_3 {zs : List Int} {n : Nat} {cs : List Int} {q k : Nat} (hk : k < q) (h : inB (nth cs k) 0 2 = false) : cracksB zs n cs q = false := by
 have : (List.range q).all (fun i => inB (nth cs i) 0 2) = false := by
  rw [List.all_eq_false];exact ⟨k, by simpa using hk, by simp [h]⟩
 simp only [cracksB, this, Bool.and_false]
theorem cracksB_t {zs : List Int} {n : Nat} {cs : List Int} {q : Nat} (h : archB zs n = true) (h2 : q = n) (h3 : crTo cs q) : cracksB zs n cs q = true := by
 have : (List.range q).all (fun i => inB (nth cs i) 0 2) = true := by
  rw [List.all_eq_true];exact fun i hi => h3 i (by simpa using hi)
 subst h2;simp only [cracksB, this, h, decide_true, Bool.and_self]
set_option maxHeartbeats 800000 in
theorem sCracksOk_any (A : Option Addr) (n c : Nat) (zs : List Int) (B : Option Addr) (q d : Nat) (cs : List Int) (w : World) (h : RecsAt w w.heap.size 4 A n zs) (hn : n ≤ 1048576) (hi : IntsAt w w.heap.size B q cs) (hq : q ≤ 1048576) :
  Calls Tryzx.prog 73 #[.agg #[.slice A n c], .slice B q d] w fun e w' => e = .returned (.bool (cracksB zs n cs q)) ∧ Below w.heap.size w w' := by
 have HA := Lib.hid ((Below.refl w.heap.size w).alloc (Nat.le_refl _) (.cells #[.slice A n c] 32));have H := Lib.hid h;have HI := Lib.hid hi;clear h hi;go_enter Tryzx.func73, Tryz.ntmps73;go_wp2;go_loopw [5] (fun i wr => ∃ k : Nat, k ≤ q ∧ i = .int .i64 k ∧ crTo cs k ∧ wr.cell? ⟨w.heap.size, 0, none⟩ = some (.slice A n c) ∧ Below w.heap.size w wr) (fun i _ => q - (intOf i).toNat)
 case atStart => exact ⟨0, Nat.zero_le _, rfl, crTo_0 _, cell_new0 _ _ _, HA.out⟩
 case round =>
  clear HA;obtain ⟨k, hk, rfl, hag, hbox, hb⟩ := hrel;have HB := Lib.hid hb;have hgl := World.block_lt_of_cell? wr _ hbox;simp only at hgl;by_cases hlt : k < q
  ·obtain ⟨b, off, rfl, hbB, hc⟩ := HI.out.2 (by omega)
   have x0 : wr.cell? ⟨b, off + k, none⟩ = some (.int .i64 (nth cs k)) := (hb.cell (by exact hbB)).trans (hc k hlt)
   have HBX := Lib.hid hbox;clear hb hc hbox;cases hp : inB (nth cs k) 0 2
   ·have HF := Lib.hid (cracksB_3 (zs := zs) (n := n) hlt hp)
    go_wp2_with (go_at_call 79; refine (l01In_any _ _ _ _).mono ?_; rw [hp]; rintro e w' ⟨rfl, rfl⟩);go_ret;exact ⟨ret_bool HF.out.symm, HB.out⟩
   ·have HS := Lib.hid (crTo_step hag hp)
    go_wp2_with (go_at_call 79; refine (l01In_any _ _ _ _).mono ?_; rw [hp]; rintro e w' ⟨rfl, rfl⟩);go_roundw
    case rel => exact ⟨k + 1, by omega, by go_num, HS.out, HBX.out, HB.out⟩
    case measure => first | (simp [intOf]; done) | (simp [intOf]; omega)
  ·obtain rfl : k = q := by omega
   have HAG := Lib.hid hag;have h1 := (H.out.below hb).mono hb.size;clear hb hag;cases hA : archB zs n
   ·have HF := Lib.hid (cracksB_1 cs k hA)
    go_wp2_with fail
    refine (sArchOk_any _ _ _ zs _ h1 hn).mono ?_;rw [hA];rintro e w1 ⟨rfl, hb1⟩;have HB1 := Lib.hid (HB.out.trans (hb1.mono HB.out.size));go_wp2;go_ret;exact ⟨ret_bool HF.out.symm, HB1.out⟩
   ·by_cases hqn : k = n
    ·have HF := Lib.hid (cracksB_t hA hqn HAG.out)
     have ht : ((k : Int) == (n : Int)) = true := by simp; omega
     clear hqn;go_wp2_with fail
     refine (sArchOk_any _ _ _ zs _ h1 hn).mono ?_;rw [hA];rintro e w1 ⟨rfl, hb1⟩;have HB1 := Lib.hid (HB.out.trans (hb1.mono HB.out.size));have hbox1 := (hb1.cell (p := ⟨w.heap.size, 0, none⟩) hgl).trans hbox;clear hbox hb1;go_wp2;go_ret;exact ⟨ret_bool HF.out.symm, HB1.out⟩
    ·have HF := Lib.hid (cracksB_2 (zs := zs) cs hqn)
     have ht : ((k : Int) == (n : Int)) = false := by simp; omega
     clear hqn;go_wp2_with fail
     refine (sArchOk_any _ _ _ zs _ h1 hn).mono ?_;rw [hA];rintro e w1 ⟨rfl, hb1⟩;have HB1 := Lib.hid (HB.out.trans (hb1.mono HB.out.size));have hbox1 := (hb1.cell (p := ⟨w.heap.size, 0, none⟩) hgl).trans hbox;clear hbox hb1;go_wp2;go_ret;exact ⟨ret_bool HF.out.symm, HB1.out⟩
set_option maxHeartbeats 800000 in
theorem iCracksOk_any (A : Option Addr) (n c : Nat) (zs : List Int) (B : Option Addr) (q d : Nat) (cs : List Int) (w : World) (h : RecsAt w w.heap.size 4 A n zs) (hn : n ≤ 1048576) (hi : IntsAt w w.heap.size B q cs) (hq : q ≤ 1048576) :
  Calls Tryzx.prog 76 #[.agg #[.slice A n c], .slice B q d] w fun e w' => e = .returned (.bool (cracksB zs n cs q)) ∧ Below w.heap.size w w' := by
 have HA := Lib.hid ((Below.refl w.heap.size w).alloc (Nat.le_refl _) (.cells #[.slice A n c] 32));have h1 : RecsAt (w.alloc (.cells #[.slice A n c] 32)) (w.alloc (.cells #[.slice A n c] 32)).heap.size 4 A n zs := (h.alloc (Nat.le_refl _) _).mono (by simp)
 have HI := Lib.hid hi;clear h hi;cases hA : archB zs n
 ·have HF := Lib.hid (cracksB_1 cs q hA)
  go_enter Tryzx.func76, Tryz.ntmps76;go_wp2_with fail
  refine (iArchOk_any _ _ _ zs _ h1 hn).mono ?_;rw [hA];rintro e w1 ⟨rfl, hb1⟩;have HB1 := Lib.hid (HA.out.trans (hb1.mono (by simp)))
  go_wp2;go_ret;exact ⟨ret_bool HF.out.symm, HB1.out⟩
 by_cases hqn : q = n
 ·have ht : ((q : Int) == (n : Int)) = true := by simp; omega
  have HT := Lib.hid (fun h3 => cracksB_t (cs := cs) hA hqn h3)
  clear hqn;go_enter Tryzx.func76, Tryz.ntmps76;go_wp2_with fail
  refine (iArchOk_any _ _ _ zs _ h1 hn).mono ?_;rw [hA];rintro e w1 ⟨rfl, hb1⟩;have HB1 := Lib.hid (HA.out.trans (hb1.mono (by simp)))
  have hbox1 := (hb1.cell (p := ⟨w.heap.size, 0, none⟩) (by simp)).trans (cell_new0 _ _ _)
  clear hb1;go_wp2;have hne : ((q : Int) != (n : Int)) = false := by simp only [bne, ht]; rfl
  try simp only [hne, ht, Bool.not_true, Bool.not_false]
  go_loopw [20] (fun i wr => ∃ k : Nat, k ≤ q ∧ i = .int .i64 k ∧ crTo cs k ∧ Below w.heap.size w wr) (fun i _ => q - (intOf i).toNat)
  case atStart => exact ⟨0, Nat.zero_le _, rfl, crTo_0 _, HB1.out⟩
  case round =>
   clear HA HB1 hbox1;obtain ⟨k, hk, rfl, hag, hb⟩ := hrel;have HB := Lib.hid hb;by_cases hlt : k < q
   ·obtain ⟨b, off, rfl, hbB, hc⟩ := HI.out.2 (by omega)
    have x0 : wr.cell? ⟨b, off + k, none⟩ = some (.int .i64 (nth cs k)) := (hb.cell (by exact hbB)).trans (hc k hlt)
    clear hb hc;cases hp : inB (nth cs k) 0 2
    ·have HF := Lib.hid (cracksB_3 (zs := zs) (n := n) hlt hp)
     go_wp2_with (go_at_call 80; refine (within_any _ _ _ _).mono ?_; rw [hp]; rintro e w' ⟨rfl, rfl⟩);go_ret;exact ⟨ret_bool HF.out.symm, HB.out⟩
    ·have HS := Lib.hid (crTo_step hag hp)
     go_wp2_with (go_at_call 80; refine (within_any _ _ _ _).mono ?_; rw [hp]; rintro e w' ⟨rfl, rfl⟩);go_roundw
     case rel => exact ⟨k + 1, by omega, by go_num, HS.out, HB.out⟩
     case measure => first | (simp [intOf]; done) | (simp [intOf]; omega)
   ·obtain rfl : k = q := by omega
    have HF := Lib.hid (HT.out hag);clear hb hag;go_wp2;go_ret;exact ⟨ret_bool HF.out.symm, HB.out⟩
 ·have HF := Lib.hid (cracksB_2 (zs := zs) cs hqn)
  have ht : ((q : Int) == (n : Int)) = false := by simp; omega
  clear hqn;go_enter Tryzx.func76, Tryz.ntmps76;go_wp2_with fail
  refine (iArchOk_any _ _ _ zs _ h1 hn).mono ?_;rw [hA];rintro e w1 ⟨rfl, hb1⟩;have HB1 := Lib.hid (HA.out.trans (hb1.mono (by simp)))
  have hbox1 := (hb1.cell (p := ⟨w.heap.size, 0, none⟩) (by simp)).trans (cell_new0 _ _ _)
  clear hb1;go_wp2;go_ret;exact ⟨ret_bool HF.out.symm, HB1.out⟩
end X
end Go.Proofs.YtodneggnnipcnaaGreat
