/-
  Texts that the law stands on, part 1.
-/
import Derived.Test.YtodneggnnipcnaaGreatC10
import Derived.Test.YtodneggnnipcnaaGreatC16
import Derived.Test.YtodneggnnipcnaaGreatC19
import Derived.Test.YtodneggnnipcnaaGreatC21
import Derived.Test.YtodneggnnipcnaaGreatC22
import Derived.Test.YtodneggnnipcnaaGreatC24
import Derived.Test.YtodneggnnipcnaaGreatC25
import Derived.Test.YtodneggnnipcnaaGreatC26
import Derived.Test.YtodneggnnipcnaaGreatG1
import Derived.Test.YtodneggnnipcnaaGreatG2
import Derived.Test.YtodneggnnipcnaaGreatProg
import Derived.KernelRfl
import Derived.Outline
set_option maxRecDepth 100000
set_option linter.unusedVariables false
set_option linter.unusedSimpArgs false
section
namespace Go.Proofs.Tryzx
theorem func4 : prog.funcs[4]? = some Tryz.f4 := by kernel_rfl
theorem func17 : prog.funcs[17]? = some Tryz.f17 := by kernel_rfl
theorem func18 : prog.funcs[18]? = some Tryz.f18 := by kernel_rfl
@[simp] theorem call4 (args w) : Sem.run prog (callFunc 4 args) w = .ok (.enter 4 args) w := call_x 4 args w func4
@[simp] theorem call17 (args w) : Sem.run prog (callFunc 17 args) w = .ok (.enter 17 args) w := call_x 17 args w func17
@[simp] theorem call18 (args w) : Sem.run prog (callFunc 18 args) w = .ok (.enter 18 args) w := call_x 18 args w func18
end Go.Proofs.Tryzx
end
section
namespace Go.Proofs.Tryzx
theorem ntmps4 : Tryz.f4.ntmps = 63 := Tryz.ntmps4
end Go.Proofs.Tryzx
end
namespace Go.Proofs.YtodneggnnipcnaaGreat
namespace X
open Go.RowKit
theorem endV_ex (ok : Bool) (r : Int) (L : List Int) (m : Nat) : ∃ q0 q1 q2 q3 bb, endV ok r L m = .tuple #[.agg #[.int .i64 q0, .int .i64 q1, .int .i64 q2, .int .i64 q3], .bool bb] := by
 cases ok
 ·exact ⟨0, 0, 0, 0, false, rfl⟩
 ·exact ⟨_, _, _, _, true, rfl⟩
section
variable (A : Option Addr) (n c : Nat) (zs : List Int) (B : Option Addr) (q d : Nat) (ls : List Int) (w : World) (h : RecsAt w w.heap.size 4 A n zs) (hn : n ≤ 1048576) (hl : RecsAt w w.heap.size 3 B q ls) (hq : q ≤ 1048576)
include h hn hl hq
end
end X
namespace X
open Go.RowKit
noncomputable def setV (zs : List Int) (n : Nat) (ls : List Int) (q : Nat) (k : Int) : Value := if k = 1 then endV (lstB zs n ls q) (-1) (thrL zs n ls q) (thrN zs n ls q) else if k = 2 then endV (grtB zs n ls q) 1 (thrL zs n ls q) (thrN zs n ls q) else thrV 0 0 0 0 false
theorem setV_1 (zs : List Int) (n : Nat) (ls : List Int) (q : Nat) : setV zs n ls q 1 = endV (lstB zs n ls q) (-1) (thrL zs n ls q) (thrN zs n ls q) := by simp [setV]
theorem setV_2 (zs : List Int) (n : Nat) (ls : List Int) (q : Nat) : setV zs n ls q 2 = endV (grtB zs n ls q) 1 (thrL zs n ls q) (thrN zs n ls q) := by simp [setV]
theorem setV_3 {k : Int} (h1 : ¬ k = 1) (h2 : ¬ k = 2) (zs : List Int) (n : Nat) (ls : List Int) (q : Nat) : setV zs n ls q k = thrV 0 0 0 0 false := by simp [setV, h1, h2]
theorem setV_ex (zs : List Int) (n : Nat) (ls : List Int) (q : Nat) (k : Int) : ∃ q0 q1 q2 q3 bb, setV zs n ls q k = .tuple #[.agg #[.int .i64 q0, .int .i64 q1, .int .i64 q2, .int .i64 q3], .bool bb] := by
 by_cases h1 : k = 1
 ·subst h1; rw [setV_1]; exact endV_ex _ _ _ _
 ·by_cases h2 : k = 2
  ·subst h2; rw [setV_2]; exact endV_ex _ _ _ _
  ·rw [setV_3 h1 h2]; exact ⟨0, 0, 0, 0, false, rfl⟩
theorem setV_at {w w' : World} {V v : Value} {e : Ending} (hE : V = v) (h : e = .returned V ∧ Below w.heap.size w w') : e = .returned v ∧ Below w.heap.size w w' := ⟨h.1.trans (congrArg _ hE), h.2⟩
section
variable (A : Option Addr) (n c : Nat) (zs : List Int) (B : Option Addr) (q d : Nat) (ls : List Int) (kd : Int) (w : World) (h : RecsAt w w.heap.size 4 A n zs) (hn : n ≤ 1048576) (hl : RecsAt w w.heap.size 3 B q ls) (hq : q ≤ 1048576)
include h hn hl hq
set_option maxRecDepth 100000 in
set_option maxHeartbeats 3200000 in
theorem sSettle_any : Calls Tryzx.prog 17 #[.agg #[.slice A n c], .slice B q d, .int .i64 kd] w fun e w' => e = .returned (setV zs n ls q kd) ∧ Below w.heap.size w w' := by
 have hz0 : (w.alloc (.cells #[.slice A n c] 32)).heap.size = w.heap.size + 1 := by simp
 have b0 : Below w.heap.size w ((w.alloc (.cells #[.slice A n c] 32)).alloc (.cells #[.int .i64 0, .int .i64 0, .int .i64 0, .int .i64 0] 40)) := ((Below.refl _ _).alloc (Nat.le_refl _) _).alloc (by simp) _
 have bx0 : Box ((w.alloc (.cells #[.slice A n c] 32)).alloc (.cells #[.int .i64 0, .int .i64 0, .int .i64 0, .int .i64 0] 40)) w.heap.size (.slice A n c) := (Box.new w (.slice A n c) 32).alloc _;have HA0 : Hid (RowF ((w.alloc (.cells #[.slice A n c] 32)).alloc (.cells #[.int .i64 0, .int .i64 0, .int .i64 0, .int .i64 0] 40)) (w.heap.size + 1) 40 4 (ints [0, 0, 0, 0])) := Lib.hid (by
  have h := RowF.of_row (World.rowIs_alloc (w.alloc (.cells #[.slice A n c] 32)) #[.int .i64 0, .int .i64 0, .int .i64 0, .int .i64 0] 40 (ints [0, 0, 0, 0]) (fun i hi => by simp at hi; match i, hi with | 0, _ => rfl | 1, _ => rfl | 2, _ => rfl | 3, _ => rfl))
  rw [hz0] at h;exact h)
 have HX := Lib.hid bx0;have HH := Lib.hid h;have HL := Lib.hid hl;have HB0 := Lib.hid b0;have cx0 := bx0.1;have hw1 := h.after b0;have hw2 := hl.after b0;clear hz0 b0 bx0 h hl;by_cases h1 : kd = 1
 ·subst h1
  have HS := Lib.hid (setV_1 zs n ls q);obtain ⟨q0, q1, q2, q3, bb, hE⟩ := endV_ex (lstB zs n ls q) (-1) (thrL zs n ls q) (thrN zs n ls q);have HE := Lib.hid hE;go_enter Tryzx.func17, Tryz.ntmps17;go_wp2_with fail
  refine (sLst_any _ _ _ zs _ _ _ ls _ (by exact hw1) hn (by exact hw2) hq).mono ?_
  rintro e w2 ⟨rfl, hb2⟩;rw [hE];have HA2 := Lib.hid (HA0.out.after hb2);have HB2 := Lib.hid (below_then HB0.out hb2);clear hb2 cx0 HA0 HB0 HX hw1 hw2 hE;obtain ⟨⟨d0, d1, d2, d3⟩, f0, f1, f2, f3⟩ := row4 HA2.out;go_wp2;refine bodyPost_ret (v := .tuple #[.agg #[.int .i64 q0, .int .i64 q1, .int .i64 q2, .int .i64 q3], .bool bb]) (by simp [results, Tryz.results17, go_sem, *]) rfl ⟨by rw [HS.out, HE.out], ?_⟩
  exact below_set4' HB2.out (Nat.le_succ _) _ _ _ _
 ·have e1 : (kd == 1) = false := by simp [h1]
  by_cases h2 : kd = 2
  ·subst h2
   have HS := Lib.hid (setV_2 zs n ls q);obtain ⟨q0, q1, q2, q3, bb, hE⟩ := endV_ex (grtB zs n ls q) 1 (thrL zs n ls q) (thrN zs n ls q);have HE := Lib.hid hE;go_enter Tryzx.func17, Tryz.ntmps17;go_wp2_with fail
   refine (sGrt_any _ _ _ zs _ _ _ ls _ (by exact hw1) hn (by exact hw2) hq).mono ?_
   rintro e w2 ⟨rfl, hb2⟩;rw [hE];have HA2 := Lib.hid (HA0.out.after hb2);have HB2 := Lib.hid (below_then HB0.out hb2);clear hb2 cx0 HA0 HB0 HX hw1 hw2 hE;obtain ⟨⟨d0, d1, d2, d3⟩, f0, f1, f2, f3⟩ := row4 HA2.out;go_wp2;refine bodyPost_ret (v := .tuple #[.agg #[.int .i64 q0, .int .i64 q1, .int .i64 q2, .int .i64 q3], .bool bb]) (by simp [results, Tryz.results17, go_sem, *]) rfl ⟨by rw [HS.out, HE.out], ?_⟩
   exact below_set4' HB2.out (Nat.le_succ _) _ _ _ _
  ·have e2 : (kd == 2) = false := by simp [h2]
   have HS := Lib.hid (setV_3 h1 h2 zs n ls q);go_enter Tryzx.func17, Tryz.ntmps17;obtain ⟨⟨d0, d1, d2, d3⟩, f0, f1, f2, f3⟩ := row4 HA0.out;go_wp2;refine bodyPost_ret (v := thrV 0 0 0 0 false) (by simp [thrV, results, Tryz.results17, go_sem, *]) rfl ⟨by rw [HS.out], ?_⟩
   first | exact HB0.out | exact below_set4' HB0.out (Nat.le_succ _) _ _ _ _
set_option maxRecDepth 100000 in
set_option maxHeartbeats 3200000 in
theorem iSettle_any : Calls Tryzx.prog 18 #[.agg #[.slice A n c], .slice B q d, .int .i64 kd] w fun e w' => e = .returned (setV zs n ls q kd) ∧ Below w.heap.size w w' := by
 have hz0 : (w.alloc (.cells #[.slice A n c] 32)).heap.size = w.heap.size + 1 := by simp
 have b0 : Below w.heap.size w ((w.alloc (.cells #[.slice A n c] 32)).alloc (.cells #[.int .i64 0, .int .i64 0, .int .i64 0, .int .i64 0] 40)) := ((Below.refl _ _).alloc (Nat.le_refl _) _).alloc (by simp) _
 have bx0 : Box ((w.alloc (.cells #[.slice A n c] 32)).alloc (.cells #[.int .i64 0, .int .i64 0, .int .i64 0, .int .i64 0] 40)) w.heap.size (.slice A n c) := (Box.new w (.slice A n c) 32).alloc _;have HA0 : Hid (RowF ((w.alloc (.cells #[.slice A n c] 32)).alloc (.cells #[.int .i64 0, .int .i64 0, .int .i64 0, .int .i64 0] 40)) (w.heap.size + 1) 40 4 (ints [0, 0, 0, 0])) := Lib.hid (by
  have h := RowF.of_row (World.rowIs_alloc (w.alloc (.cells #[.slice A n c] 32)) #[.int .i64 0, .int .i64 0, .int .i64 0, .int .i64 0] 40 (ints [0, 0, 0, 0]) (fun i hi => by simp at hi; match i, hi with | 0, _ => rfl | 1, _ => rfl | 2, _ => rfl | 3, _ => rfl))
  rw [hz0] at h;exact h)
 have HX := Lib.hid bx0;have HH := Lib.hid h;have HL := Lib.hid hl;have HB0 := Lib.hid b0;have cx0 := bx0.1;have hw1 := h.after b0;have hw2 := hl.after b0;clear hz0 b0 bx0 h hl;by_cases h1 : kd = 1
 ·subst h1
  have HS := Lib.hid (setV_1 zs n ls q);obtain ⟨q0, q1, q2, q3, bb, hE⟩ := endV_ex (lstB zs n ls q) (-1) (thrL zs n ls q) (thrN zs n ls q);have HE := Lib.hid hE;go_enter Tryzx.func18, Tryz.ntmps18;go_wp2_with fail
  refine (iLst_any _ _ _ zs _ _ _ ls _ (by exact hw1) hn (by exact hw2) hq).mono ?_
  rintro e w2 ⟨rfl, hb2⟩;rw [hE];have HA2 := Lib.hid (HA0.out.after hb2);have HB2 := Lib.hid (below_then HB0.out hb2);clear hb2 cx0 HA0 HB0 HX hw1 hw2 hE;obtain ⟨⟨d0, d1, d2, d3⟩, f0, f1, f2, f3⟩ := row4 HA2.out;go_wp2;refine bodyPost_ret (v := .tuple #[.agg #[.int .i64 q0, .int .i64 q1, .int .i64 q2, .int .i64 q3], .bool bb]) (by simp [results, Tryz.results18, go_sem, *]) rfl ⟨by rw [HS.out, HE.out], ?_⟩
  exact below_set4' HB2.out (Nat.le_succ _) _ _ _ _
 ·have e1 : (kd == 1) = false := by simp [h1]
  by_cases h2 : kd = 2
  ·subst h2
   have HS := Lib.hid (setV_2 zs n ls q);obtain ⟨q0, q1, q2, q3, bb, hE⟩ := endV_ex (grtB zs n ls q) 1 (thrL zs n ls q) (thrN zs n ls q);have HE := Lib.hid hE;go_enter Tryzx.func18, Tryz.ntmps18;go_wp2_with fail
   refine (iGrt_any _ _ _ zs _ _ _ ls _ (by exact hw1) hn (by exact hw2) hq).mono ?_
   rintro e w2 ⟨rfl, hb2⟩;rw [hE];have HA2 := Lib.hid (HA0.out.after hb2);have HB2 := Lib.hid (below_then HB0.out hb2);clear hb2 cx0 HA0 HB0 HX hw1 hw2 hE;obtain ⟨⟨d0, d1, d2, d3⟩, f0, f1, f2, f3⟩ := row4 HA2.out;go_wp2;refine bodyPost_ret (v := .tuple #[.agg #[.int .i64 q0, .int .i64 q1, .int .i64 q2, .int .i64 q3], .bool bb]) (by simp [results, Tryz.results18, go_sem, *]) rfl ⟨by rw [HS.out, HE.out], ?_⟩
   exact below_set4' HB2.out (Nat.le_succ _) _ _ _ _
  ·have e2 : (kd == 2) = false := by simp [h2]
   have HS := Lib.hid (setV_3 h1 h2 zs n ls q);go_enter Tryzx.func18, Tryz.ntmps18;obtain ⟨⟨d0, d1, d2, d3⟩, f0, f1, f2, f3⟩ := row4 HA0.out;go_wp2;refine bodyPost_ret (v := thrV 0 0 0 0 false) (by simp [thrV, results, Tryz.results18, go_sem, *]) rfl ⟨by rw [HS.out], ?_⟩
   first | exact HB0.out | exact below_set4' HB0.out (Nat.le_succ _) _ _ _ _
end
end X
namespace X
open Go.RowKit
set_option maxHeartbeats 800000 in
theorem eqThrust_same (x0 x1 x2 x3 : Int) (w : World) : Calls Tryzx.prog 19 #[.agg #[.int .i64 x0, .int .i64 x1, .int .i64 x2, .int .i64 x3], .agg #[.int .i64 x0, .int .i64 x1, .int .i64 x2, .int .i64 x3]] w fun e w' => e = .returned (.bool true) ∧ Below w.heap.size w w' := by
 have t0 : (x0 != x0) = false := by simp
 have t1 : (x1 != x1) = false := by simp
 have t2 : (x2 != x2) = false := by simp
 have t3 : (x3 != x3) = false := by simp
 go_enter Tryzx.func19, Tryz.ntmps19;go_wp2;go_ret;exact ⟨rfl, ((Below.refl _ _).alloc (Nat.le_refl _) _).alloc (by simp) _⟩
end X
namespace X
open Go.RowKit
set_option maxRecDepth 100000 in
set_option maxHeartbeats 1600000 in
theorem fnExactSettledThrust.walk (A0 : Option Addr) (n0 c0 : Nat) (z0 : List Int) (hm0 : n0 ≤ maxLen) (A1 : Option Addr) (n1 c1 : Nat) (z1 : List Int) (hm1 : n1 ≤ maxLen) (q2 : Int) (hq2 : -9223372036854775808 ≤ q2) (hq2' : q2 ≤ 9223372036854775807) (w : World) (a0_ : RecsAt w w.heap.size 4 A0 n0 z0) (a1_ : RecsAt w w.heap.size 3 A1 n1 z1) :
  Calls Tryzx.prog 4 #[.agg #[.slice A0 n0 c0], .slice A1 n1 c1, .int .i64 q2] w fun e w' => e = .returned (.bool true) ∧ Below w.heap.size w w' := by
 have hm0' : n0 ≤ 9223372036854775807 := by unfold maxLen at hm0; omega
 have hm1' : n1 ≤ 9223372036854775807 := by unfold maxLen at hm1; omega
 obtain ⟨tq0, tq1, tq2, tq3, bb, hE⟩ := setV_ex z0 n0 z1 n1 q2;have hbb : (bb != bb) = false := by cases bb <;> rfl
 have b_0 : Below w.heap.size w w := Below.refl _ _;have a0_0 := a0_;have a1_0 := a1_;have hb_1 : Below w.heap.size w (w.alloc (.cells #[.slice A0 n0 c0] 24)) := (Below.refl _ _).alloc (Nat.le_refl _) _;have b_1 := below_then b_0 hb_1;clear b_0;have a0_1 := a0_0.after hb_1;clear a0_0;have a1_1 := a1_0.after hb_1;clear a1_0;clear hb_1;have bx0_1 : Box (w.alloc (.cells #[.slice A0 n0 c0] 24)) w.heap.size (.slice A0 n0 c0) := Box.new _ _ _;go_enter Tryzx.func4, Tryz.ntmps4;go_wp2_with fail
 refine (sz1_any (n := n0) (by omega) (fun h => szArch_ok A0 n0 c0 _ _ (by omega) (by omega) hm0' h) (fun h => szArch_no A0 n0 c0 _ _ (by omega) (by omega) hm0' h)).mono ?_
 rintro e w2 ⟨r2, rfl, hb_2, hr2⟩;have b_2 := below_then b_1 hb_2;clear b_1;have a0_2 := a0_1.after hb_2;clear a0_1;have a1_2 := a1_1.after hb_2;clear a1_1;have bx0_2 := bx0_1.after hb_2;clear bx0_1;have cbx0_2 := bx0_2.1;clear hb_2;rcases hr2 with rfl | hr2
 ·go_wp2
  go_ret;exact ⟨rfl, b_2⟩
 obtain ⟨hr2a, hr2b, hr2c⟩ := hr2;have hn0 : n0 ≤ 1048576 := by omega
 have ht0 : ¬ r2 < 0 := by omega
 go_wp2_with fail
 refine (sz1_any (n := n1) (by omega) (fun h => calls_below (szLoadS_ok A1 n1 c1 _ _ (by omega) (by omega) hm1' h)) (fun h => calls_below (szLoadS_no A1 n1 c1 _ _ (by omega) (by omega) hm1' h))).mono ?_
 rintro e w3 ⟨r3, rfl, hb_3, hr3⟩;have b_3 := below_then b_2 hb_3;clear b_2;have a0_3 := a0_2.after hb_3;clear a0_2;have a1_3 := a1_2.after hb_3;clear a1_2;have bx0_3 := bx0_2.after hb_3;clear bx0_2;have cbx0_3 := bx0_3.1;clear cbx0_2;clear hb_3;rcases hr3 with rfl | hr3
 ·go_wp2
  go_ret;exact ⟨rfl, b_3⟩
 obtain ⟨hr3a, hr3b, hr3c⟩ := hr3;have hn1 : n1 ≤ 1048576 := by omega
 have ht1 : ¬ r3 < 0 := by omega
 go_wp2_with fail
 refine (toArch_any A0 n0 c0 z0 _ a0_3 hn0).mono ?_;rintro e w4 ⟨g4, rfl, _, r_4, hb_4⟩;have b_4 := below_then b_3 hb_4;clear b_3;have a0_4 := a0_3.after hb_4;clear a0_3;have a1_4 := a1_3.after hb_4;clear a1_3;have bx0_4 := bx0_3.after hb_4;clear bx0_3;have cbx0_4 := bx0_4.1;clear cbx0_3;have s0_4 := recsAt_row r_4 a0_.1 (fun k _ => rfl)
 clear r_4 hb_4;go_wp2_with fail
 refine (toLoadS_ex A1 n1 c1 z1 _ a1_4 hn1).mono ?_;rintro e w5 ⟨g5, rfl, _, r_5, hb_5⟩;have b_5 := below_then b_4 hb_5;clear b_4;have a0_5 := a0_4.after hb_5;clear a0_4;have a1_5 := a1_4.after hb_5;clear a1_4;have bx0_5 := bx0_4.after hb_5;clear bx0_4;have s0_5 := s0_4.after hb_5;clear s0_4;have cbx0_5 := bx0_5.1;clear cbx0_4;have s1_5 := recsAt_row r_5 a1_.1 (fun k _ => rfl)
 clear r_5 hb_5;go_wp2_with fail
 refine ((sSettle_any _ _ _ z0 _ _ _ z1 q2 _ (by exact s0_5) hn0 (by exact s1_5) hn1).mono fun e w h => setV_at hE h).mono ?_
 rintro e w6 ⟨rfl, hb_6⟩;have b_6 := below_then b_5 hb_6;clear b_5;have a0_6 := a0_5.after hb_6;clear a0_5;have a1_6 := a1_5.after hb_6;clear a1_5;have bx0_6 := bx0_5.after hb_6;clear bx0_5;have s0_6 := s0_5.after hb_6;clear s0_5;have s1_6 := s1_5.after hb_6;clear s1_5;have cbx0_6 := bx0_6.1;clear cbx0_5;clear hb_6;have hb_7 : Below w6.heap.size w6 (w6.alloc (.cells #[.int .i64 tq0, .int .i64 tq1, .int .i64 tq2, .int .i64 tq3] 40)) := (Below.refl _ _).alloc (Nat.le_refl _) _;have b_7 := below_then b_6 hb_7;clear b_6;have a0_7 := a0_6.after hb_7;clear a0_6;have a1_7 := a1_6.after hb_7;clear a1_6;have bx0_7 := bx0_6.after hb_7;clear bx0_6;have s0_7 := s0_6.after hb_7;clear s0_6;have s1_7 := s1_6.after hb_7;clear s1_6;have cbx0_7 := bx0_7.1;clear cbx0_6;clear hb_7;have bw_7 : Box4 (w6.alloc (.cells #[.int .i64 tq0, .int .i64 tq1, .int .i64 tq2, .int .i64 tq3] 40)) w6.heap.size tq0 tq1 tq2 tq3 := Box4.new _ _ _ _ _ _;have c0bw_7 := bw_7.1.1;have c1bw_7 := bw_7.1.2.1;have c2bw_7 := bw_7.1.2.2.1;have c3bw_7 := bw_7.1.2.2.2;clear s0_7;clear s1_7;go_wp2_with fail
 refine (toArch_any A0 n0 c0 z0 _ a0_7 hn0).mono ?_;rintro e w8 ⟨g8, rfl, _, r_8, hb_8⟩;have b_8 := below_then b_7 hb_8;clear b_7;have a0_8 := a0_7.after hb_8;clear a0_7;have a1_8 := a1_7.after hb_8;clear a1_7;have bx0_8 := bx0_7.after hb_8;clear bx0_7;have bw_8 := bw_7.after hb_8;clear bw_7;have cbx0_8 := bx0_8.1;clear cbx0_7;have cbw_8 := bw_8.1;clear cbw_8;have c0bw_8 := bw_8.1.1;have c1bw_8 := bw_8.1.2.1;have c2bw_8 := bw_8.1.2.2.1;have c3bw_8 := bw_8.1.2.2.2;clear c0bw_7;clear c1bw_7;clear c2bw_7;clear c3bw_7;have s0_8 := recsAt_row r_8 a0_.1 (fun k _ => rfl)
 clear r_8 hb_8;have hb_9 : Below w8.heap.size w8 (w8.alloc (.cells #[.slice (some ⟨g8, 0, none⟩) n0 n0] 32)) := (Below.refl _ _).alloc (Nat.le_refl _) _;have b_9 := below_then b_8 hb_9;clear b_8;have a0_9 := a0_8.after hb_9;clear a0_8;have a1_9 := a1_8.after hb_9;clear a1_8;have bx0_9 := bx0_8.after hb_9;clear bx0_8;have bw_9 := bw_8.after hb_9;clear bw_8;have s0_9 := s0_8.after hb_9;clear s0_8;have cbx0_9 := bx0_9.1;clear cbx0_8;have cbw_9 := bw_9.1;clear cbw_9;have c0bw_9 := bw_9.1.1;have c1bw_9 := bw_9.1.2.1;have c2bw_9 := bw_9.1.2.2.1;have c3bw_9 := bw_9.1.2.2.2;clear c0bw_8;clear c1bw_8;clear c2bw_8;clear c3bw_8;clear hb_9;have by0_9 : Box (w8.alloc (.cells #[.slice (some ⟨g8, 0, none⟩) n0 n0] 32)) w8.heap.size (.slice (some ⟨g8, 0, none⟩) n0 n0) := Box.new _ _ _;have cby0_9 := by0_9.1;go_wp2_with fail
 refine (toLoadS_ex A1 n1 c1 z1 _ a1_9 hn1).mono ?_;rintro e w10 ⟨g10, rfl, _, r_10, hb_10⟩;have b_10 := below_then b_9 hb_10;clear b_9;have a0_10 := a0_9.after hb_10;clear a0_9;have a1_10 := a1_9.after hb_10;clear a1_9;have bx0_10 := bx0_9.after hb_10;clear bx0_9;have bw_10 := bw_9.after hb_10;clear bw_9;have s0_10 := s0_9.after hb_10;clear s0_9;have by0_10 := by0_9.after hb_10;clear by0_9;have cbx0_10 := bx0_10.1;clear cbx0_9;have cbw_10 := bw_10.1;clear cbw_10;have c0bw_10 := bw_10.1.1;have c1bw_10 := bw_10.1.2.1;have c2bw_10 := bw_10.1.2.2.1;have c3bw_10 := bw_10.1.2.2.2;clear c0bw_9;clear c1bw_9;clear c2bw_9;clear c3bw_9;have cby0_10 := by0_10.1;clear cby0_9;have s1_10 := recsAt_row r_10 a1_.1 (fun k _ => rfl)
 clear r_10 hb_10;go_wp2_with fail
 refine ((iSettle_any _ _ _ z0 _ _ _ z1 q2 _ (by exact s0_10) hn0 (by exact s1_10) hn1).mono fun e w h => setV_at hE h).mono ?_
 rintro e w11 ⟨rfl, hb_11⟩;have b_11 := below_then b_10 hb_11;clear b_10;have a0_11 := a0_10.after hb_11;clear a0_10;have a1_11 := a1_10.after hb_11;clear a1_10;have bx0_11 := bx0_10.after hb_11;clear bx0_10;have bw_11 := bw_10.after hb_11;clear bw_10;have s0_11 := s0_10.after hb_11;clear s0_10;have by0_11 := by0_10.after hb_11;clear by0_10;have s1_11 := s1_10.after hb_11;clear s1_10;have cbx0_11 := bx0_11.1;clear cbx0_10;have cbw_11 := bw_11.1;clear cbw_11;have c0bw_11 := bw_11.1.1;have c1bw_11 := bw_11.1.2.1;have c2bw_11 := bw_11.1.2.2.1;have c3bw_11 := bw_11.1.2.2.2;clear c0bw_10;clear c1bw_10;clear c2bw_10;clear c3bw_10;have cby0_11 := by0_11.1;clear cby0_10;clear hb_11;have hb_12 : Below w11.heap.size w11 (w11.alloc (.cells #[.int .i64 tq0, .int .i64 tq1, .int .i64 tq2, .int .i64 tq3] 40)) := (Below.refl _ _).alloc (Nat.le_refl _) _;have b_12 := below_then b_11 hb_12;clear b_11;have a0_12 := a0_11.after hb_12;clear a0_11;have a1_12 := a1_11.after hb_12;clear a1_11;have bx0_12 := bx0_11.after hb_12;clear bx0_11;have bw_12 := bw_11.after hb_12;clear bw_11;have s0_12 := s0_11.after hb_12;clear s0_11;have by0_12 := by0_11.after hb_12;clear by0_11;have s1_12 := s1_11.after hb_12;clear s1_11;have cbx0_12 := bx0_12.1;clear cbx0_11;have cbw_12 := bw_12.1;clear cbw_12;have c0bw_12 := bw_12.1.1;have c1bw_12 := bw_12.1.2.1;have c2bw_12 := bw_12.1.2.2.1;have c3bw_12 := bw_12.1.2.2.2;clear c0bw_11;clear c1bw_11;clear c2bw_11;clear c3bw_11;have cby0_12 := by0_12.1;clear cby0_11;clear hb_12;have bg_12 : Box4 (w11.alloc (.cells #[.int .i64 tq0, .int .i64 tq1, .int .i64 tq2, .int .i64 tq3] 40)) w11.heap.size tq0 tq1 tq2 tq3 := Box4.new _ _ _ _ _ _;have c0bg_12 := bg_12.1.1;have c1bg_12 := bg_12.1.2.1;have c2bg_12 := bg_12.1.2.2.1;have c3bg_12 := bg_12.1.2.2.2;go_wp2_with fail
 refine (eqThrust_same tq0 tq1 tq2 tq3 _).mono ?_;rintro e w13 ⟨rfl, hb_13⟩;have b_13 := below_then b_12 hb_13;clear b_12;have a0_13 := a0_12.after hb_13;clear a0_12;have a1_13 := a1_12.after hb_13;clear a1_12;have bx0_13 := bx0_12.after hb_13;clear bx0_12;have bw_13 := bw_12.after hb_13;clear bw_12;have s0_13 := s0_12.after hb_13;clear s0_12;have by0_13 := by0_12.after hb_13;clear by0_12;have s1_13 := s1_12.after hb_13;clear s1_12;have bg_13 := bg_12.after hb_13;clear bg_12;have cbx0_13 := bx0_13.1;clear cbx0_12;have cbw_13 := bw_13.1;clear cbw_13;have c0bw_13 := bw_13.1.1;have c1bw_13 := bw_13.1.2.1;have c2bw_13 := bw_13.1.2.2.1;have c3bw_13 := bw_13.1.2.2.2;clear c0bw_12;clear c1bw_12;clear c2bw_12;clear c3bw_12;have cby0_13 := by0_13.1;clear cby0_12;have cbg_13 := bg_13.1;clear cbg_13;have c0bg_13 := bg_13.1.1;have c1bg_13 := bg_13.1.2.1;have c2bg_13 := bg_13.1.2.2.1;have c3bg_13 := bg_13.1.2.2.2;clear c0bg_12;clear c1bg_12;clear c2bg_12;clear c3bg_12;clear hb_13;clear c0bw_13;clear c1bw_13;clear c2bw_13;clear c3bw_13;clear bw_13;clear c0bg_13;clear c1bg_13;clear c2bg_13;clear c3bg_13;clear bg_13;go_wp2_with fail
 go_region_held3 (fun w' => w'.cell? ⟨w8.heap.size, 0, none⟩ = some (.slice (some ⟨g8, 0, none⟩) n0 n0) ∧ w'.cell? ⟨w.heap.size, 0, none⟩ = some (.slice A0 n0 c0)) (first | exact ⟨cby0_13, cbx0_13⟩ | exact ⟨dy0_1, dx0_1⟩ | exact ⟨dy0_2, dx0_2⟩) ((first | (go_at_call 12; refine (toArch_any A0 n0 c0 z0 _ (by exact a0_13) hn0).mono ?_; rintro e w14 ⟨g14, rfl, _, r_14, hbx14⟩; have hb_14 := below_undrew hbx14; have e0_1 := s0_13.after hb_14; have v0_1 := recsAt_row r_14 a0_.1 (fun k _ => rfl); have dy0_1 := (by0_13.after hb_14).1; have dx0_1 := (bx0_13.after hb_14).1) | (go_at_call 15; refine (eqArch_same _ _ _ _ _ z0 _ (by exact e0_1) (by exact v0_1) hn0).mono ?_; rintro e w15 ⟨rfl, hb_15⟩; have dy0_2 := ((by0_13.after hb_14).after hb_15).1; have dx0_2 := ((bx0_13.after hb_14).after hb_15).1)))
 have b_14 := below_then b_13 hb_14;clear b_13;have a0_14 := a0_13.after hb_14;clear a0_13;have a1_14 := a1_13.after hb_14;clear a1_13;have bx0_14 := bx0_13.after hb_14;clear bx0_13;have s0_14 := s0_13.after hb_14;clear s0_13;have by0_14 := by0_13.after hb_14;clear by0_13;have s1_14 := s1_13.after hb_14;clear s1_13;have cbx0_14 := bx0_14.1;clear cbx0_13;have cby0_14 := by0_14.1;clear cby0_13;have b_15 := below_then b_14 hb_15;clear b_14;have a0_15 := a0_14.after hb_15;clear a0_14;have a1_15 := a1_14.after hb_15;clear a1_14;have bx0_15 := bx0_14.after hb_15;clear bx0_14;have s0_15 := s0_14.after hb_15;clear s0_14;have by0_15 := by0_14.after hb_15;clear by0_14;have s1_15 := s1_14.after hb_15;clear s1_14;have cbx0_15 := bx0_15.1;clear cbx0_14;have cby0_15 := by0_15.1;clear cby0_14;clear hb_14 hb_15;go_wp2_with fail
 refine (toLoadS_ex A1 n1 c1 z1 _ a1_15 hn1).mono ?_;rintro e w16 ⟨g16, rfl, _, r_16, hb_16⟩;have b_16 := below_then b_15 hb_16;clear b_15;have a0_16 := a0_15.after hb_16;clear a0_15;have a1_16 := a1_15.after hb_16;clear a1_15;have bx0_16 := bx0_15.after hb_16;clear bx0_15;have s0_16 := s0_15.after hb_16;clear s0_15;have by0_16 := by0_15.after hb_16;clear by0_15;have s1_16 := s1_15.after hb_16;clear s1_15;have cbx0_16 := bx0_16.1;clear cbx0_15;have cby0_16 := by0_16.1;clear cby0_15;have t1_16 := recsAt_row r_16 a1_.1 (fun k _ => rfl)
 clear r_16 hb_16;go_wp2_with fail
 refine (eqLoadS_same _ _ _ _ _ z1 _ s1_16 t1_16 hn1).mono ?_;rintro e w17 ⟨rfl, hb_17⟩;have b_17 := below_then b_16 hb_17;clear b_16;have a0_17 := a0_16.after hb_17;clear a0_16;have a1_17 := a1_16.after hb_17;clear a1_16;have bx0_17 := bx0_16.after hb_17;clear bx0_16;have s0_17 := s0_16.after hb_17;clear s0_16;have by0_17 := by0_16.after hb_17;clear by0_16;have s1_17 := s1_16.after hb_17;clear s1_16;have t1_17 := t1_16.after hb_17;clear t1_16;have cbx0_17 := bx0_17.1;clear cbx0_16;have cby0_17 := by0_17.1;clear cby0_16;clear hb_17;go_wp2;go_ret;exact ⟨rfl, b_17⟩
end X
end Go.Proofs.YtodneggnnipcnaaGreat
