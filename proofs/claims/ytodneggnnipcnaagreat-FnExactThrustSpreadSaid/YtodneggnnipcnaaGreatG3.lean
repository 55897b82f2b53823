/-
  Texts that the law stands on, part 3.
-/
import Derived.Test.YtodneggnnipcnaaGreatG2
set_option maxRecDepth 100000
set_option linter.unusedVariables false
set_option linter.unusedSimpArgs false
namespace Go.Proofs.YtodneggnnipcnaaGreat
namespace X
open Go.RowKit
theorem end_thr (ok : Bool) (r : Int) (zs : List Int) (n : Nat) (ls : List Int) (q : Nat) (h : ok = true → 0 < thrN zs n ls q) : ∃ q0 q1 q2 q3 bb, endV ok r (thrL zs n ls q) (thrN zs n ls q) = .tuple #[.agg #[.int .i64 q0, .int .i64 q1, .int .i64 q2, .int .i64 q3], .bool bb] ∧ (bb = true → thrB q0 q1 q2 q3 = true) := by
 cases ok
 ·exact ⟨0, 0, 0, 0, false, rfl, fun h => by cases h⟩
 ·exact ⟨_, _, _, _, true, rfl, fun _ => bst_thr r (h rfl)⟩
theorem lst_pos {zs ls : List Int} {n q : Nat} (h : lstB zs n ls q = true) : 0 < thrN zs n ls q := of_decide_eq_true h
theorem grt_pos {zs ls : List Int} {n q : Nat} (h : grtB zs n ls q = true) : 0 < thrN zs n ls q := by
 unfold grtB at h;rw [Bool.and_eq_true] at h;exact of_decide_eq_true h.1
def sprG (p0 p3 q0 q3 : Int) : Int := ((Nat.gcd (q0 * p3 - p0 * q3).natAbs (q3 * p3).natAbs : Nat) : Int)
def sprOk (p3 q3 : Int) (b1 b2 : Bool) : Bool := b1 && (b2 && (decide (p3 ≤ 10000) && decide (q3 ≤ 10000)))
def sprV (p0 p3 q0 q3 : Int) (b1 b2 : Bool) : Value := if sprOk p3 q3 b1 b2 = true then .tuple #[.int .i64 ((q0 * p3 - p0 * q3).tdiv (sprG p0 p3 q0 q3)), .int .i64 ((q3 * p3).tdiv (sprG p0 p3 q0 q3)), .bool true] else .tuple #[.int .i64 0, .int .i64 0, .bool false]
theorem sprV_1 (p0 p3 q0 q3 : Int) (b2 : Bool) : sprV p0 p3 q0 q3 false b2 = .tuple #[.int .i64 0, .int .i64 0, .bool false] := by simp [sprV, sprOk]
theorem sprV_2 (p0 p3 q0 q3 : Int) (b1 : Bool) : sprV p0 p3 q0 q3 b1 false = .tuple #[.int .i64 0, .int .i64 0, .bool false] := by simp [sprV, sprOk]
theorem sprV_3 (p0 : Int) {p3 : Int} (q0 q3 : Int) (b1 b2 : Bool) (h : 10000 < p3) : sprV p0 p3 q0 q3 b1 b2 = .tuple #[.int .i64 0, .int .i64 0, .bool false] := by simp [sprV, sprOk, show ¬ p3 ≤ 10000 by omega]
theorem sprV_4 (p0 p3 q0 : Int) {q3 : Int} (b1 b2 : Bool) (h : 10000 < q3) : sprV p0 p3 q0 q3 b1 b2 = .tuple #[.int .i64 0, .int .i64 0, .bool false] := by simp [sprV, sprOk, show ¬ q3 ≤ 10000 by omega]
theorem sprV_t {p3 q3 : Int} (p0 q0 : Int) (h1 : ¬ 10000 < p3) (h2 : ¬ 10000 < q3) : sprV p0 p3 q0 q3 true true = .tuple #[.int .i64 ((q0 * p3 - p0 * q3).tdiv (sprG p0 p3 q0 q3)), .int .i64 ((q3 * p3).tdiv (sprG p0 p3 q0 q3)), .bool true] := by simp [sprV, sprOk, show p3 ≤ 10000 by omega, show q3 ≤ 10000 by omega]
structure SprB (p0 p3 q0 q3 : Int) : Prop where
 a : IntKind.i64.wrap (q0 * p3) = q0 * p3
 b : IntKind.i64.wrap (p0 * q3) = p0 * q3
 c : IntKind.i64.wrap (q3 * p3) = q3 * p3
 c' : IntKind.i64.wrap (p3 * q3) = q3 * p3
 s : IntKind.i64.wrap (q0 * p3 - p0 * q3) = q0 * p3 - p0 * q3
 n : okG (q0 * p3 - p0 * q3)
 d : okG (q3 * p3)
 g : 1 ≤ sprG p0 p3 q0 q3
 u : IntKind.i64.wrap ((q0 * p3 - p0 * q3).tdiv (sprG p0 p3 q0 q3)) = (q0 * p3 - p0 * q3).tdiv (sprG p0 p3 q0 q3)
 v : IntKind.i64.wrap ((q3 * p3).tdiv (sprG p0 p3 q0 q3)) = (q3 * p3).tdiv (sprG p0 p3 q0 q3)
theorem spdiv_bd {a g : Int} (h : okG a) (hg : 1 ≤ g) : IntKind.i64.wrap (a.tdiv g) = a.tdiv g := by
 unfold okG at h;have h1 : (a.tdiv g).natAbs ≤ a.natAbs := by rw [Int.natAbs_tdiv]; exact Nat.div_le_self _ _
 exact IntWalk.i64_in _ (by omega)
theorem spr_b {p0 p1 p2 p3 q0 q1 q2 q3 : Int} (hp : thrB p0 p1 p2 p3 = true) (hq : thrB q0 q1 q2 q3 = true) (h1 : ¬ 10000 < p3) (h2 : ¬ 10000 < q3) : SprB p0 p3 q0 q3 := by
 have a := thrB_out hp;have b := thrB_out hq;have m1 := mul_bd (m := 1000000000000) (n := 10000) (a := q0) (b := p3) (by omega) (by omega)
 have m2 := mul_bd (m := 1000000000000) (n := 10000) (a := p0) (b := q3) (by omega) (by omega)
 have m3 := mul_bd (m := 10000) (n := 10000) (a := q3) (b := p3) (by omega) (by omega)
 have hpos : 0 < q3 * p3 := Int.mul_pos (by omega) (by omega)
 have hn : okG (q0 * p3 - p0 * q3) := by unfold okG; omega
 have hd : okG (q3 * p3) := by unfold okG; omega
 have hg : 1 ≤ sprG p0 p3 q0 q3 := by
  have : 0 < Nat.gcd (q0 * p3 - p0 * q3).natAbs (q3 * p3).natAbs := Nat.gcd_pos_of_pos_right _ (by omega)
  unfold sprG; omega
 exact ⟨IntWalk.i64_in _ (by omega), IntWalk.i64_in _ (by omega), IntWalk.i64_in _ (by omega), by rw [Int.mul_comm p3 q3]; exact IntWalk.i64_in _ (by omega), IntWalk.i64_in _ (by omega), hn, hd, hg, spdiv_bd hn hg, spdiv_bd hd hg⟩
theorem ints2 (w : World) (a b : Int) (T : TypeId) (g : Nat) (hg : w.heap.size = g) : IntsAt (w.alloc (.cells #[.int .i64 a, .int .i64 b] T)) (w.alloc (.cells #[.int .i64 a, .int .i64 b] T)).heap.size (some ⟨g, 0, none⟩) 2 [a, b] := by
 subst hg;exact intsAt_row (World.rowIs_alloc w #[.int .i64 a, .int .i64 b] T (ints [a, b]) (fun j hj => by simp at hj; match j, hj with | 0, _ => rfl | 1, _ => rfl)) (zs := [a, b]) rfl (fun k _ => rfl)
theorem okG_two {a b : Int} (ha : okG a) (hb : okG b) : ∀ k, okG (nth [a, b] k)
 | 0 => ha
 | 1 => hb
 | k + 2 => by unfold okG; simp [nth]
section
variable (A : Option Addr) (n c : Nat) (zs : List Int) (B : Option Addr) (q d : Nat) (ls : List Int) (w : World) (h : RecsAt w w.heap.size 4 A n zs) (hn : n ≤ 1048576) (hl : RecsAt w w.heap.size 3 B q ls) (hq : q ≤ 1048576)
variable (p0 p1 p2 p3 q0 q1 q2 q3 : Int) (b1 b2 : Bool) (hE1 : endV (lstB zs n ls q) (-1) (thrL zs n ls q) (thrN zs n ls q) = .tuple #[.agg #[.int .i64 p0, .int .i64 p1, .int .i64 p2, .int .i64 p3], .bool b1]) (hE2 : endV (grtB zs n ls q) 1 (thrL zs n ls q) (thrN zs n ls q) = .tuple #[.agg #[.int .i64 q0, .int .i64 q1, .int .i64 q2, .int .i64 q3], .bool b2]) (hT1 : b1 = true → thrB p0 p1 p2 p3 = true) (hT2 : b2 = true → thrB q0 q1 q2 q3 = true)
include h hn hl hq hE1 hE2 hT1 hT2
set_option maxRecDepth 100000 in
set_option maxHeartbeats 3200000 in
theorem sSpread_any : Calls Tryzx.prog 11 #[.agg #[.slice A n c], .slice B q d] w fun e w' => e = .returned (sprV p0 p3 q0 q3 b1 b2) ∧ Below w.heap.size w w' := by
 have b0 : Below w.heap.size w (w.alloc (.cells #[.slice A n c] 32)) := (Below.refl _ _).alloc (Nat.le_refl _) _;have bx0 : Box (w.alloc (.cells #[.slice A n c] 32)) w.heap.size (.slice A n c) := Box.new _ _ _;have cx0 := bx0.1;have hw1 := h.after b0;have hw2 := hl.after b0;have HE1 := Lib.hid hE1;have HE2 := Lib.hid hE2;have HT1 := Lib.hid hT1;have HT2 := Lib.hid hT2;clear hE1 hE2 hT1 hT2 h hl;go_enter Tryzx.func11, Tryz.ntmps11;go_wp2_with fail
 refine (sLst_any _ _ _ zs _ _ _ ls _ (by exact hw1) hn (by exact hw2) hq).mono ?_
 rintro e w1 ⟨rfl, hb1⟩;rw [HE1.out];have hba : Below w1.heap.size w1 (w1.alloc (.cells #[.int .i64 p0, .int .i64 p1, .int .i64 p2, .int .i64 p3] 40)) := (Below.refl _ _).alloc (Nat.le_refl _) _;have HB1 := Lib.hid (below_then (below_then b0 hb1) hba);have HX1 := Lib.hid ((bx0.after hb1).after hba);have HY1 : Hid (Box4 (w1.alloc (.cells #[.int .i64 p0, .int .i64 p1, .int .i64 p2, .int .i64 p3] 40)) w1.heap.size p0 p1 p2 p3) := Lib.hid (Box4.new _ _ _ _ _ _);have hr1 := (hw1.after hb1).after hba;have hr2 := (hw2.after hb1).after hba;have cx1 := HX1.out.1;clear hb1 hba cx0 hw1 hw2 b0 bx0;go_wp2_with fail
 refine (sGrt_any _ _ _ zs _ _ _ ls _ (by exact hr1) hn (by exact hr2) hq).mono ?_
 rintro e w2 ⟨rfl, hb2⟩;rw [HE2.out];have hbb : Below w2.heap.size w2 (w2.alloc (.cells #[.int .i64 q0, .int .i64 q1, .int .i64 q2, .int .i64 q3] 40)) := (Below.refl _ _).alloc (Nat.le_refl _) _;have HB2 := Lib.hid (below_then (below_then HB1.out hb2) hbb);have HY2 := Lib.hid ((HY1.out.after hb2).after hbb);have HZ2 : Hid (Box4 (w2.alloc (.cells #[.int .i64 q0, .int .i64 q1, .int .i64 q2, .int .i64 q3] 40)) w2.heap.size q0 q1 q2 q3) := Lib.hid (Box4.new _ _ _ _ _ _);obtain ⟨⟨y0, y1, y2, y3⟩, _⟩ := HY2.out;obtain ⟨⟨z0, z1, z2, z3⟩, _⟩ := HZ2.out;clear hb2 hbb cx1 hr1 hr2;cases b1
 ·have HS := Lib.hid (sprV_1 p0 p3 q0 q3 b2)
  go_wp2;refine bodyPost_ret (v := .tuple #[.int .i64 0, .int .i64 0, .bool false]) (by simp [results, Tryz.results11, go_sem, *]) rfl ⟨by first | rfl | (rw [HS.out]; done) | (rw [HS.out]; rfl), HB2.out⟩
 cases b2
 ·have HS := Lib.hid (sprV_2 p0 p3 q0 q3 true)
  go_wp2;refine bodyPost_ret (v := .tuple #[.int .i64 0, .int .i64 0, .bool false]) (by simp [results, Tryz.results11, go_sem, *]) rfl ⟨by first | rfl | (rw [HS.out]; done) | (rw [HS.out]; rfl), HB2.out⟩
 by_cases h1 : 10000 < p3
 ·have HS := Lib.hid (sprV_3 p0 q0 q3 true true h1)
  have g1 : p3 > 10000 := h1;go_wp2;refine bodyPost_ret (v := .tuple #[.int .i64 0, .int .i64 0, .bool false]) (by simp [results, Tryz.results11, go_sem, *]) rfl ⟨by first | rfl | (rw [HS.out]; done) | (rw [HS.out]; rfl), HB2.out⟩
 have g1 : ¬ p3 > 10000 := h1;by_cases h2 : 10000 < q3
 ·have HS := Lib.hid (sprV_4 p0 p3 q0 true true h2)
  have g2 : q3 > 10000 := h2;go_wp2;refine bodyPost_ret (v := .tuple #[.int .i64 0, .int .i64 0, .bool false]) (by simp [results, Tryz.results11, go_sem, *]) rfl ⟨by first | rfl | (rw [HS.out]; done) | (rw [HS.out]; rfl), HB2.out⟩
 have g2 : ¬ q3 > 10000 := h2;have HS := Lib.hid (sprV_t p0 q0 h1 h2);have SB := spr_b (HT1.out rfl) (HT2.out rfl) h1 h2;have a1 := SB.a;have a2 := SB.b;have a3 := SB.c;have a3' := SB.c';have a4 := SB.s;have HU := Lib.hid SB.u;have HV := Lib.hid SB.v;have HOK : Hid (∀ k, okG (nth [q0 * p3 - p0 * q3, q3 * p3] k)) := Lib.hid (okG_two SB.n SB.d);have HGT : Hid (((gcdTo [q0 * p3 - p0 * q3, q3 * p3] 2 : Nat) : Int) = sprG p0 p3 q0 q3) := Lib.hid (by rw [gcdTo_2]; rfl)
 have HGN : Hid (((Nat.gcd (q0 * p3 - p0 * q3).natAbs (q3 * p3).natAbs : Nat) : Int) = sprG p0 p3 q0 q3) := rfl;have HG1 := Lib.hid SB.g;have HN := Lib.hid SB.n;have HD := Lib.hid SB.d;clear SB;go_wp2_with fail
 refine (sGcd_any _ _ _ HN.out HD.out).mono ?_;rintro e w3 ⟨rfl, n1, hw3⟩;rw [HGN.out];have HB3 : Hid (Below w.heap.size w w3) := Lib.hid (by rw [hw3]; exact below_drewN HB2.out n1)
 clear hw3;have hg := HG1.out;have hu := HU.out;have hv := HV.out;generalize sprG p0 p3 q0 q3 = G at *
 have hg0 : ¬ G = 0 := by omega
 have hg1 : (G == -1) = false := by simp; omega
 clear HOK HGT HGN HG1 HN HD y0 y1 y2 y3 z0 z1 z2 z3;go_wp2;go_quiet (fail)
 go_wp2;refine bodyPost_ret (v := .tuple #[.int .i64 ((q0 * p3 - p0 * q3).tdiv G), .int .i64 ((q3 * p3).tdiv G), .bool true]) (by simp [results, Tryz.results11, go_sem, *]) rfl ⟨by first | rfl | (rw [HS.out]; done) | (rw [HS.out]; rfl), by first | exact HB3.out | exact below_drewN HB3.out _⟩
set_option maxRecDepth 100000 in
set_option maxHeartbeats 3200000 in
theorem iSpread_any : Calls Tryzx.prog 14 #[.agg #[.slice A n c], .slice B q d] w fun e w' => e = .returned (sprV p0 p3 q0 q3 b1 b2) ∧ Below w.heap.size w w' := by
 have b0 : Below w.heap.size w (w.alloc (.cells #[.slice A n c] 32)) := (Below.refl _ _).alloc (Nat.le_refl _) _;have bx0 : Box (w.alloc (.cells #[.slice A n c] 32)) w.heap.size (.slice A n c) := Box.new _ _ _;have cx0 := bx0.1;have hw1 := h.after b0;have hw2 := hl.after b0;have HE1 := Lib.hid hE1;have HE2 := Lib.hid hE2;have HT1 := Lib.hid hT1;have HT2 := Lib.hid hT2;clear hE1 hE2 hT1 hT2 h hl;go_enter Tryzx.func14, Tryz.ntmps14;go_wp2_with fail
 refine (iLst_any _ _ _ zs _ _ _ ls _ (by exact hw1) hn (by exact hw2) hq).mono ?_
 rintro e w1 ⟨rfl, hb1⟩;rw [HE1.out];have hba : Below w1.heap.size w1 (w1.alloc (.cells #[.int .i64 p0, .int .i64 p1, .int .i64 p2, .int .i64 p3] 40)) := (Below.refl _ _).alloc (Nat.le_refl _) _;have HB1 := Lib.hid (below_then (below_then b0 hb1) hba);have HX1 := Lib.hid ((bx0.after hb1).after hba);have HY1 : Hid (Box4 (w1.alloc (.cells #[.int .i64 p0, .int .i64 p1, .int .i64 p2, .int .i64 p3] 40)) w1.heap.size p0 p1 p2 p3) := Lib.hid (Box4.new _ _ _ _ _ _);have hr1 := (hw1.after hb1).after hba;have hr2 := (hw2.after hb1).after hba;have cx1 := HX1.out.1;clear hb1 hba cx0 hw1 hw2 b0 bx0;go_wp2_with fail
 refine (iGrt_any _ _ _ zs _ _ _ ls _ (by exact hr1) hn (by exact hr2) hq).mono ?_
 rintro e w2 ⟨rfl, hb2⟩;rw [HE2.out];have hbb : Below w2.heap.size w2 (w2.alloc (.cells #[.int .i64 q0, .int .i64 q1, .int .i64 q2, .int .i64 q3] 40)) := (Below.refl _ _).alloc (Nat.le_refl _) _;have HB2 := Lib.hid (below_then (below_then HB1.out hb2) hbb);have HY2 := Lib.hid ((HY1.out.after hb2).after hbb);have HZ2 : Hid (Box4 (w2.alloc (.cells #[.int .i64 q0, .int .i64 q1, .int .i64 q2, .int .i64 q3] 40)) w2.heap.size q0 q1 q2 q3) := Lib.hid (Box4.new _ _ _ _ _ _);obtain ⟨⟨y0, y1, y2, y3⟩, _⟩ := HY2.out;obtain ⟨⟨z0, z1, z2, z3⟩, _⟩ := HZ2.out;clear hb2 hbb cx1 hr1 hr2;cases b1
 ·have HS := Lib.hid (sprV_1 p0 p3 q0 q3 b2)
  go_wp2;refine bodyPost_ret (v := .tuple #[.int .i64 0, .int .i64 0, .bool false]) (by simp [results, Tryz.results14, go_sem, *]) rfl ⟨by first | rfl | (rw [HS.out]; done) | (rw [HS.out]; rfl), HB2.out⟩
 cases b2
 ·have HS := Lib.hid (sprV_2 p0 p3 q0 q3 true)
  go_wp2;refine bodyPost_ret (v := .tuple #[.int .i64 0, .int .i64 0, .bool false]) (by simp [results, Tryz.results14, go_sem, *]) rfl ⟨by first | rfl | (rw [HS.out]; done) | (rw [HS.out]; rfl), HB2.out⟩
 by_cases h1 : 10000 < p3
 ·have HS := Lib.hid (sprV_3 p0 q0 q3 true true h1)
  have g1 : p3 > 10000 := h1;go_wp2;refine bodyPost_ret (v := .tuple #[.int .i64 0, .int .i64 0, .bool false]) (by simp [results, Tryz.results14, go_sem, *]) rfl ⟨by first | rfl | (rw [HS.out]; done) | (rw [HS.out]; rfl), HB2.out⟩
 have g1 : ¬ p3 > 10000 := h1;by_cases h2 : 10000 < q3
 ·have HS := Lib.hid (sprV_4 p0 p3 q0 true true h2)
  have g2 : q3 > 10000 := h2;go_wp2;refine bodyPost_ret (v := .tuple #[.int .i64 0, .int .i64 0, .bool false]) (by simp [results, Tryz.results14, go_sem, *]) rfl ⟨by first | rfl | (rw [HS.out]; done) | (rw [HS.out]; rfl), HB2.out⟩
 have g2 : ¬ q3 > 10000 := h2;have HS := Lib.hid (sprV_t p0 q0 h1 h2);have SB := spr_b (HT1.out rfl) (HT2.out rfl) h1 h2;have a1 := SB.a;have a2 := SB.b;have a3 := SB.c;have a3' := SB.c';have a4 := SB.s;have HU := Lib.hid SB.u;have HV := Lib.hid SB.v;have HOK : Hid (∀ k, okG (nth [q0 * p3 - p0 * q3, q3 * p3] k)) := Lib.hid (okG_two SB.n SB.d);have HGT : Hid (((gcdTo [q0 * p3 - p0 * q3, q3 * p3] 2 : Nat) : Int) = sprG p0 p3 q0 q3) := Lib.hid (by rw [gcdTo_2]; rfl)
 have HGN : Hid (((Nat.gcd (q0 * p3 - p0 * q3).natAbs (q3 * p3).natAbs : Nat) : Int) = sprG p0 p3 q0 q3) := rfl;have HG1 := Lib.hid SB.g;have HN := Lib.hid SB.n;have HD := Lib.hid SB.d;clear SB;go_wp2_with fail
 go_quiet (fail)
 go_wp2_with fail
 refine (commonDivisor_any _ _ _ [q0 * p3 - p0 * q3, q3 * p3] _ (by exact ints2 _ _ _ _ _ (by first | rfl | simp [World.drewN])) (by omega) HOK.out).mono ?_
 rintro e w3 ⟨rfl, n1, hw3⟩;rw [HGT.out];have HB3 : Hid (Below w.heap.size w w3) := Lib.hid (by rw [hw3]; exact below_drewN ((below_drewN HB2.out _).alloc HB2.out.size _) n1)
 clear hw3;have hg := HG1.out;have hu := HU.out;have hv := HV.out;generalize sprG p0 p3 q0 q3 = G at *
 have hg0 : ¬ G = 0 := by omega
 have hg1 : (G == -1) = false := by simp; omega
 clear HOK HGT HGN HG1 HN HD y0 y1 y2 y3 z0 z1 z2 z3;go_wp2;go_quiet (fail)
 go_wp2;refine bodyPost_ret (v := .tuple #[.int .i64 ((q0 * p3 - p0 * q3).tdiv G), .int .i64 ((q3 * p3).tdiv G), .bool true]) (by simp [results, Tryz.results14, go_sem, *]) rfl ⟨by first | rfl | (rw [HS.out]; done) | (rw [HS.out]; rfl), by first | exact HB3.out | exact below_drewN HB3.out _⟩
end
theorem sprV_ex (p0 p3 q0 q3 : Int) (b1 b2 : Bool) : ∃ x y bb, sprV p0 p3 q0 q3 b1 b2 = .tuple #[.int .i64 x, .int .i64 y, .bool bb] := by
 unfold sprV;split
 ·exact ⟨_, _, _, rfl⟩
 ·exact ⟨_, _, _, rfl⟩
theorem sprV_at {w w' : World} {V v : Value} {e : Ending} (hE : V = v) (h : e = .returned V ∧ Below w.heap.size w w') : e = .returned v ∧ Below w.heap.size w w' := ⟨h.1.trans (congrArg _ hE), h.2⟩
end X
end Go.Proofs.YtodneggnnipcnaaGreat
