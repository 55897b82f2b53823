/-
  Texts that the law stands on, part 4.
-/
import Derived.Test.YtodneggnnipcnaaGreatX3
import Derived.Test.YtodneggnnipcnaaGreatC20
import Derived.Test.YtodneggnnipcnaaGreatC23
set_option maxRecDepth 100000
set_option linter.unusedVariables false
set_option linter.unusedSimpArgs false
namespace Go.Proofs.YtodneggnnipcnaaGreat
namespace X
open Go.RowKit
set_option maxRecDepth 100000 in
set_option maxHeartbeats 1600000 in
theorem explains_any (A : Option Addr) (n c : Nat) (sn : List Int) (B : Option Addr) (d : Nat) (cs : List Int) (w : World) (h : IntsAt w w.heap.size A n sn) (hi : IntsAt w w.heap.size B n cs) (hn : n ≤ 1048576) (hc2 : ∀ k, k < n → 0 ≤ nth cs k ∧ nth cs k ≤ 2) :
  Calls Tryzx.prog 77 #[.slice A n c, .slice B n d] w fun e w' => e = .returned (.bool (exB sn cs n)) ∧ Below w.heap.size w w' := by
 have HS := Lib.hid h;have HI := Lib.hid hi;have HC2 := Lib.hid hc2;clear h hi hc2;go_enter Tryzx.func77, Tryz.ntmps77;go_wp2;go_loopw [9] (fun i wr => ∃ k : Nat, k ≤ n ∧ i = .int .i64 k ∧ exB sn cs k = true ∧ wr = w) (fun i _ => n - (intOf i).toNat)
 case atStart => exact ⟨0, Nat.zero_le _, rfl, rfl, rfl⟩
 case round =>
  obtain ⟨k, hk, rfl, he, rfl⟩ := hrel;by_cases hlt : k < n
  ·obtain ⟨b, off, rfl, hbB, hb⟩ := HI.out.2 (by omega)
   obtain ⟨b', off', rfl, hbB', hb'⟩ := HS.out.2 (by omega)
   have c0 := hb k hlt;have c1 := hb' k hlt;have i1 : IntKind.i64.wrap ((k : Int) + 1) = (k : Int) + 1 := IntWalk.i64_in _ (by omega)
   have hr := HC2.out k hlt;have HE := Lib.hid he;clear hb hb' he;by_cases h0 : nth cs k = 0
   ·have HX := Lib.hid (exB_0 HE.out h0)
    rw [h0] at c0;clear h0 hr;go_wp2;go_roundw
    case rel => exact ⟨k + 1, by omega, by go_num, HX.out, by first | rfl | trivial⟩
    case measure => simp [intOf]; omega
   ·by_cases h1 : nth cs k = 1
    ·rw [h1] at c0
     by_cases hs : nth sn k = 1
     ·have HX := Lib.hid (exB_1 HE.out (hs.trans h1.symm))
      rw [hs] at c1;clear h0 h1 hr hs;go_wp2;go_roundw
      case rel => exact ⟨k + 1, by omega, by go_num, HX.out, by first | rfl | trivial⟩
      case measure => simp [intOf]; omega
     ·have HX := Lib.hid (exB_bad (sn := sn) hlt h0 (by rw [h1]; exact hs))
      have hne : (nth sn k != 1) = true := by simp [hs]
      clear h0 h1 hr hs;go_wp2;go_ret;exact ⟨ret_bool HX.out.symm, Below.refl _ _⟩
    ·have h2 : nth cs k = 2 := by omega
     rw [h2] at c0;by_cases hs : nth sn k = 2
     ·have HX := Lib.hid (exB_1 HE.out (hs.trans h2.symm))
      rw [hs] at c1;clear h0 h1 h2 hr hs;go_wp2;go_roundw
      case rel => exact ⟨k + 1, by omega, by go_num, HX.out, by first | rfl | trivial⟩
      case measure => simp [intOf]; omega
     ·have HX := Lib.hid (exB_bad (sn := sn) hlt h0 (by rw [h2]; exact hs))
      have hne : (nth sn k != 2) = true := by simp [hs]
      clear h0 h1 h2 hr hs;go_wp2;go_ret;exact ⟨ret_bool HX.out.symm, Below.refl _ _⟩
  ·obtain rfl : k = n := by omega
   have HE := Lib.hid he;clear he;go_wp2;go_ret;exact ⟨ret_bool HE.out.symm, Below.refl _ _⟩
def CntPost (w : World) (m : Nat) (e : Ending) (w' : World) : Prop := ∃ A c, e = .returned (.slice A m c) ∧ Below w.heap.size w w'
section
variable (A : Option Addr) (n c : Nat) (zs : List Int) (B : Option Addr) (q d : Nat) (ls : List Int) (C : Option Addr) (p r : Nat) (cs : List Int) (w : World) (h : RecsAt w w.heap.size 4 A n zs) (hn : n ≤ 1048576) (hl : RecsAt w w.heap.size 3 B q ls) (hq : q ≤ 1048576) (hi : IntsAt w w.heap.size C p cs) (hp : p ≤ 1048576)
include h hn hl hq hi hp
set_option maxRecDepth 100000 in
set_option maxHeartbeats 3200000 in
theorem iFor_any : Calls Tryzx.prog 46 #[.agg #[.slice A n c], .slice B q d, .slice C p r] w (CntPost w (expN zs n ls q cs p)) := by
 have b0 : Below w.heap.size w (w.alloc (.cells #[.slice A n c] 32)) := (Below.refl _ _).alloc (Nat.le_refl _) _;have bx0 : Box (w.alloc (.cells #[.slice A n c] 32)) w.heap.size (.slice A n c) := Box.new _ _ _;have cx0 := bx0.1;have HH := Lib.hid h;have HL := Lib.hid hl;have HI := Lib.hid hi;have HB0 := Lib.hid b0;have HX0 := Lib.hid bx0;clear h hl hi b0 bx0;cases hC : cracksB zs n cs p
 ·have HN := Lib.hid (expN_f (ls := ls) (q := q) hC)
  go_enter Tryzx.func46, Tryz.ntmps46;go_wp2_with fail
  refine (iCracksOk_any _ _ _ zs _ _ _ cs _ (by exact HH.out.after HB0.out) hn (by exact HI.out.after HB0.out) hp).mono ?_
  rw [hC];rintro e w1 ⟨rfl, hb1⟩;have HB1 := Lib.hid (below_then HB0.out hb1);clear hb1 cx0;go_wp2;go_ret;exact ⟨none, 0, by rw [HN.out]; rfl, HB1.out⟩
 ·have HN := Lib.hid (expN_t (ls := ls) (q := q) hC)
  obtain ⟨rfl, hc2⟩ := cracks_out hC;have HC2 := Lib.hid hc2;clear hc2;go_enter Tryzx.func46, Tryz.ntmps46;go_wp2_with fail
  refine (iCracksOk_any _ _ _ zs _ _ _ cs _ (by exact HH.out.after HB0.out) hn (by exact HI.out.after HB0.out) hp).mono ?_
  rw [hC];rintro e w1 ⟨rfl, hb1⟩;have HB1 := Lib.hid (below_then HB0.out hb1);have HX1 := Lib.hid (HX0.out.after hb1);have cx1 := HX1.out.1;clear hb1 cx0 HB0 HX0;go_wp2_with fail
  refine (iThr_any _ _ _ zs _ _ _ ls _ (by exact HH.out.after HB1.out) hn (by exact HL.out.after HB1.out) hq).mono ?_
  rintro e w2 ⟨v2, rfl, ho2, hb2⟩;have HB2 := Lib.hid (below_then HB1.out hb2);have HX2 := Lib.hid (HX1.out.after hb2);obtain ⟨A2, c2, rfl, hcap⟩ := ho2.slice;have HR2 := Lib.hid ho2.recs;have hfew : thrN zs p ls q ≤ 8000 := by have := (corn_acc (rowsZ zs p ls q) (rowsN zs p ls q)).few; unfold thrN; omega
  have HST : Hid (∀ j, j < thrN zs p ls q → stB zs p ls q (nth (thrL zs p ls q) (j * 4)) (nth (thrL zs p ls q) (j * 4 + 1)) (nth (thrL zs p ls q) (j * 4 + 2)) (nth (thrL zs p ls q) (j * 4 + 3)) = true) := Lib.hid (fun j hj => thr_stands hj)
  have HAT : Hid (∀ j, exAt zs p ls q cs j = exB (crRes zs p ls q (nth (thrL zs p ls q) (j * 4)) (nth (thrL zs p ls q) (j * 4 + 1)) (nth (thrL zs p ls q) (j * 4 + 2)) (nth (thrL zs p ls q) (j * 4 + 3))) cs p) := Lib.hid (fun j => rfl)
  generalize thrN zs p ls q = m at *
  generalize thrL zs p ls q = L at *
  generalize exAt zs p ls q cs = f at *
  clear hb2 ho2 cx1 HB1 HX1;go_wp2;go_loopw [7, 18] (fun v7 v18 wr => ∃ k : Nat, v18 = .int .i64 k ∧ k ≤ m ∧ Hid (OwnR wr w2.heap.size 40 4 v7 (exN f k) (exL f L k)) ∧ Hid (Below w2.heap.size w2 wr)) (fun _ v18 _ => m - (intOf v18).toNat)
  case atStart => exact ⟨0, rfl, Nat.zero_le _, Lib.hid (OwnR.nil _ _ _ _), Lib.hid (Below.refl _ _)⟩
  case round =>
   obtain ⟨k, rfl, hk, HO, HG⟩ := hrel;have hef := exN_le f k;by_cases hlt : k < m
   ·obtain ⟨b, off, rfl, hbB, hc⟩ := HR2.out.2 (by omega)
    have hz := HG.out.size;have y0 : wr.cell? ⟨b, off + k * 4, none⟩ = some (.int .i64 (nth L (k * 4))) := (HG.out.cell (by exact hbB)).trans (hc (k * 4) (by omega))
    have y1 : wr.cell? ⟨b, off + k * 4 + 1, none⟩ = some (.int .i64 (nth L (k * 4 + 1))) := by
     have := (HG.out.cell (p := ⟨b, off + (k * 4 + 1), none⟩) hbB).trans (hc (k * 4 + 1) (by omega))
     rwa [← Nat.add_assoc] at this
    have y2 : wr.cell? ⟨b, off + k * 4 + 2, none⟩ = some (.int .i64 (nth L (k * 4 + 2))) := by
     have := (HG.out.cell (p := ⟨b, off + (k * 4 + 2), none⟩) hbB).trans (hc (k * 4 + 2) (by omega))
     rwa [← Nat.add_assoc] at this
    have y3 : wr.cell? ⟨b, off + k * 4 + 3, none⟩ = some (.int .i64 (nth L (k * 4 + 3))) := by
     have := (HG.out.cell (p := ⟨b, off + (k * 4 + 3), none⟩) hbB).trans (hc (k * 4 + 3) (by omega))
     rwa [← Nat.add_assoc] at this
    have hst := HST.out k hlt;have hat := HAT.out k;have HT : Hid (f k = true → exL f L (k + 1) = exL f L k ++ [nth L (k * 4), nth L (k * 4 + 1), nth L (k * 4 + 2), nth L (k * 4 + 3)]) := Lib.hid (fun h => exL_t h)
    have i1 : IntKind.i64.wrap ((k : Int) + 1) = (k : Int) + 1 := IntWalk.i64_in _ (by omega)
    have ik : (k : Int) < (m : Int) := by omega
    clear hc;generalize nth L (k * 4) = p0 at *
    generalize nth L (k * 4 + 1) = p1 at *
    generalize nth L (k * 4 + 2) = p2 at *
    generalize nth L (k * 4 + 3) = p3 at *
    have hbn : Below wr.heap.size wr (wr.alloc (.cells #[.int .i64 p0, .int .i64 p1, .int .i64 p2, .int .i64 p3] 40)) := (Below.refl _ _).alloc (Nat.le_refl _) _;have HWn := Lib.hid (below_then (below_then HB2.out (HG.out.mono (Nat.le_refl _))) hbn);have HXn := Lib.hid ((HX2.out.after HG.out).after hbn);have HYn : Hid (Box4 (wr.alloc (.cells #[.int .i64 p0, .int .i64 p1, .int .i64 p2, .int .i64 p3] 40)) wr.heap.size p0 p1 p2 p3) := Lib.hid (Box4.new _ _ _ _ _ _);have HGn := Lib.hid (HG.out.trans (hbn.mono hz));have HOn := Lib.hid (HO.out.below hbn);have cxn := HXn.out.1;obtain ⟨⟨z0, z1, z2, z3⟩, _⟩ := HYn.out;clear hbn;go_wp2_with fail
    refine (iCracksOf_any _ _ _ zs _ _ _ ls p0 p1 p2 p3 _ (by exact HH.out.after HWn.out) hn (by exact HL.out.after HWn.out) hq).mono ?_
    rintro e w3 ⟨A3, l3, c3, rfl, ho3, hb3⟩;have HW3 := Lib.hid (below_then HWn.out hb3);have HY3 := Lib.hid (HYn.out.after hb3);have hzn := HGn.out.size;have HG3 := Lib.hid (HGn.out.trans (hb3.mono hzn));have HO3 := Lib.hid (HOn.out.below hb3);have hlen : l3 = p := by
     have := ho3.len;rw [crRes_t hst, crL_len] at this;exact this
    have HI3 := Lib.hid ho3.intsAt;subst hlen;clear hb3 ho3 y0 y1 y2 y3 z0 z1 z2 z3 cxn;go_wp2_with fail
    refine (explains_any _ _ _ (crRes zs l3 ls q p0 p1 p2 p3) _ _ cs _ (by exact HI3.out) (by exact HI.out.after HW3.out) hn HC2.out).mono ?_
    rw [← hat];rintro e w4 ⟨rfl, hb4⟩;have HY4 := Lib.hid (HY3.out.after hb4);have hz3 := HG3.out.size;have HG4 := Lib.hid (HG3.out.trans (hb4.mono hz3));have HO4 := Lib.hid (HO3.out.below hb4);clear hb4 hst hat;cases hf : f k
    ·have HNE := Lib.hid (exN_f hf)
     have HLE := Lib.hid (exL_f (L := L) hf);go_wp2;go_roundw
     case rel => exact ⟨k + 1, by go_num, by omega, by rw [HNE.out, HLE.out]; exact HO4, HG4⟩
     case measure => simp [intOf]; omega
    ·have HNE := Lib.hid (exN_t hf)
     have HLE := Lib.hid (HT.out hf);obtain ⟨⟨z0, z1, z2, z3⟩, _⟩ := HY4.out;have HBA := Lib.hid (HG4.out.alloc HG4.out.size (.cells #[.int .i64 p0, .int .i64 p1, .int .i64 p2, .int .i64 p3] 40));have HCN : Hid (∀ i, i < 1 * 4 → (w4.alloc (.cells #[.int .i64 p0, .int .i64 p1, .int .i64 p2, .int .i64 p3] 40)).cell? ⟨w4.heap.size, i, none⟩ = some (.int .i64 (nth [p0, p1, p2, p3] i))) := Lib.hid (fun i hi => by
      have h := Box4.new w4 p0 p1 p2 p3 40;match i, hi with
      | 0, _ => exact h.1.1
      | 1, _ => exact h.1.2.1
      | 2, _ => exact h.1.2.2.1
      | 3, _ => exact h.1.2.2.2)
     have hbs : w2.heap.size ≤ (w4.alloc (.cells #[.int .i64 p0, .int .i64 p1, .int .i64 p2, .int .i64 p3] 40)).heap.size := by have := HG4.out.size; simp; omega
     go_wp2_with (at_builtin; refine wpList_appR _ rfl (.tmp 28) (.tmp 30) 81 rfl w2.heap.size 40 4 32 #[.int .i64 0, .int .i64 0, .int .i64 0, .int .i64 0] Tryzx.underlying81 infoThr rfl (by decide) (by decide) _ (exN f k) (exL f L k) rfl (by exact HO4.out.alloc _) w4.heap.size 1 1 [p0, p1, p2, p3] rfl rfl (by exact HCN.out) (by omega) w2.heap.size w2 (by exact HBA.out) (Nat.le_refl _) hbs _ HLE.out.symm ?_ (by omega); intro g' cap' w7 hown7 hb7)
     have HO7 := Lib.hid hown7;have HB7 := Lib.hid hb7;clear hown7 hb7;go_wp2;go_roundw
     case rel => exact ⟨k + 1, by go_num, by omega, by rw [HNE.out]; exact HO7, HB7⟩
     case measure => simp [intOf]; omega
   ·obtain rfl : k = m := by omega
    obtain ⟨A7, c7, rfl, _⟩ := HO.out.slice;have HBE := Lib.hid (below_then HB2.out HG.out);go_wp2;go_ret;exact ⟨_, _, by rw [HN.out]; rfl, HBE.out⟩
set_option maxRecDepth 100000 in
set_option maxHeartbeats 3200000 in
theorem sFor_any : Calls Tryzx.prog 45 #[.agg #[.slice A n c], .slice B q d, .slice C p r] w (CntPost w (expN zs n ls q cs p)) := by
 have hz0 : (w.alloc (.cells #[.slice A n c] 32)).heap.size = w.heap.size + 1 := by simp
 have b0 : Below w.heap.size w ((w.alloc (.cells #[.slice A n c] 32)).alloc (.cells #[] 40)) := ((Below.refl _ _).alloc (Nat.le_refl _) _).alloc (by simp) _
 have bx0 : Box ((w.alloc (.cells #[.slice A n c] 32)).alloc (.cells #[] 40)) w.heap.size (.slice A n c) := (Box.new w (.slice A n c) 32).alloc _;have HO0 : Hid (OwnR ((w.alloc (.cells #[.slice A n c] 32)).alloc (.cells #[] 40)) (w.heap.size + 1) 40 4 (.slice (some ⟨w.heap.size + 1, 0, none⟩) 0 0) 0 []) := Lib.hid (by
  have h := OwnR.new (w.alloc (.cells #[.slice A n c] 32)) 40 4;rw [hz0] at h;exact h)
 have cx0 := bx0.1;have HH := Lib.hid h;have HL := Lib.hid hl;have HI := Lib.hid hi;have HB0 := Lib.hid b0;have HX0 := Lib.hid bx0;clear h hl hi b0 bx0 hz0;cases hC : cracksB zs n cs p
 ·have HN := Lib.hid (expN_f (ls := ls) (q := q) hC)
  go_enter Tryzx.func45, Tryz.ntmps45;go_wp2_with fail
  refine (sCracksOk_any _ _ _ zs _ _ _ cs _ (by exact HH.out.after HB0.out) hn (by exact HI.out.after HB0.out) hp).mono ?_
  rw [hC];rintro e w1 ⟨rfl, hb1⟩;have HB1 := Lib.hid (below_then HB0.out hb1);clear hb1 cx0;go_wp2;go_ret;exact ⟨_, 0, by rw [HN.out]; rfl, HB1.out⟩
 ·have HN := Lib.hid (expN_t (ls := ls) (q := q) hC)
  obtain ⟨rfl, hc2⟩ := cracks_out hC;have hpz : (p : Int) = (p : Int) := rfl;go_enter Tryzx.func45, Tryz.ntmps45;go_wp2_with fail
  refine (sCracksOk_any _ _ _ zs _ _ _ cs _ (by exact HH.out.after HB0.out) hn (by exact HI.out.after HB0.out) hp).mono ?_
  rw [hC];rintro e w1 ⟨rfl, hb1⟩;have HB1 := Lib.hid (below_then HB0.out hb1);have HX1 := Lib.hid (HX0.out.after hb1);have HO1 := Lib.hid (HO0.out.below hb1);have cx1 := HX1.out.1;clear hb1 cx0 HB0 HX0 HO0;go_wp2_with fail
  refine (sThr_any _ _ _ zs _ _ _ ls _ (by exact HH.out.after HB1.out) hn (by exact HL.out.after HB1.out) hq).mono ?_
  rintro e w2 ⟨v2, rfl, ho2, hb2⟩;have HB2 := Lib.hid (below_then HB1.out hb2);have HX2 := Lib.hid (HX1.out.after hb2);have HO2 := Lib.hid (HO1.out.below hb2);have hlt1 : w.heap.size + 1 < w1.heap.size := by
   have h1 := HO1.out.blockLt (w.heap.size + 1) rfl;exact h1
  have HAP : Hid (ApartV (.slice (some ⟨w.heap.size + 1, 0, none⟩) 0 0) v2) := Lib.hid (fun k hk hk2 => by
   simp [Value.ownBlock] at hk;have := ho2.ownLt k hk2
   omega)
  have HQ2 := Lib.hid (ho2.weaken (base' := w.heap.size + 1) (by omega))
  obtain ⟨A2, c2, rfl, hcap⟩ := ho2.slice;have hfew : thrN zs p ls q ≤ 8000 := by have := (corn_acc (rowsZ zs p ls q) (rowsN zs p ls q)).few; unfold thrN; omega
  have HST : Hid (∀ j, j < thrN zs p ls q → stB zs p ls q (nth (thrL zs p ls q) (j * 4)) (nth (thrL zs p ls q) (j * 4 + 1)) (nth (thrL zs p ls q) (j * 4 + 2)) (nth (thrL zs p ls q) (j * 4 + 3)) = true) := Lib.hid (fun j hj => thr_stands hj)
  have HAT : Hid (∀ j, exAt zs p ls q cs j = exB (crRes zs p ls q (nth (thrL zs p ls q) (j * 4)) (nth (thrL zs p ls q) (j * 4 + 1)) (nth (thrL zs p ls q) (j * 4 + 2)) (nth (thrL zs p ls q) (j * 4 + 3))) cs p) := Lib.hid (fun j => rfl)
  generalize thrN zs p ls q = m at *
  generalize thrL zs p ls q = L at *
  generalize exAt zs p ls q cs = f at *
  clear hb2 ho2 cx1 HB1 HX1 HO1 hc2;go_wp2;go_loopw [7, 9] (fun v7 v9 wr => ∃ k : Nat, v9 = .int .i64 k ∧ k ≤ m ∧ Hid (OwnR wr (w.heap.size + 1) 40 4 v7 (exN f k) (exL f L k)) ∧ Hid (OwnR wr (w.heap.size + 1) 40 4 (.slice A2 m c2) m L) ∧ Hid (ApartV v7 (.slice A2 m c2)) ∧ Hid (Kept w (.slice A p c) wr)) (fun _ v9 _ => m - (intOf v9).toNat)
  case atStart => exact ⟨0, rfl, Nat.zero_le _, HO2, HQ2, HAP, Lib.hid ⟨HB2.out, HX2.out, by have := HB2.out.size; have := HX2.out.2; omega⟩⟩
  case round =>
   clear HO2 HQ2 HAP HB2 HX2;obtain ⟨k, rfl, hk, HO, HQ, HP, HK⟩ := hrel;have hef := exN_le f k;by_cases hlt : k < m
   ·obtain ⟨b, off, rfl, hbB, hc⟩ := HQ.out.recs.2 (by omega)
    have y0 : wr.cell? ⟨b, off + k * 4, none⟩ = some (.int .i64 (nth L (k * 4))) := hc (k * 4) (by omega)
    have y1 : wr.cell? ⟨b, off + k * 4 + 1, none⟩ = some (.int .i64 (nth L (k * 4 + 1))) := hc (k * 4 + 1) (by omega)
    have y2 : wr.cell? ⟨b, off + k * 4 + 2, none⟩ = some (.int .i64 (nth L (k * 4 + 2))) := hc (k * 4 + 2) (by omega)
    have y3 : wr.cell? ⟨b, off + k * 4 + 3, none⟩ = some (.int .i64 (nth L (k * 4 + 3))) := hc (k * 4 + 3) (by omega)
    have HCL := Lib.hid hc;have hst := HST.out k hlt;have hat := HAT.out k;have HT : Hid (f k = true → exL f L (k + 1) = exL f L k ++ [nth L (k * 4), nth L (k * 4 + 1), nth L (k * 4 + 2), nth L (k * 4 + 3)]) := Lib.hid (fun h => exL_t h)
    have i1 : IntKind.i64.wrap ((k : Int) + 1) = (k : Int) + 1 := IntWalk.i64_in _ (by omega)
    have ik : (k : Int) < (m : Int) := by omega
    have cx2 := HK.out.box.1;clear hc;obtain ⟨p0, hp0⟩ : ∃ x, nth L (k * 4) = x := ⟨_, rfl⟩;obtain ⟨p1, hp1⟩ : ∃ x, nth L (k * 4 + 1) = x := ⟨_, rfl⟩;obtain ⟨p2, hp2⟩ : ∃ x, nth L (k * 4 + 2) = x := ⟨_, rfl⟩;obtain ⟨p3, hp3⟩ : ∃ x, nth L (k * 4 + 3) = x := ⟨_, rfl⟩;rw [hp0] at y0;rw [hp1] at y1;rw [hp2] at y2;rw [hp3] at y3;rw [hp0, hp1, hp2, hp3] at hst hat HT;have HP0 := Lib.hid hp0;have HP1 := Lib.hid hp1;have HP2 := Lib.hid hp2;have HP3 := Lib.hid hp3;clear hp0 hp1 hp2 hp3;have hrh := HH.out.after HK.out.below;have hrl := HL.out.after HK.out.below;go_wp2_with fail
    go_region_held3 (fun w' => w'.cell? ⟨w.heap.size, 0, none⟩ = some (.slice A p c) ∧ w'.cell? ⟨b, off + k * 4, none⟩ = some (.int .i64 p0) ∧ w'.cell? ⟨b, off + k * 4 + 1, none⟩ = some (.int .i64 p1) ∧ w'.cell? ⟨b, off + k * 4 + 2, none⟩ = some (.int .i64 p2) ∧ w'.cell? ⟨b, off + k * 4 + 3, none⟩ = some (.int .i64 p3)) (first | exact ⟨cx2, y0, y1, y2, y3⟩ | exact ⟨HK3.out.box.1, (hb3.cell (by exact hbB)).trans y0, (hb3.cell (by exact hbB)).trans y1, (hb3.cell (by exact hbB)).trans y2, (hb3.cell (by exact hbB)).trans y3⟩) ((go_at_call 75; refine (sCracksOf_any _ _ _ zs _ _ _ ls p0 p1 p2 p3 _ (by exact hrh) hn (by exact hrl) hq).mono ?_; rintro e w3 ⟨A3, l3, c3, rfl, ho3, hbx⟩; have hb3 := below_undrew hbx; have HK3 := Lib.hid (HK.out.after hb3)))
    have HO3 := Lib.hid (HO.out.below hb3);have HQ3 := Lib.hid (HQ.out.below hb3);have hlen : l3 = p := by
     have := ho3.len;rw [crRes_t hst, crL_len] at this;exact this
    have HI3 := Lib.hid ho3.intsAt;have HIC := Lib.hid (HI.out.after HK3.out.below);subst hlen;have hee : ((l3 : Int) == (l3 : Int)) = true := by simp
    clear hb3 hbx ho3 y0 y1 y2 y3 cx2 HK HO HQ;generalize hsn : crRes zs l3 ls q p0 p1 p2 p3 = sn at *
    go_wp2;go_loopw [11, 12] (fun v11 v12 wi => ∃ i : Nat, v12 = .int .i64 i ∧ i ≤ l3 ∧ v11 = .bool (exB sn cs i) ∧ Hid (Below w3.heap.size w3 wi)) (fun _ v12 _ => l3 - (intOf v12).toNat)
    case atStart => exact ⟨0, rfl, Nat.zero_le _, rfl, Lib.hid (Below.refl _ _)⟩
    case round =>
     obtain ⟨i, rfl, hil, rfl, HBi⟩ := hrel;by_cases hgo : i < l3 ∧ exB sn cs i = true
     ·obtain ⟨hli, hex⟩ := hgo
      obtain ⟨bc, oc, rfl, hbc, hcc⟩ := HIC.out.2 (by omega)
      obtain ⟨bs, os, rfl, hbs, hcs⟩ := HI3.out.2 (by omega)
      have c0 : wr.cell? ⟨bc, oc + i, none⟩ = some (.int .i64 (nth cs i)) := (HBi.out.cell (by exact hbc)).trans (hcc i hli)
      have c1 : wr.cell? ⟨bs, os + i, none⟩ = some (.int .i64 (nth sn i)) := (HBi.out.cell (by exact hbs)).trans (hcs i hli)
      have i2 : IntKind.i64.wrap ((i : Int) + 1) = (i : Int) + 1 := IntWalk.i64_in _ (by omega)
      have ii : (i : Int) < (l3 : Int) := by omega
      rw [hex];clear hcc hcs;by_cases h0 : nth cs i = 0
      ·have h0e : (nth cs i == 0) = true := by simp [h0]
       have HX := Lib.hid (exB_0 hex h0);clear h0 hex;go_wp2;go_quiet (fail)
       go_wp2;go_roundw
       case rel => exact ⟨i + 1, by go_num, by omega, by rw [HX.out], Lib.hid (by first | exact below_drewN HBi.out _ | exact HBi.out)⟩
       case measure => simp [intOf]; omega
      ·have h0e : (nth cs i == 0) = false := by simp [h0]
       have HX : Hid (exB sn cs (i + 1) = (nth sn i == nth cs i)) := Lib.hid (by
        by_cases e : nth sn i = nth cs i
        ·rw [exB_1 hex e]; simp [e]
        ·rw [exB, hex]; simp [h0, e])
       clear h0 hex;go_wp2;go_quiet (fail)
       go_wp2;go_roundw
       case rel => exact ⟨i + 1, by go_num, by omega, by rw [HX.out], Lib.hid (by first | exact below_drewN HBi.out _ | exact HBi.out)⟩
       case measure => simp [intOf]; omega
     ·have HE : Hid (exB sn cs i = exB sn cs l3) := Lib.hid (by
       by_cases hli : i < l3
       ·cases hex : exB sn cs i
        ·have := exB_f hex (l3 - i)
         rw [show i + (l3 - i) = l3 by omega] at this
         exact this.symm
        ·exact absurd ⟨hli, hex⟩ hgo
       ·obtain rfl : i = l3 := by omega
        rfl)
      have HEF : Hid (exB sn cs i = f k) := Lib.hid (HE.out.trans (by rw [hat]))
      have HO4 := Lib.hid (HO3.out.below HBi.out);have HQ4 := Lib.hid (HQ3.out.below HBi.out);have HK4 := Lib.hid (HK3.out.after HBi.out);obtain ⟨b4, off4, e4, hb4, hc4⟩ := HQ4.out.recs.2 (by omega)
      cases e4;have y0 : wr.cell? ⟨b, off + k * 4, none⟩ = some (.int .i64 p0) := by rw [← HP0.out]; exact hc4 (k * 4) (by omega)
      have y1 : wr.cell? ⟨b, off + k * 4 + 1, none⟩ = some (.int .i64 p1) := by rw [← HP1.out]; exact hc4 (k * 4 + 1) (by omega)
      have y2 : wr.cell? ⟨b, off + k * 4 + 2, none⟩ = some (.int .i64 p2) := by rw [← HP2.out]; exact hc4 (k * 4 + 2) (by omega)
      have y3 : wr.cell? ⟨b, off + k * 4 + 3, none⟩ = some (.int .i64 p3) := by rw [← HP3.out]; exact hc4 (k * 4 + 3) (by omega)
      have hcnd : ¬ ((i : Int) < (l3 : Int) ∧ exB sn cs i = true) := fun h => hgo ⟨by omega, h.2⟩
      clear hc4 hb4 HBi HO3 HQ3 HK3;by_cases hli : i < l3
      ·have ii : (i : Int) < (l3 : Int) := by omega
       have hxf : exB sn cs i = false := by
        cases e : exB sn cs i
        ·rfl
        ·exact absurd ⟨hli, e⟩ hgo
       have hff : f k = false := by rw [← HEF.out]; exact hxf
       have HNE := Lib.hid (exN_f hff);have HLE := Lib.hid (exL_f (L := L) hff);rw [hxf];clear hxf hff hgo hcnd y0 y1 y2 y3;go_wp2;go_roundw
       case rel => exact ⟨k + 1, by go_num, by omega, by rw [HNE.out, HLE.out]; exact HO4, HQ4, HP, HK4⟩
       case measure => simp [intOf]; omega
      ·have ii : ¬ (i : Int) < (l3 : Int) := by omega
       rw [HEF.out];clear hgo hcnd;cases hf : f k
       ·have HNE := Lib.hid (exN_f hf)
        have HLE := Lib.hid (exL_f (L := L) hf);clear y0 y1 y2 y3;go_wp2;go_roundw
        case rel => exact ⟨k + 1, by go_num, by omega, by rw [HNE.out, HLE.out]; exact HO4, HQ4, HP, HK4⟩
        case measure => simp [intOf]; omega
       ·have HNE := Lib.hid (exN_t hf)
        have HLE := Lib.hid (HT.out hf);have HCN : Hid (∀ i, i < 1 * 4 → (wr.alloc (.cells #[.int .i64 p0, .int .i64 p1, .int .i64 p2, .int .i64 p3] 40)).cell? ⟨wr.heap.size, i, none⟩ = some (.int .i64 (nth [p0, p1, p2, p3] i))) := Lib.hid (fun i hi => by
         have h := Box4.new wr p0 p1 p2 p3 40;match i, hi with
         | 0, _ => exact h.1.1
         | 1, _ => exact h.1.2.1
         | 2, _ => exact h.1.2.2.1
         | 3, _ => exact h.1.2.2.2)
        have hbs : w.heap.size + 1 ≤ (wr.alloc (.cells #[.int .i64 p0, .int .i64 p1, .int .i64 p2, .int .i64 p3] 40)).heap.size := by have := HK4.out.lt; simp; omega
        go_wp2_with (at_builtin; refine wpList_appZ2 _ rfl (.tmp 66) (.tmp 71) 81 rfl (w.heap.size + 1) 40 4 32 (.agg #[.int .i64 0, .int .i64 0, .int .i64 0, .int .i64 0]) Tryzx.underlying81 infoThr rfl (by decide) (by decide) _ (exN f k) (exL f L k) rfl (by exact HO4.out.alloc _) wr.heap.size 1 1 [p0, p1, p2, p3] rfl rfl (by exact HCN.out) (by omega) (w.heap.size + 1) wr (by exact (Below.refl _ _).alloc HK4.out.lt _) (Nat.le_refl _) hbs _ HLE.out.symm (.slice (some ⟨b, off, none⟩) m c2) m L (by exact HQ4.out.alloc _) HP.out ?_ (by omega); intro g' cap' w7 hown7 hb7 hq7 hp7 _)
        have HO7 := Lib.hid hown7;have HK7 := Lib.hid (HK4.out.step hb7);have HQ7 := Lib.hid hq7;have HP7 := Lib.hid hp7;clear hown7 hb7 hq7 hp7 y0 y1 y2 y3;go_wp2;go_roundw
        case rel => exact ⟨k + 1, by go_num, by omega, by rw [HNE.out]; exact HO7, HQ7, HP7, HK7⟩
        case measure => simp [intOf]; omega
   ·obtain rfl : k = m := by omega
    obtain ⟨A7, c7, rfl, _⟩ := HO.out.slice;go_wp2;go_ret;exact ⟨_, _, by rw [HN.out]; rfl, HK.out.below⟩
set_option maxRecDepth 100000 in
set_option maxHeartbeats 1600000 in
theorem sExp_any : Calls Tryzx.prog 20 #[.agg #[.slice A n c], .slice B q d, .slice C p r] w fun e w' => e = .returned (.bool (decide (0 < expN zs n ls q cs p))) ∧ Below w.heap.size w w' := by
 have b0 : Below w.heap.size w (w.alloc (.cells #[.slice A n c] 32)) := (Below.refl _ _).alloc (Nat.le_refl _) _;have bx0 : Box (w.alloc (.cells #[.slice A n c] 32)) w.heap.size (.slice A n c) := Box.new _ _ _;have cx0 := bx0.1;have hw1 := h.after b0;have hw2 := hl.after b0;have hw3 := hi.after b0;go_enter Tryzx.func20, Tryz.ntmps20;go_wp2_with fail
 refine (sFor_any _ _ _ zs _ _ _ ls _ _ _ cs _ (by exact hw1) hn (by exact hw2) hq (by exact hw3) hp).mono ?_
 rintro e w1 ⟨A1, c1, rfl, hb1⟩;have HB1 := Lib.hid (below_then b0 hb1);have hd : decide (((expN zs n ls q cs p : Nat) : Int) > 0) = decide (0 < expN zs n ls q cs p) := decide_eq_decide.2 (by omega)
 clear hb1 cx0 bx0 hw1 hw2 hw3 b0;go_wp2;go_ret;first | exact ⟨ret_bool hd, HB1.out⟩ | exact ⟨rfl, HB1.out⟩
set_option maxRecDepth 100000 in
set_option maxHeartbeats 1600000 in
theorem iExp_any : Calls Tryzx.prog 22 #[.agg #[.slice A n c], .slice B q d, .slice C p r] w fun e w' => e = .returned (.bool (decide (0 < expN zs n ls q cs p))) ∧ Below w.heap.size w w' := by
 have b0 : Below w.heap.size w (w.alloc (.cells #[.slice A n c] 32)) := (Below.refl _ _).alloc (Nat.le_refl _) _;have bx0 : Box (w.alloc (.cells #[.slice A n c] 32)) w.heap.size (.slice A n c) := Box.new _ _ _;have cx0 := bx0.1;have hw1 := h.after b0;have hw2 := hl.after b0;have hw3 := hi.after b0;go_enter Tryzx.func22, Tryz.ntmps22;go_wp2_with fail
 refine (iFor_any _ _ _ zs _ _ _ ls _ _ _ cs _ (by exact hw1) hn (by exact hw2) hq (by exact hw3) hp).mono ?_
 rintro e w1 ⟨A1, c1, rfl, hb1⟩;have HB1 := Lib.hid (below_then b0 hb1);have hd : decide (((expN zs n ls q cs p : Nat) : Int) > 0) = decide (0 < expN zs n ls q cs p) := decide_eq_decide.2 (by omega)
 clear hb1 cx0 bx0 hw1 hw2 hw3 b0;go_wp2;go_ret;first | exact ⟨ret_bool hd, HB1.out⟩ | exact ⟨rfl, HB1.out⟩
end
end X
end Go.Proofs.YtodneggnnipcnaaGreat
