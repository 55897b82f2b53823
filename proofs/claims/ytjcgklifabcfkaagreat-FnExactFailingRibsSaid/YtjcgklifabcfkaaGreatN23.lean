/-
  Texts that the law stands on, part 23.
-/
import Derived.Test.YtjcgklifabcfkaaGreatN1
import Derived.Test.YtjcgklifabcfkaaGreatN17
import Derived.Test.YtjcgklifabcfkaaGreatN18
import Derived.Test.YtjcgklifabcfkaaGreatN19
import Derived.Test.YtjcgklifabcfkaaGreatN21
import Derived.Test.YtjcgklifabcfkaaGreatN22
import Derived.Test.YtjcgklifabcfkaaGreatN4
import Derived.Test.YtjcgklifabcfkaaGreatN9
import Derived.Test.YtjcgklifabcfkaaGreatN10
import Derived.Deep.RegionLaw
import Derived.Deep.DeepCutAuto
set_option maxRecDepth 100000
set_option linter.unusedVariables false
set_option linter.unusedSimpArgs false
namespace Go.Proofs.YtjcgklifabcfkaaGreat
namespace X
open Go.RowKit
theorem infoWt:(Tryzx.prog.info? 139).map (fun i=>(i.zero,i.size,i.bytes))=some (some (.agg #[.int .i64 0,.int .i64 0]),2,16):=by kernel_rfl
theorem box_set {w:World} {g:Nat} {t:TypeId} {f:Nat→Value} (v:Value) (h:RowF w g t 1 f):Box (w.setCell ⟨g,0,none⟩ v) g v :=
 ⟨by have:=(h.set 0 v).cell (i:=0) (by omega); simpa using this,by simpa using h.lt⟩
theorem rowF_new1 (w:World) (u:Value) (t:TypeId):RowF (w.alloc (.cells #[u] t)) w.heap.size t 1 (fun _=>u):=RowF.of_row (World.rowIs_alloc w #[u] t (fun _=>u) (fun i hi=>by simp at hi; subst hi; rfl))
theorem rowF_new3 (w:World) (a b c:Int) (T:TypeId):RowF (w.alloc (.cells #[.int .i64 a,.int .i64 b,.int .i64 c] T)) w.heap.size T 3 (ints [a,b,c]) :=
 RowF.of_row (World.rowIs_alloc w #[.int .i64 a,.int .i64 b,.int .i64 c] T _ (fun j hj=>by simp at hj; match j,hj with | 0,_=>rfl | 1,_=>rfl | 2,_=>rfl))
def WtsPost (w:World) (L:List Int) (m:Nat) (e:Ending) (w':World):Prop :=
 ∃ g,e = .returned (.slice (some ⟨g,0,none⟩) m m)∧w.heap.size≤g∧RowF w' g 139 (m*2) (ints L)∧Below w.heap.size w w'
theorem wmL_fill {zs ls:List Int} {i m k:Nat} (hk:k<m):(fun j=>if j=k*2+1 then Value.int .i64 (kmTo zs ls k i) else if j=k*2 then Value.int .i64 (kwTo zs ls k i) else fill (wmL zs ls i m) (k*2) j)=fill (wmL zs ls i m) ((k+1)*2):=by
 funext j
 have h:=wmL_nth zs ls i hk;have h2:=fill_step2 (wmL zs ls i m) (k*2) j;rw [h.1,h.2] at h2;rw [h2,show (k+1)*2=k*2+2 by omega]
theorem wmL_load {zs ls:List Int} {i m k:Nat} (hk:k<m) (h:nth ls (i*3)=(k:Int)):∀ j,j<m*2→(if j=k*2+1 then Value.int .i64 (kmTo zs ls k (i+1)) else if j=k*2 then Value.int .i64 (kwTo zs ls k (i+1)) else ints (wmL zs ls i m) j)=ints (wmL zs ls (i+1) m) j:=by
 intro j hj;have h1:=wmL_nth zs ls (i+1) hk;by_cases e1:j=k*2+1
 ·subst e1; rw [if_pos rfl,ints_def,h1.2]
 ·by_cases e2:j=k*2
  ·subst e2; rw [if_neg e1,if_pos rfl,ints_def,h1.1]
  ·rw [if_neg e1,if_neg e2,ints_def,ints_def]
   have hne:¬ nth ls (i*3)=((j / 2:Nat):Int):=by omega
   have ha:=wmL_nth zs ls i (m:=m) (k:=j / 2) (by omega);have hb:=wmL_nth zs ls (i+1) (m:=m) (k:=j / 2) (by omega);rw [kwTo_f zs hne,kmTo_f zs hne] at hb;rcases Nat.mod_two_eq_zero_or_one j with e | e
   ·rw [show j=j / 2*2 by omega,ha.1,hb.1]
   ·rw [show j=j / 2*2+1 by omega,ha.2,hb.2]
set_option maxRecDepth 100000 in
set_option maxHeartbeats 3200000 in
theorem weightsOf_any (A : Option Addr) (n c : Nat) (zs : List Int) (B : Option Addr) (q d : Nat) (ls : List Int) (w : World) (h : RecsAt w w.heap.size 4 A n zs) (hl : RecsAt w w.heap.size 3 B q ls) (hL : loadsB zs n ls q = true) :
    Calls Tryzx.prog 112 #[.agg #[.slice A n c], .slice B q d] w (WtsPost w (wmL zs ls q (n - 1)) (n - 1)) := by
  obtain ⟨hA, hq6, hLA⟩ := loadsB_out hL;obtain ⟨hn8, hpt⟩ := archB_out hA;obtain ⟨m, rfl⟩ : ∃ m, n = m + 1 := ⟨n - 1, by omega⟩;rw [Nat.add_sub_cancel] at hpt ⊢;have hmk := fun W => run_make_recs (P := Tryzx.prog) 162 139 2 16 #[.int .i64 0, .int .i64 0] Tryzx.underlying162 infoWt m (by omega) (by omega) W
  have HPT := Lib.hid hpt;have HLA := Lib.hid hLA;have HKB := Lib.hid (fun k i hi => kwTo_bd zs hLA hq6 k (i := i) hi);have HMB := Lib.hid (fun k i hi => kmTo_bd zs hLA hq6 k (i := i) hi);obtain ⟨b, off, rfl, hbB, hcell⟩ := h.2 (by omega);have HC := Lib.hid (fun j (hj : j < m + 1) => jtCells hcell hj);have HLD := Lib.hid hl;have e1 : ((m + 1 : Nat) : Int) - 1 = (m : Int) := by omega
  have e2 : IntKind.i64.wrap (((m + 1 : Nat) : Int) - 1) = (m : Int) := by rw [e1]; exact IntWalk.i64_in _ (by omega)
  have HB0 := Lib.hid (((Below.refl w.heap.size w).alloc (Nat.le_refl _) (.cells #[.slice (some ⟨b, off, none⟩) (m + 1) c] 45)).alloc (by simp) (.cells (madeCells #[.int .i64 0, .int .i64 0] (m * 2)) 139));have HX0 := Lib.hid ((Box.new w (.slice (some ⟨b, off, none⟩) (m + 1) c) 45).alloc (.cells (madeCells #[.int .i64 0, .int .i64 0] (m * 2)) 139));have HR0 : Hid (RowF ((w.alloc (.cells #[.slice (some ⟨b, off, none⟩) (m + 1) c] 45)).alloc (.cells (madeCells #[.int .i64 0, .int .i64 0] (m * 2)) 139)) (w.heap.size + 1) 139 (m * 2) (fill (wmL zs ls 0 m) (0 * 2))) := by
    have h := RowF.of_row (rowIs_made0 (w.alloc (.cells #[.slice (some ⟨b, off, none⟩) (m + 1) c] 45)) #[.int .i64 0, .int .i64 0] 139 (m * 2) (fun j hj => by simp at hj; match j, hj with | 0, _ => rfl | 1, _ => rfl) (by simp) (wmL zs ls 0 m))
    rw [World.size_alloc] at h;exact h
  clear hcell h hl hL hA hLA hpt;go_enter Tryzx.func112, Tryz.ntmps112;go_wp2;clear hmk;go_loopw [18] (fun i wr => ∃ k : Nat, k ≤ m ∧ i = .int .i64 k ∧ Hid (RowF wr (w.heap.size + 1) 139 (m * 2) (fill (wmL zs ls 0 m) (k * 2))) ∧ Hid (Box wr w.heap.size (.slice (some ⟨b, off, none⟩) (m + 1) c)) ∧ Hid (Below w.heap.size w wr)) (fun i _ => m - (intOf i).toNat)
  case atStart => exact ⟨0, Nat.zero_le _, rfl, HR0, HX0, HB0⟩
  case round =>
    clear HR0 HX0 HB0;obtain ⟨k, hk, rfl, HR, HX, HB⟩ := hrel;by_cases hlt : k < m
    · have hq := HC.out k (by omega)
      have hq2 := HC.out (k + 1) (by omega);have hz := HB.out.size;have hbr : b < wr.heap.size := by omega
      have hgl := HX.out.2;have hrl := HR.out.lt;have hbox := HX.out.1;have x0 := (HB.out.cell (p := ⟨b, off + k * 4, none⟩) hbB).trans hq.1;have x1 := (HB.out.cell (p := ⟨b, off + k * 4 + 1, none⟩) hbB).trans hq.2.1;have x2 := (HB.out.cell (p := ⟨b, off + k * 4 + 2, none⟩) hbB).trans hq.2.2.1;have x3 := (HB.out.cell (p := ⟨b, off + k * 4 + 3, none⟩) hbB).trans hq.2.2.2;have y0 := (HB.out.cell (p := ⟨b, off + (k + 1) * 4, none⟩) hbB).trans hq2.1;have y1 := (HB.out.cell (p := ⟨b, off + (k + 1) * 4 + 1, none⟩) hbB).trans hq2.2.1;have y2 := (HB.out.cell (p := ⟨b, off + (k + 1) * 4 + 2, none⟩) hbB).trans hq2.2.2.1;have y3 := (HB.out.cell (p := ⟨b, off + (k + 1) * 4 + 3, none⟩) hbB).trans hq2.2.2.2;have i1 : IntKind.i64.wrap ((k : Int) + 1) = (k : Int) + 1 := IntWalk.i64_in _ (by omega);have i2 : (k : Int) < ((m + 1 : Nat) : Int) := by omega
      have i2' : (k : Int) < (m : Int) + 1 := by omega
      have i3 : (k : Int) + 1 < ((m + 1 : Nat) : Int) := by omega
      have i3' : (k : Int) + 1 < (m : Int) + 1 := by omega
      have i4 : (0 : Int) ≤ (k : Int) + 1 := by omega
      have i5 : ((k : Int) + 1).toNat = k + 1 := by omega
      have i6 : (0 : Int) ≤ (k : Int) := by omega
      have i7 : (k : Int) < (m : Int) := by omega
      have ne1 : wr.heap.size ≠ w.heap.size := by omega
      have ne2 : wr.heap.size ≠ b := by omega
      have HST : Hid (btwA zs k = btw (nth zs (k * 4)) (nth zs (k * 4 + 1)) (nth zs (k * 4 + 2)) (nth zs (k * 4 + 3)) (nth zs ((k + 1) * 4)) (nth zs ((k + 1) * 4 + 1)) (nth zs ((k + 1) * 4 + 2)) (nth zs ((k + 1) * 4 + 3))) := rfl;have hS : stoneB (btw (nth zs (k * 4)) (nth zs (k * 4 + 1)) (nth zs (k * 4 + 2)) (nth zs (k * 4 + 3)) (nth zs ((k + 1) * 4)) (nth zs ((k + 1) * 4 + 1)) (nth zs ((k + 1) * 4 + 2)) (nth zs ((k + 1) * 4 + 3))) 4 = true := by
        have := HPT.out k hlt;simp only [pairB, Bool.and_eq_true] at this;exact this.1
      clear hq hq2;obtain ⟨wk, rfl⟩ : ∃ wk : World, wk = wr := ⟨_, rfl⟩;go_upto_region 5 with fail
      go_cut [7] (fun s7 wx => ∃ gs gq : Nat, s7 = .pointer (some ⟨gs, 0, none⟩) ∧ wk.heap.size ≤ gs ∧ Hid (Box wx gs (.slice (some ⟨gq, 0, none⟩) 4 4)) ∧ Hid (RecsAt wx wx.heap.size 2 (some ⟨gq, 0, none⟩) 4 (btwA zs k)) ∧ Hid (Below wk.heap.size wk wx))
      case first =>
        go_region_held3 (fun w' => w'.cell? ⟨w.heap.size, 0, none⟩ = some (.slice (some ⟨b, off, none⟩) (m + 1) c) ∧ (w'.cell? ⟨b, off + k * 4, none⟩ = some (.int .i64 (nth zs (k * 4))) ∧ w'.cell? ⟨b, off + k * 4 + 1, none⟩ = some (.int .i64 (nth zs (k * 4 + 1))) ∧ w'.cell? ⟨b, off + k * 4 + 2, none⟩ = some (.int .i64 (nth zs (k * 4 + 2))) ∧ w'.cell? ⟨b, off + k * 4 + 3, none⟩ = some (.int .i64 (nth zs (k * 4 + 3)))) ∧ (w'.cell? ⟨b, off + (k + 1) * 4, none⟩ = some (.int .i64 (nth zs ((k + 1) * 4))) ∧ w'.cell? ⟨b, off + (k + 1) * 4 + 1, none⟩ = some (.int .i64 (nth zs ((k + 1) * 4 + 1))) ∧ w'.cell? ⟨b, off + (k + 1) * 4 + 2, none⟩ = some (.int .i64 (nth zs ((k + 1) * 4 + 2))) ∧ w'.cell? ⟨b, off + (k + 1) * 4 + 3, none⟩ = some (.int .i64 (nth zs ((k + 1) * 4 + 3))))) (first | exact ⟨hbox, ⟨x0, x1, x2, x3⟩, ⟨y0, y1, y2, y3⟩⟩ | (refine keepA (by assumption) (fun i => ?_) ?_ <;> first | exact cell_alloc_lt (by first | (simp; done) | (simp; omega) | omega) | exact (cell_alloc_lt (by first | (simp; done) | (simp; omega) | omega)).trans (cell_alloc_lt (by first | (simp; done) | (simp; omega) | omega)).symm | exact hcc _ _ (by first | (simp; done) | (simp; omega) | omega) | exact World.cell?_setCell_far _ _ _ _ (by first | (simp; done) | (simp; omega) | omega))) ((go_at_call 99; refine (iBetween_any _ _ _ _ _ _ _ _ _).mono ?_; rintro e w1 ⟨A1, n1, c1, rfl, ht, _, hb1⟩; obtain ⟨rfl, rfl, gq, rfl, hrq, hgq⟩ := ht hS; rw [hS]; obtain ⟨hcc, hff⟩ := bcell hb1; have k1 := hb1.size; simp at k1; have k2 : w1.heap.size ≠ w.heap.size := (by omega); have k3 : w1.heap.size ≠ b := (by omega)))
        · go_wp2_with fail
          go_meet
          have hzk := hb1.size;simp at hzk;have hgl2 := hrq.lt;exact ⟨w1.heap.size, gq, rfl, by omega, Lib.hid (Box.new _ _ _), Lib.hid ((show RowF (w1.alloc _) gq 108 (4 * 2) (ints (btwA zs k)) from hrq.alloc _).recs rfl), Lib.hid (((below_drewN (Below.refl wk.heap.size wk) 1).trans (hb1.mono (by simp))).alloc (by omega) _)⟩
        · go_wp2_with fail
          go_meet
          have hzk := hb1.size;simp at hzk;have hgl2 := hrq.lt;have hrw := (rowF_new1 wk.drew (.slice none 0 0) 127).after hb1;simp at hgq;exact ⟨wk.heap.size, gq, rfl, by omega, Lib.hid (box_set _ hrw), Lib.hid ((show RowF (w1.setCell _ _) gq 108 (4 * 2) (ints (btwA zs k)) from hrq.set_other (by simp; omega) _).recs rfl), Lib.hid ((((below_drewN (Below.refl wk.heap.size wk) 1).alloc (Nat.le_refl _) _).trans (hb1.mono (by simp))).setCell (by simp) _)⟩
      case rest =>
        clear x0 x1 x2 x3 y0 y1 y2 y3 hbox;obtain ⟨gs, gq, rfl, hgs, HBX, HRQ, HBW⟩ := hcut;have HRc := Lib.hid (HR.out.after HBW.out);have HXc := Lib.hid (HX.out.after HBW.out);have HBc := Lib.hid (HB.out.trans (HBW.out.mono hz));have hgsl := HBX.out.2;have bxc := HBX.out.1;have hrlc := HRc.out.lt;have hzc := HBW.out.size;have hnes : w.heap.size + 1 ≠ gs := by omega
        have HSW : Hid (swt zs k = weightI (btwA zs k) 4 ∧ smt zs k = overI facX (btwA zs k) 4) := ⟨rfl, rfl⟩;clear HR HX HB;go_wp2;go_region_held3 (fun w' => w'.cell? ⟨gs, 0, none⟩ = some (.slice (some ⟨gq, 0, none⟩) 4 4)) (first | exact bxc | assumption | (refine (World.cell?_setCell_far _ _ _ _ hnes).trans ((World.cell?_setCell_far _ _ _ _ hnes).trans ?_); assumption))
          ((first
            | (go_at_call 146; refine (iWeightOf_any _ _ _ (btwA zs k) _ (by exact HRQ.out)).mono ?_; rintro e w1 ⟨rfl, hb1⟩; have bx1 : w1.cell? ⟨gs, 0, none⟩ = some (.slice (some ⟨gq, 0, none⟩) 4 4) := (hb1.cell (p := ⟨gs, 0, none⟩) (by exact hgsl)).trans bxc; have HQ1 := Lib.hid ((show RecsAt wc.drew wc.drew.heap.size 2 _ 4 (btwA zs k) from HRQ.out).after hb1))
            | (go_at_call 147; refine (iMomentOf_any _ _ _ (btwA zs k) _ HQ1.out).mono ?_; rintro e w2 ⟨rfl, hb2⟩; have HR2 := Lib.hid ((show RowF wc.drew _ _ _ _ from HRc.out).after hb1 |>.after hb2); have bx2 : w2.cell? ⟨gs, 0, none⟩ = some (.slice (some ⟨gq, 0, none⟩) 4 4) := (hb2.cell (p := ⟨gs, 0, none⟩) (by have := hb1.size; simp at this; exact Nat.lt_of_lt_of_le hgsl this)).trans bx1; have d0 := HR2.out.cell (i := k * 2) (by omega); have d1 := HR2.out.cell (i := k * 2 + 1) (by omega); have f0 := HR2.out.frozen (k * 2); have f1 := HR2.out.frozen (k * 2 + 1))))
        have HB3 := Lib.hid ((((below_drewN HBc.out 1).trans (hb1.mono (by simp; omega))).trans (hb2.mono (by have := hb1.size; simp at this; omega))).setCell (p := ⟨w.heap.size + 1, k * 2, none⟩) (by simp) (.int .i64 (weightI (btwA zs k) 4)) |>.setCell (p := ⟨w.heap.size + 1, k * 2 + 1, none⟩) (by simp) (.int .i64 (overI facX (btwA zs k) 4)))
        have HX3 := Lib.hid (((show Box wc.drew _ _ from HXc.out).after hb1).after hb2);have HX4 : Hid (Box ((w2.setCell ⟨w.heap.size + 1, k * 2, none⟩ (.int .i64 (weightI (btwA zs k) 4))).setCell ⟨w.heap.size + 1, k * 2 + 1, none⟩ (.int .i64 (overI facX (btwA zs k) 4))) w.heap.size (.slice (some ⟨b, off, none⟩) (m + 1) c)) :=
          ⟨(World.cell?_setCell_far _ _ _ _ (by simp)).trans ((World.cell?_setCell_far _ _ _ _ (by simp)).trans HX3.out.1), by have := HX3.out.2; simpa using this⟩
        have HR3 : Hid (RowF ((w2.setCell ⟨w.heap.size + 1, k * 2, none⟩ (.int .i64 (weightI (btwA zs k) 4))).setCell ⟨w.heap.size + 1, k * 2 + 1, none⟩ (.int .i64 (overI facX (btwA zs k) 4))) (w.heap.size + 1) 139 (m * 2) (fill (wmL zs ls 0 m) ((k + 1) * 2))) := by
          have h := (HR2.out.set (k * 2) (.int .i64 (weightI (btwA zs k) 4))).set (k * 2 + 1) (.int .i64 (overI facX (btwA zs k) 4));have hf := wmL_fill (zs := zs) (ls := ls) (i := 0) hlt;rw [kwTo_0, kmTo_0, HSW.out.1, HSW.out.2] at hf;rw [← hf];exact h
        clear d0 d1 f0 f1 hb1 hb2 bx1 bx2 bxc;go_wp2;go_roundw
        case rel => exact ⟨k + 1, by omega, by go_num, HR3, HX4, HB3⟩
        case measure => simp [intOf]; omega
    · obtain rfl : m = k := by omega
      have HR0 : Hid (RowF wr (w.heap.size + 1) 139 (m * 2) (ints (wmL zs ls 0 m))) := HR.out.congr (fun j hj => fill_end _ hj);clear HR HC;go_wp2;go_loopw [47] (fun v wr => ∃ i : Nat, i ≤ q ∧ v = .int .i64 i ∧ Hid (RowF wr (w.heap.size + 1) 139 (m * 2) (ints (wmL zs ls i m))) ∧ Hid (Below w.heap.size w wr)) (fun v _ => q - (intOf v).toNat)
      case atStart => exact ⟨0, Nat.zero_le _, rfl, HR0, HB⟩
      case round =>
        clear HR0 HB HX;obtain ⟨i, hi, rfl, HR, HB⟩ := hrel;by_cases hli : i < q
        · obtain ⟨b2, off2, rfl, hb2B, hc2⟩ := HLD.out.2 (by omega)
          have hlc := ldCells hc2 hli;have x0 := (HB.out.cell (p := ⟨b2, off2 + i * 3, none⟩) hb2B).trans hlc.1;have x1 := (HB.out.cell (p := ⟨b2, off2 + i * 3 + 1, none⟩) hb2B).trans hlc.2.1;have x2 := (HB.out.cell (p := ⟨b2, off2 + i * 3 + 2, none⟩) hb2B).trans hlc.2.2;have hlo := loadAt_out (HLA.out i hli);obtain ⟨s, hs⟩ : ∃ s : Nat, nth ls (i * 3) = (s : Int) := ⟨(nth ls (i * 3)).toNat, by omega⟩;have hsm : s < m := by omega
          have hz := HB.out.size;have hrl := HR.out.lt;have c0 := HR.out.cell (i := s * 2) (by omega);have c1 := HR.out.cell (i := s * 2 + 1) (by omega);have hwn := wmL_nth zs ls i hsm;rw [ints_def, hwn.1] at c0;rw [ints_def, hwn.2] at c1;have hkb := HKB.out s i (by omega);have hmb := HMB.out s i (by omega);have hkb2 := HKB.out s (i + 1) (by omega);have hmb2 := HMB.out s (i + 1) (by omega);have hwx := wx_bd hlo.2.1 hlo.2.2;have e3 : IntKind.i64.wrap (kwTo zs ls s i + nth ls (i * 3 + 1)) = kwTo zs ls s (i + 1) := by rw [← kwTo_t zs hs]; exact IntWalk.i64_in _ (by omega)
          have e4 : IntKind.i64.wrap (nth ls (i * 3 + 1) * nth ls (i * 3 + 2)) = nth ls (i * 3 + 1) * nth ls (i * 3 + 2) := IntWalk.i64_in _ (by omega);have e5 : IntKind.i64.wrap (kmTo zs ls s i + nth ls (i * 3 + 1) * nth ls (i * 3 + 2)) = kmTo zs ls s (i + 1) := by rw [← kmTo_t zs hs]; exact IntWalk.i64_in _ (by omega)
          have HLW := Lib.hid (wmL_load (zs := zs) hsm hs);rw [hs] at x0;have s0 : (0 : Int) ≤ (s : Int) := by omega
          have s1 : (s : Int) < (m : Int) := by omega
          clear hs hlc hc2 hlo hwn;have HRA := Lib.hid (HR.out.alloc (.cells #[.int .i64 (s : Int), .int .i64 (nth ls (i * 3 + 1)), .int .i64 (nth ls (i * 3 + 2))] 77));have HBA := Lib.hid (HB.out.alloc hz (.cells #[.int .i64 (s : Int), .int .i64 (nth ls (i * 3 + 1)), .int .i64 (nth ls (i * 3 + 2))] 77));have g0 := HRA.out.frozen (s * 2);have g1 := HRA.out.frozen (s * 2 + 1);generalize nth ls (i * 3 + 1) = lw at *
          generalize nth ls (i * 3 + 2) = lx at *
          have HLB : Hid (RowF (wr.alloc (.cells #[.int .i64 (s : Int), .int .i64 lw, .int .i64 lx] 77)) wr.heap.size 77 3 (ints [(s : Int), lw, lx])) := RowF.of_row (World.rowIs_alloc wr #[.int .i64 (s : Int), .int .i64 lw, .int .i64 lx] 77 _ (fun j hj => by simp at hj; match j, hj with | 0, _ => rfl | 1, _ => rfl | 2, _ => rfl))
          clear hkb hmb hkb2 hmb2 hwx;obtain ⟨wk, rfl⟩ : ∃ wk : World, wk = wr := ⟨_, rfl⟩;go_upto_region 11 with fail
          go_cut [10] (fun s10 wx => s10 = .pointer (some ⟨wk.heap.size, 0, none⟩) ∧ Hid (RowF wx (w.heap.size + 1) 139 (m * 2) (fun j => if j = s * 2 then Value.int .i64 (kwTo zs ls s (i + 1)) else ints (wmL zs ls i m) j)) ∧ Hid (RowF wx wk.heap.size 77 3 (ints [(s : Int), lw, lx])) ∧ Hid (Below w.heap.size w wx))
          case first =>
            have HLN : Hid (RowF ((wk.setCell ⟨w.heap.size + 1, s * 2, none⟩ (.int .i64 (kwTo zs ls s (i + 1)))).alloc (.cells #[.int .i64 (s : Int), .int .i64 lw, .int .i64 lx] 77)) wk.heap.size 77 3 (ints [(s : Int), lw, lx])) := by
              have h := rowF_new3 (wk.setCell ⟨w.heap.size + 1, s * 2, none⟩ (.int .i64 (kwTo zs ls s (i + 1)))) (s : Int) lw lx 77;have e : (wk.setCell ⟨w.heap.size + 1, s * 2, none⟩ (.int .i64 (kwTo zs ls s (i + 1)))).heap.size = wk.heap.size := by simp
              rw [e] at h;exact h
            go_region_law (fail)
            all_goals (go_wp2_with fail; go_meet; exact ⟨rfl, Lib.hid ((HR.out.set (s * 2) _).alloc _).drew, Lib.hid HLN.out.drew, Lib.hid ((HB.out.setCell (by simp) _).alloc (by simp; omega) _).drew⟩)
          case rest =>
            clear c0 x0 x1 x2 e3 g0 g1 HRA HLB HBA;obtain ⟨rfl, HRc, HLc, HBc⟩ := hcut;have c1 : wc.cell? ⟨w.heap.size + 1, s * 2 + 1, none⟩ = some (.int .i64 (kmTo zs ls s i)) := by
              have h := HRc.out.cell (i := s * 2 + 1) (by omega);rw [if_neg (by omega), ints_def, (wmL_nth zs ls i hsm).2] at h;exact h
            have y0 : wc.cell? ⟨wk.heap.size, 0, none⟩ = some (.int .i64 (s : Int)) := HLc.out.cell (by omega);have y1 : wc.cell? ⟨wk.heap.size, 1, none⟩ = some (.int .i64 lw) := HLc.out.cell (by omega);have y2 : wc.cell? ⟨wk.heap.size, 2, none⟩ = some (.int .i64 lx) := HLc.out.cell (by omega);have g1 := HRc.out.frozen (s * 2 + 1);have HR4 : Hid (RowF (wc.drew.setCell ⟨w.heap.size + 1, s * 2 + 1, none⟩ (.int .i64 (kmTo zs ls s (i + 1)))) (w.heap.size + 1) 139 (m * 2) (ints (wmL zs ls (i + 1) m))) := (HRc.out.drew.set (s * 2 + 1) _).congr HLW.out;have HB4 : Hid (Below w.heap.size w (wc.drew.setCell ⟨w.heap.size + 1, s * 2 + 1, none⟩ (.int .i64 (kmTo zs ls s (i + 1))))) := Lib.hid (HBc.out.drew.setCell (by simp) _);go_wp2;go_region_law (fail)
            all_goals
              go_wp2;go_roundw
              case rel => exact ⟨i + 1, by omega, by go_num, HR4, HB4⟩
              case measure => simp [intOf]; omega
        · obtain rfl : q = i := by omega
          go_wp2;go_ret;exact ⟨_, rfl, by omega, HR.out, HB.out⟩
end X
namespace X
open Go.RowKit
theorem sum_wm (zs ls:List Int) (q:Nat) {m:Nat}:∀ k,k≤m→sumW (wmL zs ls q m) k=leftW zs ls q k∧sumM (wmL zs ls q m) k=leftM zs ls q k
 | 0,_=>⟨rfl,rfl⟩
 | k+1,hk=>by
  have ih:=sum_wm zs ls q (m:=m) k (by omega);have h:=wmL_nth zs ls q (m:=m) (k:=k) (by omega);simp only [sumW,sumM,leftW,leftM,ih.1,ih.2,h.1,h.2];exact ⟨trivial,trivial⟩
set_option maxRecDepth 100000 in
set_option maxHeartbeats 1600000 in
theorem iRowsOfN_any (A : Option Addr) (n c : Nat) (zs : List Int) (B : Option Addr) (q d : Nat) (ls : List Int) (w : World) (h : RecsAt w w.heap.size 4 A n zs) (hn : n ≤ 1048576) (hl : RecsAt w w.heap.size 3 B q ls) (hq : q ≤ 1048576) :
    Calls Tryzx.prog 88 #[.agg #[.slice A n c], .slice B q d] w (RowsPostN w (rowsN zs n ls q) (rowsZ zs n ls q)) := by
  have b0 : Below w.heap.size w (w.alloc (.cells #[.slice A n c] 45)) := (Below.refl _ _).alloc (Nat.le_refl _) _;have h1 := h.after b0;have l1 := hl.after b0;have bx0 : Box (w.alloc (.cells #[.slice A n c] 45)) w.heap.size (.slice A n c) := Box.new _ _ _;cases hL : loadsB zs n ls q
  · have HF := Lib.hid (rows_f hL)
    go_enter Tryzx.func88, Tryz.ntmps88;go_wp2_with fail
    refine (iLoadsOk_any _ _ _ zs _ _ _ ls _ h1 hn l1 hq).mono ?_;rw [hL];rintro e w1 ⟨rfl, hb1⟩;have HB1 := Lib.hid (below_then b0 hb1);clear hb1;go_wp2;go_ret;exact ⟨⟨_, rfl, by rw [HF.out.1, HF.out.2]; exact OwnR.nil _ _ _ _, HB1.out⟩, fun _ => rfl⟩
  · have HT := Lib.hid (rows_t hL)
    have hA := (loadsB_out hL).1;have hn8 := (archB_out hA).1;have HE := Lib.hid (rowsL_congr (zs := zs) (n := n) (W := sumW (wmL zs ls q (n - 1))) (M := sumM (wmL zs ls q (n - 1))) (W' := leftW zs ls q) (M' := leftM zs ls q) (fun k hk => sum_wm zs ls q k (by omega)));have HWM : Hid (WMok (sumW (wmL zs ls q (n - 1))) (sumM (wmL zs ls q (n - 1))) n) := fun k hk => by
      have e := sum_wm zs ls q (m := n - 1) k (by omega);rw [e.1, e.2];exact wmok_left hL k hk
    go_enter Tryzx.func88, Tryz.ntmps88;go_wp2_with fail
    refine (iLoadsOk_any _ _ _ zs _ _ _ ls _ h1 hn l1 hq).mono ?_;rw [hL];rintro e w1 ⟨rfl, hb1⟩;have HB1 := Lib.hid (below_then b0 hb1);have bx1 := bx0.after hb1;have h2 := h1.after hb1;have l2 := l1.after hb1;have cx1 := bx1.1;clear hb1 b0 h1 l1 bx0 h hl;go_wp2;go_region_held3 (fun w' => w'.cell? ⟨w.heap.size, 0, none⟩ = some (.slice A n c)) (first | exact cx1 | exact cx2 | exact cx3)
      ((first
        | (go_at_call 112; refine (weightsOf_any _ _ _ zs _ _ _ ls _ (by exact h2) (by exact l2) hL).mono ?_; rintro e w2 ⟨g2, rfl, hg2, hr2, hbx2⟩; have hb2 := below_undrew hbx2; have h3 := h2.after hb2; have bx2 := bx1.after hb2; have cx2 := bx2.1; have HB2 := Lib.hid (below_then HB1.out hb2); have s2 : RecsAt w2 w2.heap.size 2 (some ⟨g2, 0, none⟩) (n - 1) (wmL zs ls q (n - 1)) := hr2.recs (wmL_len _ _ _ _))
        | (go_at_call 111; refine (rowsFor_any _ _ _ zs _ _ _ _ (by exact h3) (by exact s2) hA HWM.out).mono ?_; rintro e w3 ⟨v3, rfl, ho3, hb3⟩; have cx3 := (bx2.after hb3).1; have HB3 := Lib.hid (below_then HB2.out hb3))))
    obtain ⟨A3, c3, rfl, _⟩ := ho3.slice;have HO3 := Lib.hid (ho3.weaken HB2.out.size);clear ho3 hb3 hb2 hbx2 hr2 h2 h3 l2 s2 bx1 bx2 cx1 cx2 cx3;go_wp2;go_ret;exact ⟨⟨_, rfl, by rw [HT.out.1, HT.out.2, ← HE.out]; exact HO3.out, HB3.out⟩, fun h0 => by have := HT.out.1; omega⟩
end X
namespace X
open Go.RowKit
theorem rowsN_few (zs:List Int) (n:Nat) (ls:List Int) (q:Nat):rowsN zs n ls q≤17:=by
 unfold rowsN;split
 ·rename_i h
  have:=(archB_out (loadsB_out h).1).1;omega
 ·omega
def thrN (zs:List Int) (n:Nat) (ls:List Int) (q:Nat):Nat:=cornN (rowsZ zs n ls q) (rowsN zs n ls q)
def thrL (zs:List Int) (n:Nat) (ls:List Int) (q:Nat):List Int:=cornL (rowsZ zs n ls q) (rowsN zs n ls q)
def ThrPost (w:World) (m:Nat) (L:List Int) (e:Ending) (w':World):Prop :=
 ∃ v,e = .returned v∧OwnR w' w.heap.size 66 4 v m L∧Below w.heap.size w w'
section
variable (A : Option Addr) (n c : Nat) (zs : List Int) (B : Option Addr) (q d : Nat) (ls : List Int) (w : World) (h : RecsAt w w.heap.size 4 A n zs) (hn : n ≤ 1048576) (hl : RecsAt w w.heap.size 3 B q ls) (hq : q ≤ 1048576)
include h hn hl hq
set_option maxRecDepth 100000 in
set_option maxHeartbeats 3200000 in
theorem sThr_any:Calls Tryzx.prog 41 #[.agg #[.slice A n c],.slice B q d] w (ThrPost w (thrN zs n ls q) (thrL zs n ls q)):=by
 have b0:Below w.heap.size w (w.alloc (.cells #[.slice A n c] 45)):=(Below.refl _ _).alloc (Nat.le_refl _) _;have h1:=h.after b0;have l1:=hl.after b0;have bx0:Box (w.alloc (.cells #[.slice A n c] 45)) w.heap.size (.slice A n c):=Box.new _ _ _;have cx0:=bx0.1;go_enter Tryzx.func41,Tryz.ntmps41;go_wp2_with fail
 refine (sRowsOf_any _ _ _ zs _ _ _ ls _ (by exact h1) hn (by exact l1) hq).mono ?_;rintro e w1 ⟨v1,rfl,ho1,hb1⟩;have HB1:=Lib.hid (below_then b0 hb1);obtain ⟨A1,c1,rfl,_⟩:=ho1.slice;have r1:=ho1.recs;go_wp2_with fail
 refine (sCorners_any _ _ _ (rowsZ zs n ls q) _ (by exact r1) (by have:=rowsN_few zs n ls q; omega)).mono ?_
 rintro e w2 ⟨v2,rfl,ho2,hb2⟩;have HB2:=Lib.hid (below_then HB1.out hb2);have HO2:=Lib.hid (ho2.weaken HB1.out.size);clear ho2 hb2 ho1 hb1 r1 cx0;go_wp2;go_ret;exact ⟨_,rfl,HO2.out,HB2.out⟩
set_option maxRecDepth 100000 in
set_option maxHeartbeats 3200000 in
theorem iThr_any:Calls Tryzx.prog 63 #[.agg #[.slice A n c],.slice B q d] w (ThrPost w (thrN zs n ls q) (thrL zs n ls q)):=by
 have b0:Below w.heap.size w (w.alloc (.cells #[.slice A n c] 45)):=(Below.refl _ _).alloc (Nat.le_refl _) _;have h1:=h.after b0;have l1:=hl.after b0;have bx0:Box (w.alloc (.cells #[.slice A n c] 45)) w.heap.size (.slice A n c):=Box.new _ _ _;have cx0:=bx0.1;go_enter Tryzx.func63,Tryz.ntmps63;go_wp2_with fail
 refine (iRowsOfN_any _ _ _ zs _ _ _ ls _ (by exact h1) hn (by exact l1) hq).mono ?_;rintro e w1 ⟨⟨v1,rfl,ho1,hb1⟩,hz1⟩;have HB1:=Lib.hid (below_then b0 hb1);obtain ⟨A1,c1,rfl,_⟩:=ho1.slice;have r1:=ho1.recs;have n1:rowsN zs n ls q=0→A1=none:=fun h0=>by have:=hz1 h0; simp at this; exact this.1
 go_wp2_with fail
 refine (xCorners_any _ _ _ (rowsZ zs n ls q) _ (by exact r1) (by have:=rowsN_few zs n ls q; omega) n1).mono ?_
 rintro e w2 ⟨v2,rfl,he2,hb2⟩;have HB2:=Lib.hid (below_then HB1.out hb2);have HO2:=Lib.hid (he2.own.weaken HB1.out.size);clear he2 hb2 ho1 hb1 r1 cx0 n1 hz1;go_wp2;go_ret;exact ⟨_,rfl,HO2.out,HB2.out⟩
end
end X
namespace X
open Go.RowKit
theorem ret_bool2 {a b:Bool} (h:a=b):Ending.returned (.bool a)=Ending.returned (.bool b):=by rw [h]
set_option maxRecDepth 100000 in
set_option maxHeartbeats 1600000 in
theorem sStd_any (A:Option Addr) (n c:Nat) (zs:List Int) (B:Option Addr) (q d:Nat) (ls:List Int) (w:World) (h:RecsAt w w.heap.size 4 A n zs) (hn:n≤1048576) (hl:RecsAt w w.heap.size 3 B q ls) (hq:q≤1048576) :
  Calls Tryzx.prog 18 #[.agg #[.slice A n c],.slice B q d] w fun e w'=>e = .returned (.bool (decide (0<(thrN zs n ls q:Int))))∧Below w.heap.size w w':=by
 have b0:Below w.heap.size w (w.alloc (.cells #[.slice A n c] 45)):=(Below.refl _ _).alloc (Nat.le_refl _) _;have h1:=h.after b0;have l1:=hl.after b0;have HB0:=Lib.hid b0;clear b0 h hl;go_enter Tryzx.func18,Tryz.ntmps18;go_wp2_with fail
 refine (sThr_any _ _ _ zs _ _ _ ls _ h1 hn l1 hq).mono ?_;rintro e w2 ⟨v2,rfl,ho2,hb2⟩;obtain ⟨A2,c2,rfl,_⟩:=ho2.slice;have HB2:=Lib.hid (HB0.out.trans (hb2.mono HB0.out.size));clear hb2 ho2;obtain ⟨N,hN⟩:∃ N,thrN zs n ls q=N:=⟨_,rfl⟩;have HN:Hid (decide (0<N)=decide (0<(thrN zs n ls q:Int))):=Lib.hid (by rw [hN]; simp)
 rw [hN];clear hN;go_wp2;go_ret;exact ⟨ret_bool2 HN.out,HB2.out⟩
end X
section
open Go.RowKit
theorem ownB_below {B base:Nat} {E:TypeId} {a w w':World} {v:Value} {xs:List Int} {o:Obj} (hb:Below B a w) (hB:B≤w.heap.size) (hown:OwnV w base E v xs) (h:B≤base) (hg:(w.alloc o).grownBy w' v.ownBlock):Below B a w' :=
 (hb.alloc hB o).grown hg (by simp; omega) (fun k hk=>Nat.le_trans h (hown.ownLt k hk))
end
section
open Go.RowKit
theorem OwnV.sliceN {w:World} {base:Nat} {E:TypeId} {v:Value} {xs:List Int} (h:OwnV w base E v xs):∃ A l c,v = .slice A l c:=by
 rcases h.form with ⟨rfl,_⟩ | ⟨g,cap,rfl,_⟩ <;> exact ⟨_,_,_,rfl⟩
theorem OwnV.weakenN {w:World} {base base':Nat} {E:TypeId} {v:Value} {xs:List Int} (h:OwnV w base E v xs) (hb:base'≤base):OwnV w base' E v xs:=by
 refine ⟨h.1,?_⟩;rcases h.2 with h2 | ⟨g,cap,cur,h1,h2,h3⟩
 ·exact .inl h2
 ·exact .inr ⟨g,cap,cur,h1,Nat.le_trans hb h2,h3⟩
end
namespace X
open Go.RowKit
def ribS (L M:List (Nat × List Int)) (k:Nat):Bool:=decide (0<(thrN (rowZ L k) (rowN L k) (rowZ M k) (rowN M k):Int))
def failTo (L M:List (Nat × List Int)):Nat→List Int
 | 0 => []
 | k+1=>if ribS L M k=true then failTo L M k else failTo L M k ++ [(k:Int)]
def failZ (L:List (Nat × List Int)) (n:Nat) (M:List (Nat × List Int)) (q:Nat):List Int:=if vaultB L n M q=true then failTo L M n else []
theorem failZ_t {L:List (Nat × List Int)} {n:Nat} {M:List (Nat × List Int)} {q:Nat} (h:vaultB L n M q=true):failZ L n M q=failTo L M n:=by simp [failZ,h]
theorem failZ_f {L:List (Nat × List Int)} {n:Nat} {M:List (Nat × List Int)} {q:Nat} (h:vaultB L n M q=false):failZ L n M q = []:=by simp [failZ,h]
theorem failTo_t {L M:List (Nat × List Int)} {k:Nat} (h:ribS L M k=true):failTo L M (k+1)=failTo L M k:=by simp [failTo,h]
theorem failTo_f {L M:List (Nat × List Int)} {k:Nat} (h:ribS L M k=false):failTo L M (k+1)=failTo L M k ++ [(k:Int)]:=by simp [failTo,h]
theorem failTo_len (L M:List (Nat × List Int)):∀ k,(failTo L M k).length≤k
 | 0=>Nat.le_refl _
 | k+1=>by
  have:=failTo_len L M k;unfold failTo;split
  ·omega
  ·rw [List.length_append]; simp; omega
section
variable (A : Option Addr) (n c : Nat) (L : List (Nat × List Int)) (B : Option Addr) (q d : Nat) (M : List (Nat × List Int)) (w : World) (h : NestAt w w.heap.size 4 A n L) (hn : n ≤ 1048576) (hr : ∀ i, i < n → rowN L i ≤ 1048576) (hl : NestAt w w.heap.size 3 B q M) (hq : q ≤ 1048576) (hs : ∀ i, i < q → rowN M i ≤ 1048576)
include h hn hr hl hq hs
set_option maxRecDepth 100000 in
set_option maxHeartbeats 3200000 in
theorem sFail_any:Calls Tryzx.prog 22 #[.agg #[.slice A n c,.slice B q d]] w fun e w'=>∃ v,e = .returned v∧OwnV w' w.heap.size 3 v (failZ L n M q)∧Below w.heap.size w w':=by
 have hz0:(w.alloc (.cells #[.slice A n c,.slice B q d] 31)).heap.size=w.heap.size+1:=by simp
 have b0:Below w.heap.size w ((w.alloc (.cells #[.slice A n c,.slice B q d] 31)).alloc (.cells #[] 3)):=((Below.refl _ _).alloc (Nat.le_refl _) _).alloc (by simp) _;have bx0:Box2 ((w.alloc (.cells #[.slice A n c,.slice B q d] 31)).alloc (.cells #[] 3)) w.heap.size (.slice A n c) (.slice B q d):=(Box2.new w (.slice A n c) (.slice B q d) 31).after ((Below.refl _ _).alloc (Nat.le_refl _) _);have hO:OwnV ((w.alloc (.cells #[.slice A n c,.slice B q d] 31)).alloc (.cells #[] 3)) (w.heap.size+1) 3 (.slice (some ⟨w.heap.size+1,0,none⟩) 0 0) []:=by
  have:=(OwnI.new (w.alloc (.cells #[.slice A n c,.slice B q d] 31)) 3).toV;rw [hz0] at this;exact this
 have H:=Lib.hid h;have HL:=Lib.hid hl;have HR:=Lib.hid hr;have HS:=Lib.hid hs;have B0:=Lib.hid b0;have BX:=Lib.hid bx0;have HO:=Lib.hid hO;clear h hl b0 bx0 hO hz0;cases hB:vaultB L n M q
 ·have HF:=Lib.hid (failZ_f hB)
  go_enter Tryzx.func22,Tryz.ntmps22;go_wp2;go_loopw [3,4] (fun v3 v4 wr=>v4 = .int .i64 0∧Hid (OwnV wr (w.heap.size+1) 3 v3 [])∧Hid (Box2 wr w.heap.size (.slice A n c) (.slice B q d))∧Hid (Below w.heap.size w wr)) (fun _ i _=>n - (intOf i).toNat)
  case atStart=>exact ⟨rfl,HO,BX,B0⟩
  case round =>
   clear BX B0 HO;obtain ⟨rfl,HO,HX,HB⟩:=hrel;have cx0:=HX.out.1;have cx1:=HX.out.2.1;by_cases h0:n=0
   ·subst h0
    go_wp2;go_ret;exact ⟨_,rfl,by rw [HF.out]; exact HO.out.weakenN (by omega),HB.out⟩
   ·have hpos:(0:Int)<(n:Int):=by omega
    have hpos':0<n:=by omega
    have r1:=(H.out.below HB.out).mono HB.out.size;have r2:=(HL.out.below HB.out).mono HB.out.size;clear h0;go_wp2_with fail
    refine (sVaultOk_any _ _ _ L _ _ _ M _ r1 hn hr r2 hq hs).mono ?_;rw [hB];rintro e w1 ⟨rfl,hb1⟩;have HB1:=Lib.hid (HB.out.trans (hb1.mono HB.out.size));have HO1:=Lib.hid (HO.out.below hb1);clear hb1;go_wp2;go_ret;exact ⟨_,rfl,by rw [HF.out]; exact HO1.out.weakenN (by omega),HB1.out⟩
 ·have HT:=Lib.hid (failZ_t hB)
  obtain ⟨hn5,hqn,_⟩:=vaultB_out hB;subst hqn;go_enter Tryzx.func22,Tryz.ntmps22;go_wp2;go_loopw [3,4] (fun v3 v4 wr=>∃ k:Nat,k≤q∧v4 = .int .i64 k∧Hid (OwnV wr (w.heap.size+1) 3 v3 (failTo L M k))∧Hid (Box2 wr w.heap.size (.slice A q c) (.slice B q d))∧Hid (Below w.heap.size w wr)) (fun _ i _=>q - (intOf i).toNat)
  case atStart=>exact ⟨0,Nat.zero_le _,rfl,HO,BX,B0⟩
  case round =>
   clear BX B0 HO;obtain ⟨k,hk,rfl,HO,HX,HB⟩:=hrel;have cx0:=HX.out.1;have cx1:=HX.out.2.1;by_cases hlt:k<q
   ·have ki:(k:Int)<(q:Int):=by omega
    have k0:(0:Int)≤(k:Int):=by omega
    have i1:IntKind.i64.wrap ((k:Int)+1)=(k:Int)+1:=IntWalk.i64_in _ (by omega);have r1:=(H.out.below HB.out).mono HB.out.size;have r2:=(HL.out.below HB.out).mono HB.out.size;go_wp2_with fail
    refine (sVaultOk_any _ _ _ L _ _ _ M _ r1 hn hr r2 hq hs).mono ?_;rw [hB];rintro e W2 ⟨rfl,hb2⟩;have hb:=HB.out.trans (hb2.mono HB.out.size);have HB2:=Lib.hid hb;have HX2:=Lib.hid (HX.out.after hb2);have HO2:=Lib.hid (HO.out.below hb2);obtain ⟨b,off,rfl,hbB,hc⟩:=H.out.2 (by omega);obtain ⟨b',off',rfl,hbB',hc'⟩:=HL.out.2 (by omega);obtain ⟨Ak,ck,hx,hrec,_,_⟩:=hc k hlt;obtain ⟨Bk,dk,hy,hrec',_,_⟩:=hc' k hlt;have x0:W2.cell? ⟨b,off+k,none⟩=some (.slice Ak (rowN L k) ck):=(hb.cell (by exact hbB)).trans hx;have y0:W2.cell? ⟨b',off'+k,none⟩=some (.slice Bk (rowN M k) dk):=(hb.cell (by exact hbB')).trans hy;have HR3:=Lib.hid ((hrec.below hb).mono hb.size);have HR4:=Lib.hid ((hrec'.below hb).mono hb.size);have hrk:=HR.out k hlt;have hsk:=HS.out k hlt;have hz:=hb.size;have v0:=HX2.out.1;have v1:=HX2.out.2.1;have vl:=HX2.out.2.2;have bl1:b<W2.heap.size:=by omega
    have bl2:b'<W2.heap.size:=by omega
    have HKEEP:=Lib.hid (show ∀ w',Below W2.heap.size W2 w'→(w'.cell? ⟨w.heap.size,0,none⟩=some (.slice (some ⟨b,off,none⟩) q c)∧w'.cell? ⟨w.heap.size,1,none⟩=some (.slice (some ⟨b',off',none⟩) q d)∧w'.cell? ⟨b,off+k,none⟩=some (.slice Ak (rowN L k) ck)∧w'.cell? ⟨b',off'+k,none⟩=some (.slice Bk (rowN M k) dk)) from fun w' hw=>⟨(hw.cell (by exact vl)).trans v0,(hw.cell (by exact vl)).trans v1,(hw.cell (by exact bl1)).trans x0,(hw.cell (by exact bl2)).trans y0⟩);have HRS:Hid (decide (0<(thrN (rowZ L k) (rowN L k) (rowZ M k) (rowN M k):Int))=ribS L M k):=Lib.hid rfl;clear hc hc' hx hy hrec hrec' hb hb2 r1 r2 cx0 cx1 HX HO HB;go_wp2;go_region_held3 (fun w'=>w'.cell? ⟨w.heap.size,0,none⟩=some (.slice (some ⟨b,off,none⟩) q c)∧w'.cell? ⟨w.heap.size,1,none⟩=some (.slice (some ⟨b',off',none⟩) q d)∧w'.cell? ⟨b,off+k,none⟩=some (.slice Ak (rowN L k) ck)∧w'.cell? ⟨b',off'+k,none⟩=some (.slice Bk (rowN M k) dk)) (first | exact ⟨v0,v1,x0,y0⟩ | exact hk1)
     ((go_at_call 18; refine (sStd_any _ _ _ (rowZ L k) _ _ _ (rowZ M k) _ (by exact HR3.out.drewN 1) hrk (by exact HR4.out.drewN 1) hsk).mono ?_; rw [HRS.out]; rintro e w1 ⟨rfl,hbx⟩; have hb1:=below_undrew hbx; have HB1:=Lib.hid hb1; have hk1:=HKEEP.out w1 hb1))
    have HB3:=Lib.hid (HB2.out.trans (HB1.out.mono hz));have HX3:=Lib.hid (HX2.out.after HB1.out);have HO3:=Lib.hid (HO2.out.below HB1.out);clear hk1 hb1 hbx v0 v1 x0 y0 HKEEP HB1 HX2 HO2 HB2;cases hrs:ribS L M k
    ·have HE:=Lib.hid (failTo_f hrs)
     have hlen:=failTo_len L M k;obtain ⟨A3,l3,c3,rfl⟩:=HO3.out.sliceN;have hl3:=HO3.out.len;have hz3:=HB3.out.size;have hx3:=HX3.out.2.2;go_wp2_with (at_builtin; refine wpList_append_int _ rfl (.tmp 29) (.tmp 31) 38 rfl (w.heap.size+1) 3 Tryzx.underlying38 infoInt _ (failTo L M k) rfl (by exact HO3.out.alloc _) _ _ (k:Int) rfl (by exact cell_new1 _ _ _) (by omega) (by simp; omega) ?_; intro g' cap' w7 hown7 hgr7);have h7:=hown7.toV;rw [List.length_append,← HE.out] at h7;have hb7:=ownB_below (Below.refl (w.heap.size+1) _) (by first | omega | (simp; omega)) HO3.out (Nat.le_refl _) hgr7
     have HO7:Hid (OwnV w7 (w.heap.size+1) 3 (.slice (some ⟨g',0,none⟩) ((failTo L M k).length+1) cap') (failTo L M (k+1))):=Lib.hid h7;have HX7:Hid (Box2 w7 w.heap.size (.slice (some ⟨b,off,none⟩) q c) (.slice (some ⟨b',off',none⟩) q d)):=Lib.hid ⟨(hb7.cell (p:=⟨w.heap.size,0,none⟩) (Nat.lt_succ_self _)).trans HX3.out.1,(hb7.cell (p:=⟨w.heap.size,1,none⟩) (Nat.lt_succ_self _)).trans HX3.out.2.1,Nat.lt_of_lt_of_le HX3.out.2.2 hb7.size⟩;have HB7:=Lib.hid (HB3.out.trans (hb7.mono (Nat.le_succ _)));clear hown7 hgr7 hb7 h7 hx3;go_wp2;go_roundw
     case rel=>exact ⟨k+1,by omega,by go_num,HO7,HX7,HB7⟩
     case measure=>simp [intOf]; omega
    ·have HE:=Lib.hid (failTo_t hrs)
     have HO7:=Lib.hid (show OwnV _ _ _ _ (failTo L M (k+1)) by rw [HE.out]; exact HO3.out);go_wp2;go_roundw
     case rel=>exact ⟨k+1,by omega,by go_num,HO7,HX3,HB3⟩
     case measure=>simp [intOf]; omega
   ·obtain rfl:q=k:=by omega
    go_wp2;go_ret;exact ⟨_,rfl,by rw [HT.out]; exact HO.out.weakenN (by omega),HB.out⟩
end
end X
namespace X
open Go.RowKit
set_option maxRecDepth 100000 in
set_option maxHeartbeats 1600000 in
theorem iStd_any (A:Option Addr) (n c:Nat) (zs:List Int) (B:Option Addr) (q d:Nat) (ls:List Int) (w:World) (h:RecsAt w w.heap.size 4 A n zs) (hn:n≤1048576) (hl:RecsAt w w.heap.size 3 B q ls) (hq:q≤1048576) :
  Calls Tryzx.prog 37 #[.agg #[.slice A n c],.slice B q d] w fun e w'=>e = .returned (.bool (decide (0<(thrN zs n ls q:Int))))∧Below w.heap.size w w':=by
 have b0:Below w.heap.size w (w.alloc (.cells #[.slice A n c] 45)):=(Below.refl _ _).alloc (Nat.le_refl _) _;have h1:=h.after b0;have l1:=hl.after b0;have HB0:=Lib.hid b0;clear b0 h hl;go_enter Tryzx.func37,Tryz.ntmps37;go_wp2_with fail
 refine (iThr_any _ _ _ zs _ _ _ ls _ h1 hn l1 hq).mono ?_;rintro e w2 ⟨v2,rfl,ho2,hb2⟩;obtain ⟨A2,c2,rfl,_⟩:=ho2.slice;have HB2:=Lib.hid (HB0.out.trans (hb2.mono HB0.out.size));clear hb2 ho2;obtain ⟨N,hN⟩:∃ N,thrN zs n ls q=N:=⟨_,rfl⟩;have HN:Hid (decide (0<N)=decide (0<(thrN zs n ls q:Int))):=Lib.hid (by rw [hN]; simp)
 rw [hN];clear hN;go_wp2;go_ret;exact ⟨ret_bool2 HN.out,HB2.out⟩
end X
section
open Go.RowKit
def AtOps (P:Program) (ops:Array Oper) (Q:Exit→Act→World→Prop) (l:List Nat) (a:Act) (w:World):Prop :=
 ∀ (b:Frame) (k:List Item) (cs:List Frame),∃ e a' w',Q e a' w'∧Arrives P (lone (b.at a (.inRegion ops l :: k)) cs w) b k cs e a' w'
section
variable {P : Program} {ops : Array Oper} {Q : Exit → Act → World → Prop} {a : Act} {w w1 w2 : World} {i : Nat} {rest : List Nat} {o : Oper} {v : Value}
theorem wp_atOps {id:Nat} (h:AtOps P ops Q (List.range ops.size) a w):(Code.region id ops false).wp P Q a w :=
 fun b k cs=>let ⟨e,a',w',q,r⟩:=h b k cs; ⟨e,a',w',q,.of_steps (.one step_region) r⟩
theorem atOps_nil (h:Q .normal a w):AtOps P ops Q [] a w:=fun b k cs=>⟨.normal,a,w,h,.one step_region_end⟩
theorem atOps_val (ho:ops[i]?=some o) (hg:o.guard=none) (hr:(execOp a.eval o).run P w = .ok (.value v) w1) (h:AtOps P ops Q rest (a.put o.dst v) w1):AtOps P ops Q (i :: rest) a w:=by
 intro b k cs;obtain ⟨e,a',w',q,r⟩:=h b k cs;have hw:Region.wanted o (yielded ops a.tmps)=true:=by simp [Region.wanted,hg]
 have hs:=stepG_op (P:=P) (b:=b) (k:=k) (cs:=cs) (w:=w) (rest:=rest) ho hw;have hfin:(b.at a (.inRegion ops (i :: rest) :: k)).finish v=b.at (a.put o.dst v) (.inRegion ops rest :: k):=by rw [Frame.finish_at,ho]; rfl
 refine ⟨e,a',w',q,.of_steps (.one (step_lone_go ?_)) r⟩;rw [hs,← hfin];simp [stepG.apply,hr]
theorem atOps_comm {c:CommCase} {sh:CommShape} (ho:ops[i]?=some o) (hg:o.guard=none) (hr:(execOp a.eval o).run P w = .ok (.comm #[c] true sh) w1) (hd:Rn.Rdy c sh w1 v w2) (h:AtOps P ops Q rest (a.put o.dst v) w2):AtOps P ops Q (i :: rest) a w:=by
 intro b k cs;obtain ⟨e,a',w',q,r⟩:=h b k cs;have hw:Region.wanted o (yielded ops a.tmps)=true:=by simp [Region.wanted,hg]
 have hs:=stepG_op (P:=P) (b:=b) (k:=k) (cs:=cs) (w:=w) (rest:=rest) ho hw;have hfin:(b.at a (.inRegion ops (i :: rest) :: k)).finish v=b.at (a.put o.dst v) (.inRegion ops rest :: k):=by rw [Frame.finish_at,ho]; rfl
 have hcm:∃ es,stepG P true (Go.Conc.G (b.at a (.inRegion ops (i :: rest) :: k)) cs) w = .comm (Go.Conc.G (b.at a (.inRegion ops (i :: rest) :: k)) cs) #[c] true sh w1 es:=by
  have hx:((execOp a.eval o).runT P w #[]).1 = .ok (.comm #[c] true sh) w1:=by rw [Sem.runT_fst]; exact hr
  generalize hy:(execOp a.eval o).runT P w #[]=y at hx;obtain ⟨y1,y2⟩:=y;simp only at hx;subst hx;have hap:∃ es,stepG.apply P true (b.at a (.inRegion ops (i :: rest) :: k)) cs none (execOp a.eval o) w = .comm (Go.Conc.G (b.at a (.inRegion ops (i :: rest) :: k)) cs) #[c] true sh w1 es:=by
   simp only [stepG.apply,hy,if_true,GStep.after];exact ⟨_,rfl⟩
  obtain ⟨es,hap⟩:=hap;exact ⟨es,hs.trans hap⟩
 obtain ⟨es,hcm⟩:=hcm;refine ⟨e,a',w',q,.of_steps (.one ?_) r⟩;rw [← hfin];exact hd.lone hcm
end
def chB (k n:Nat):Array Value:=((List.range' k (n - k)).map fun (i:Nat)=>Value.int .i64 (i:Int)).toArray
theorem chB_size (k n:Nat):(chB k n).size=n - k:=by simp [chB]
theorem chB_nil (n:Nat):chB n n = #[]:=by simp [chB]
theorem chB_push (k:Nat):(chB 0 k).push (.int .i64 (k:Int))=chB 0 (k+1):=by
 simp only [chB,List.push_toArray,Nat.sub_zero];rw [List.range'_concat];simp
theorem chB_first {k n:Nat} (h:k<n):(chB k n).getD 0 undef = .int .i64 (k:Int):=by
 obtain ⟨m,hm⟩:∃ m,n - k=m+1:=⟨n - k - 1,by omega⟩;simp [chB,hm,List.range'_succ]
theorem chB_rest {k n:Nat} (h:k<n):(chB k n).extract 1 (chB k n).size=chB (k+1) n:=by
 obtain ⟨m,hm⟩:∃ m,n - k=m+1:=⟨n - k - 1,by omega⟩;rw [chB_size];simp [chB,hm,List.range'_succ,show n - (k+1)=m by omega];rw [List.take_of_length_le (by simp)]
def ChanAt (w:World) (g cap k m:Nat) (closed:Bool) (s q:Nat):Prop:=w.heap[g]?=some (.chan cap (chB k m) closed s q false)
theorem ChanAt.new (w:World) (cap:Nat):ChanAt (w.alloc (.chan cap #[] false 0 0 false)) w.heap.size cap 0 0 false 0 0:=by
 show (w.heap.push _)[w.heap.size]?=_
 simp [chB]
theorem ChanAt.keep {w w1:World} {g cap k m s q:Nat} {cl:Bool} (h:ChanAt w g cap k m cl s q) (hg:g<w.heap.size) (hb:Below w.heap.size w w1):ChanAt w1 g cap k m cl s q:=(hb.block g hg).trans h
theorem ChanAt.send {w:World} {g cap k s q:Nat} (h:ChanAt w g cap 0 k false s q) (hk:k<cap) (z:Value):Rn.Rdy (Go.Conc.scase g (.int .i64 (k:Int)) z) .send w undef (w.setChan g cap (chB 0 (k+1)) false (s+1) q false):=by
 have:=Rn.Rdy.send (v := .int .i64 (k:Int)) (z:=z) h (by rw [chB_size]; omega)
 rw [chB_push] at this;exact this
theorem ChanAt.recv {w:World} {g cap k m s q:Nat} {cl:Bool} (h:ChanAt w g cap k m cl s q) (hk:k<m) (z:Value):Rn.Rdy (Go.Conc.rcase g z) (.recv true) w (.tuple #[.int .i64 (k:Int),.bool true]) (w.setChan g cap (chB (k+1) m) cl s (q+1) false):=by
 have:=Rn.Rdy.recv (z:=z) true h (by rw [chB_size]; omega)
 rw [chB_first hk,chB_rest hk] at this;exact this
theorem ChanAt.shut {w:World} {g cap m s q:Nat} (h:ChanAt w g cap m m true s q) (z:Value):Rn.Rdy (Go.Conc.rcase g z) (.recv true) w (.tuple #[z,.bool false]) w:=by
 unfold ChanAt at h;rw [chB_nil] at h;exact Rn.Rdy.shut (z:=z) true h
theorem ChanAt.set {w:World} {g:Nat} (hg:g<w.heap.size) (cap k m:Nat) (cl:Bool) (s q:Nat):ChanAt (w.setChan g cap (chB k m) cl s q false) g cap k m cl s q:=Go.Conc.heap_setChan w g cap _ cl s q false hg
theorem run_makeChan {P:Program} {t elem:TypeId} {dir:ChanDir} {inf:TypeInfo} (ht:P.underlying t=some (.chan dir elem)) (hi:P.info? elem=some inf) (hb:inf.bytes=8) {n:Nat} (hn:n≤1000) (w:World) :
  (Instr.makeChan t (.int .i64 (n:Int))).run P w = .ok (.chan (some w.heap.size)) (w.alloc (.chan n #[] false 0 0 false)):=by
 have h1:¬ ((n:Int)<0):=by omega
 have h2:¬ ((n:Int) > IntKind.i64.max):=by
  have:IntKind.i64.max=9223372036854775807:=rfl;omega
 have h3:¬ ((inf.bytes:Int)*(n:Int) > 2 ^ 48 - 112):=by rw [hb]; omega
 have h4:¬ ((n:Int)<0 ∨ (n:Int) > IntKind.i64.max ∨ (inf.bytes:Int)*(n:Int) > 2 ^ 48 - 112):=by
  rintro (h | h | h)
  ·exact h1 h
  ·exact h2 h
  ·exact h3 h
 simp only [Instr.makeChan,asInt,asIntOf,Sem.run_bind,Sem.run_pure,Result.andThen_ok,underlying,typeInfo,program,Sem.run,ht,hi];rw [if_neg h4];rfl
theorem run_close {P:Program} {w:World} {g cap k m s q:Nat} (h:ChanAt w g cap k m false s q) (ats:Array TypeId) (t:TypeId) :
  (Builtin.close_ ats t #[.chan (some g)]).run P w = .ok (.tuple #[]) (w.setChan g cap (chB k m) true s q false):=by
 unfold ChanAt at h;obtain ⟨K,e1,e2⟩:∃ K,Builtin.close_ ats t #[.chan (some g)]=Sem.getObj g K∧K (.chan cap (chB k m) false s q false)=Sem.setObj g (.chan cap (chB k m) true s q false) (Sem.pure (.tuple #[])):=⟨_,rfl,rfl⟩;rw [e1];simp only [Sem.run,h];rw [e2];simp only [Sem.run,h];rfl
theorem run_recv {P:Program} {t elem:TypeId} {dir:ChanDir} {inf:TypeInfo} {z:Value} (ht:P.underlying t=some (.chan dir elem)) (hi:P.info? elem=some inf) (hz:inf.zero=some z) {o:Oper} {x:Operand} {ok:Bool} (ho:o.op = .recv t x ok) {e:Operand→Value} {g:Nat} (he:e x = .chan (some g)) (w:World) :
  (execOp e o).run P w = .ok (.comm #[Go.Conc.rcase g z] true (.recv ok)) w:=by
 unfold execOp;rw [ho];simp only [zeroValue,Sem.run_bind,underlying,typeInfo,program,Sem.run,ht,hi,hz,he,Sem.run_pure,Result.andThen_ok];rfl
theorem run_send {P:Program} {o:Oper} {x y:Operand} (ho:o.op = .send x y) {e:Operand→Value} {g:Nat} {v:Value} (he:e x = .chan (some g)) (hv:e y=v) (w:World) :
  (execOp e o).run P w = .ok (.comm #[Go.Conc.scase g v (.tuple #[])] true .send) w:=by
 unfold execOp;rw [ho];simp only [he,hv];rfl
theorem run_closeOp {P:Program} {w:World} {g cap k m s q:Nat} (h:ChanAt w g cap k m false s q) {o:Oper} {x:Operand} {ats:Array TypeId} (ho:o.op = .call { callee := .builtin .close,args := #[x],argTypes:=ats }) {e:Operand→Value} (he:e x = .chan (some g)) :
  (execOp e o).run P w = .ok (.value (.tuple #[])) (w.setChan g cap (chB k m) true s q false):=by
 unfold execOp;rw [ho];have:=run_close (P:=P) h ats o.type;rw [← he] at this;show (Builtin.close_ ats o.type (#[x].map e) >>= fun v=>pure (Next.value v)).run P w=_
 rw [Sem.run_bind,show #[x].map e = #[e x] from by simp,this];rfl
theorem only_setChan (w:World) (g cap:Nat) (buf:Array Value) (cl:Bool) (s q:Nat) (tm:Bool):Only g w (w.setChan g cap buf cl s q tm) :=
 ⟨rfl,rfl,rfl,Go.Conc.size_setChan _ _ _ _ _ _ _ _,fun k hk=>by simp only [World.setChan]; rw [Array.getElem?_setIfInBounds_ne (fun e=>hk e.symm)]⟩
def chLeft (w:World) (g:Nat):Nat:=match w.heap[g]? with
 | some (.chan _ b _ _ _ _)=>b.size
 | _=>0
theorem ChanAt.left {w:World} {g cap k m s q:Nat} {cl:Bool} (h:ChanAt w g cap k m cl s q):chLeft w g=m - k:=by
 unfold ChanAt at h;simp only [chLeft,h,chB_size]
end
namespace X
open Go.RowKit
theorem chanInt:Tryzx.prog.underlying 64=some (.chan .both 3):=Tryzx.underlying64
section
variable (A : Option Addr) (n c : Nat) (L : List (Nat × List Int)) (B : Option Addr) (q d : Nat) (M : List (Nat × List Int)) (w : World) (h : NestAt w w.heap.size 4 A n L) (hn : n ≤ 1048576) (hr : ∀ i, i < n → rowN L i ≤ 1048576) (hl : NestAt w w.heap.size 3 B q M) (hq : q ≤ 1048576) (hs : ∀ i, i < q → rowN M i ≤ 1048576)
include h hn hr hl hq hs
set_option maxRecDepth 100000 in
set_option maxHeartbeats 3200000 in
theorem iFail_any:Calls Tryzx.prog 14 #[.agg #[.slice A n c,.slice B q d]] w fun e w'=>∃ v,e = .returned v∧OwnV w' w.heap.size 3 v (failZ L n M q)∧Below w.heap.size w w':=by
 have b0:Below w.heap.size w (w.alloc (.cells #[.slice A n c,.slice B q d] 31)):=(Below.refl _ _).alloc (Nat.le_refl _) _;have bx0:Box2 (w.alloc (.cells #[.slice A n c,.slice B q d] 31)) w.heap.size (.slice A n c) (.slice B q d):=Box2.new _ _ _ _;have h1:=h.after b0;have l1:=hl.after b0;cases hB:vaultB L n M q
 ·have HF:=Lib.hid (failZ_f hB)
  go_enter Tryzx.func14,Tryz.ntmps14;go_wp2_with fail
  refine (iVaultOk_any _ _ _ L _ _ _ M _ h1 hn hr l1 hq hs).mono ?_;rw [hB];rintro e w1 ⟨rfl,hb1⟩;have HB1:=Lib.hid (below_then b0 hb1);clear hb1 b0 bx0 h1 l1 h hl hB;go_wp2;go_ret;exact ⟨_,rfl,by rw [HF.out]; exact OwnV.nil _ _ _,HB1.out⟩
 ·have HT:=Lib.hid (failZ_t hB)
  obtain ⟨hn5,hqn,_⟩:=vaultB_out hB;subst hqn;have H:=Lib.hid h;have HL:=Lib.hid hl;have HR:=Lib.hid hr;have HS:=Lib.hid hs;obtain ⟨inf,hinf,hinz⟩:=Option.map_eq_some_iff.1 infoInt;simp only [Prod.mk.injEq] at hinz;have HMK:=Lib.hid (fun w'=>run_makeChan (P:=Tryzx.prog) chanInt hinf hinz.2.2 (n:=q) (by omega) w');have HRC:=Lib.hid (fun (o:Oper) (x:Operand) (ho:o.op = .recv 64 x true) (e:Operand→Value) (g:Nat) (he:e x = .chan (some g)) (w':World)=>run_recv (P:=Tryzx.prog) chanInt hinf hinz.1 ho he w');go_enter Tryzx.func14,Tryz.ntmps14;go_wp2_with fail
  refine (iVaultOk_any _ _ _ L _ _ _ M _ h1 hn hr l1 hq hs).mono ?_;rw [hB];rintro e W1 ⟨rfl,hb1⟩;have BX1:=bx0.after hb1;have B1:=Lib.hid (below_then b0 hb1);have cx0:=BX1.1;have cx1:=BX1.2.1;have BX:=Lib.hid BX1;clear hb1 b0 bx0 h1 l1 h hl hr hs hB BX1 hinf hinz;have hmk:∀ w',(Instr.makeChan 64 (.int .i64 (q:Int))).run Tryzx.prog w' = .ok (.chan (some w'.heap.size)) (w'.alloc (.chan q #[] false 0 0 false)):=HMK.out;go_upto_region 4 with fail
  have ba:=(Below.refl W1.heap.size W1).alloc (Nat.le_refl _) (.chan q #[] false 0 0 false);have HC0:=Lib.hid (ChanAt.new W1 q);obtain ⟨W2,hW2⟩:∃ W2,W1.alloc (.chan q #[] false 0 0 false)=W2:=⟨_,rfl⟩;have hz1:=B1.out.size;have hz2:W1.heap.size<W2.heap.size:=by rw [← hW2]; simp
  rw [hW2] at ba HC0;try rw [hW2]
  have BX2:=BX.out.after ba;have cy0:=BX2.1;have cy1:=BX2.2.1;have hbx:=BX.out.2.2;have B2:=Lib.hid (B1.out.trans (ba.mono hz1));have BX:=Lib.hid BX2;clear ba hW2 BX2 cx0 cx1 hmk B1 HMK;generalize W1.heap.size=g at *
  go_wp2;go_loopw [17] (fun i wr=>∃ k:Nat,k≤q∧i = .int .i64 k∧g<wr.heap.size∧Hid (ChanAt wr g q 0 k false k 0)∧Hid (Box2 wr w.heap.size (.slice A q c) (.slice B q d))∧Hid (Below w.heap.size w wr)) (fun i _=>q - (intOf i).toNat)
  case atStart=>exact ⟨0,Nat.zero_le _,rfl,hz2,HC0,BX,B2⟩
  case round =>
   clear BX B2 HC0 cy0 cy1 hz2;obtain ⟨k,hk,rfl,hgz,HC,HX,HB⟩:=hrel;by_cases hlt:k<q
   ·have ki:(k:Int)<(q:Int):=by omega
    have i1:IntKind.i64.wrap ((k:Int)+1)=(k:Int)+1:=IntWalk.i64_in _ (by omega);go_upto_region 7 with fail
    refine wp_atOps ?_;refine atOps_val rfl rfl rfl ?_;refine atOps_val rfl rfl rfl ?_;refine atOps_comm rfl rfl (run_send rfl rfl rfl _) (HC.out.send hlt _) ?_;refine atOps_nil ?_;have hbs:Below (w.heap.size+1) wr (wr.setChan g q (chB 0 (k+1)) false (k+1) 0 false):=Go.Conc.below_setChan (Below.refl _ _) (by omega) _ _ _ _ _ _;have HC7:=Lib.hid (ChanAt.set hgz q 0 (k+1) false (k+1) 0);have hg7:g<(wr.setChan g q (chB 0 (k+1)) false (k+1) 0 false).heap.size:=by rw [Go.Conc.size_setChan]; exact hgz
    have HX7:Hid (Box2 (wr.setChan g q (chB 0 (k+1)) false (k+1) 0 false) w.heap.size (.slice A q c) (.slice B q d)):=Lib.hid ⟨(hbs.cell (p:=⟨w.heap.size,0,none⟩) (Nat.lt_succ_self _)).trans HX.out.1,(hbs.cell (p:=⟨w.heap.size,1,none⟩) (Nat.lt_succ_self _)).trans HX.out.2.1,Nat.lt_of_lt_of_le HX.out.2.2 hbs.size⟩;have HB7:=Lib.hid (HB.out.trans (hbs.mono (Nat.le_succ _)));clear hbs HC HX HB hgz;generalize wr.setChan g q (chB 0 (k+1)) false (k+1) 0 false=w7 at *
    try simp only [Act.put,ly3]
    try simp only [Exit.inBlock,Exit.then]
    go_wp2;go_roundw
    case rel=>exact ⟨k+1,by omega,by go_num,hg7,HC7,HX7,HB7⟩
    case measure=>simp [intOf]; omega
   ·obtain rfl:q=k:=by omega
    go_upto_region 9 with fail
    refine wp_atOps ?_;refine atOps_val rfl rfl rfl ?_;refine atOps_val rfl rfl (run_closeOp HC.out rfl rfl) ?_;refine atOps_nil ?_;have hbs:Below (w.heap.size+1) wr (wr.setChan g q (chB 0 q) true q 0 false):=Go.Conc.below_setChan (Below.refl _ _) (by omega) _ _ _ _ _ _;have HC7:=Lib.hid (ChanAt.set hgz q 0 q true q 0);have hg7:g<(wr.setChan g q (chB 0 q) true q 0 false).heap.size:=by rw [Go.Conc.size_setChan]; exact hgz
    have HX7:Hid (Box2 (wr.setChan g q (chB 0 q) true q 0 false) w.heap.size (.slice A q c) (.slice B q d)):=Lib.hid ⟨(hbs.cell (p:=⟨w.heap.size,0,none⟩) (Nat.lt_succ_self _)).trans HX.out.1,(hbs.cell (p:=⟨w.heap.size,1,none⟩) (Nat.lt_succ_self _)).trans HX.out.2.1,Nat.lt_of_lt_of_le HX.out.2.2 hbs.size⟩;have HB7:=Lib.hid (HB.out.trans (hbs.mono (Nat.le_succ _)));clear hbs HC HX HB hgz;generalize wr.setChan g q (chB 0 q) true q 0 false=w7 at *
    try simp only [Act.put,ly3]
    try simp only [Exit.inBlock,Exit.then]
    have HO:=Lib.hid (OwnV.nil w7 (g+1) 3);go_wp2;go_loopw [5] (fun v5 wr=>∃ k:Nat,k≤q∧g<wr.heap.size∧Hid (ChanAt wr g q k q true q k)∧Hid (OwnV wr (g+1) 3 v5 (failTo L M k))∧Hid (Box2 wr w.heap.size (.slice A q c) (.slice B q d))∧Hid (Below w.heap.size w wr)) (fun _ wr=>chLeft wr g)
    case atStart=>exact ⟨0,Nat.zero_le _,hg7,HC7,HO,HX7,HB7⟩
    case round =>
     clear HX7 HB7 HC7 HO hg7;obtain ⟨k,hk,hgz,HC,HO,HX,HB⟩:=hrel;by_cases hlt:k<q
     ·have ki:(k:Int)<(q:Int):=by omega
      have k0:(0:Int)≤(k:Int):=by omega
      have HLF:=Lib.hid HC.out.left;go_upto_region 12 with fail
      refine wp_atOps ?_;refine atOps_comm rfl rfl (HRC.out _ _ rfl _ _ rfl _) (HC.out.recv hlt _) ?_;refine atOps_val rfl rfl rfl ?_;refine atOps_nil ?_;have ho9:=only_setChan wr g q (chB (k+1) q) true q (k+1) false;have hb9:Below (w.heap.size+1) wr (wr.setChan g q (chB (k+1) q) true q (k+1) false):=ho9.below (by omega);have HC9:=Lib.hid (ChanAt.set hgz q (k+1) q true q (k+1));have hg9:g<(wr.setChan g q (chB (k+1) q) true q (k+1) false).heap.size:=by rw [Go.Conc.size_setChan]; exact hgz
      have HX9:Hid (Box2 (wr.setChan g q (chB (k+1) q) true q (k+1) false) w.heap.size (.slice A q c) (.slice B q d)):=Lib.hid ⟨(hb9.cell (p:=⟨w.heap.size,0,none⟩) (Nat.lt_succ_self _)).trans HX.out.1,(hb9.cell (p:=⟨w.heap.size,1,none⟩) (Nat.lt_succ_self _)).trans HX.out.2.1,Nat.lt_of_lt_of_le HX.out.2.2 hb9.size⟩;have HB9:=Lib.hid (HB.out.trans (hb9.mono (Nat.le_succ _)));have HO9:=Lib.hid (ho9.own HO.out (fun e=>by have:=HO.out.ownLt g e; omega))
      clear hb9 ho9 HC HX HB HO hgz;generalize wr.setChan g q (chB (k+1) q) true q (k+1) false=W2 at *
      try simp only [Act.put,ly3]
      try simp only [Exit.inBlock,Exit.then]
      have hb:=HB9.out;obtain ⟨b,off,rfl,hbB,hc⟩:=H.out.2 (by omega);obtain ⟨b',off',rfl,hbB',hc'⟩:=HL.out.2 (by omega);obtain ⟨Ak,ck,hx,hrec,_,_⟩:=hc k hlt;obtain ⟨Bk,dk,hy,hrec',_,_⟩:=hc' k hlt;have x0:W2.cell? ⟨b,off+k,none⟩=some (.slice Ak (rowN L k) ck):=(hb.cell (by exact hbB)).trans hx;have y0:W2.cell? ⟨b',off'+k,none⟩=some (.slice Bk (rowN M k) dk):=(hb.cell (by exact hbB')).trans hy;have HR3:=Lib.hid ((hrec.below hb).mono hb.size);have HR4:=Lib.hid ((hrec'.below hb).mono hb.size);have hrk:=HR.out k hlt;have hsk:=HS.out k hlt;have hz:=hb.size;have v0:=HX9.out.1;have v1:=HX9.out.2.1;have vl:=HX9.out.2.2;have bl1:b<W2.heap.size:=by omega
      have bl2:b'<W2.heap.size:=by omega
      have HKEEP:=Lib.hid (show ∀ w',Below W2.heap.size W2 w'→(w'.cell? ⟨w.heap.size,0,none⟩=some (.slice (some ⟨b,off,none⟩) q c)∧w'.cell? ⟨w.heap.size,1,none⟩=some (.slice (some ⟨b',off',none⟩) q d)∧w'.cell? ⟨b,off+k,none⟩=some (.slice Ak (rowN L k) ck)∧w'.cell? ⟨b',off'+k,none⟩=some (.slice Bk (rowN M k) dk)) from fun w' hw=>⟨(hw.cell (by exact vl)).trans v0,(hw.cell (by exact vl)).trans v1,(hw.cell (by exact bl1)).trans x0,(hw.cell (by exact bl2)).trans y0⟩);have HRS:Hid (decide (0<(thrN (rowZ L k) (rowN L k) (rowZ M k) (rowN M k):Int))=ribS L M k):=Lib.hid rfl;clear hc hc' hx hy hrec hrec' hb;go_wp2;go_region_held3 (fun w'=>w'.cell? ⟨w.heap.size,0,none⟩=some (.slice (some ⟨b,off,none⟩) q c)∧w'.cell? ⟨w.heap.size,1,none⟩=some (.slice (some ⟨b',off',none⟩) q d)∧w'.cell? ⟨b,off+k,none⟩=some (.slice Ak (rowN L k) ck)∧w'.cell? ⟨b',off'+k,none⟩=some (.slice Bk (rowN M k) dk)) (first | exact ⟨v0,v1,x0,y0⟩ | exact hk1)
       ((go_at_call 37; refine (iStd_any _ _ _ (rowZ L k) _ _ _ (rowZ M k) _ (by exact HR3.out.drewN 1) hrk (by exact HR4.out.drewN 1) hsk).mono ?_; rw [HRS.out]; rintro e w1 ⟨rfl,hbx⟩; have hb1:=below_undrew hbx; have HB1:=Lib.hid hb1; have hk1:=HKEEP.out w1 hb1))
      have HB3:=Lib.hid (HB9.out.trans (HB1.out.mono hz));have HX3:=Lib.hid (HX9.out.after HB1.out);have HO3:=Lib.hid (HO9.out.below HB1.out);have HC3:=Lib.hid (HC9.out.keep hg9 HB1.out);have hg3:=Nat.lt_of_lt_of_le hg9 HB1.out.size;clear hk1 hb1 hbx v0 v1 x0 y0 HKEEP HB1 HX9 HO9 HB9 HC9 hg9;cases hrs:ribS L M k
      ·have HE:=Lib.hid (failTo_f hrs)
       have hlen:=failTo_len L M k;obtain ⟨A3,l3,c3,rfl⟩:=HO3.out.sliceN;have hl3:=HO3.out.len;have hz3:=HB3.out.size;have hx3:=HX3.out.2.2;go_wp2_with (at_builtin; refine wpList_append_int _ rfl (.tmp 40) (.tmp 42) 38 rfl (g+1) 3 Tryzx.underlying38 infoInt _ (failTo L M k) rfl (by exact HO3.out.alloc _) _ _ (k:Int) rfl (by exact cell_new1 _ _ _) (by omega) (by simp; omega) ?_; intro g' cap' w7 hown7 hgr7);have h7:=hown7.toV;rw [List.length_append,← HE.out] at h7;have hb7:=ownB_below (Below.refl (g+1) _) (by first | omega | (simp; omega)) HO3.out (Nat.le_refl _) hgr7
       have HO7:Hid (OwnV w7 (g+1) 3 (.slice (some ⟨g',0,none⟩) ((failTo L M k).length+1) cap') (failTo L M (k+1))):=Lib.hid h7;have HX7:Hid (Box2 w7 w.heap.size (.slice (some ⟨b,off,none⟩) q c) (.slice (some ⟨b',off',none⟩) q d)):=Lib.hid ⟨(hb7.cell (p:=⟨w.heap.size,0,none⟩) (by show w.heap.size<g+1; omega)).trans HX3.out.1,(hb7.cell (p:=⟨w.heap.size,1,none⟩) (by show w.heap.size<g+1; omega)).trans HX3.out.2.1,Nat.lt_of_lt_of_le HX3.out.2.2 hb7.size⟩
       have HB7:=Lib.hid (HB3.out.trans (hb7.mono (by omega)));have HC7:Hid (ChanAt w7 g q (k+1) q true q (k+1)):=Lib.hid ((hb7.block g (Nat.lt_succ_self _)).trans HC3.out);have hg7:=Nat.lt_of_lt_of_le hg3 hb7.size;have HL7:=Lib.hid HC7.out.left;clear hown7 hgr7 hb7 h7 hx3;go_wp2;go_roundw
       case rel=>exact ⟨k+1,by omega,hg7,HC7,HO7,HX7,HB7⟩
       case measure=>rw [HLF.out,HL7.out]; omega
      ·have HE:=Lib.hid (failTo_t hrs)
       have HO7:=Lib.hid (show OwnV _ _ _ _ (failTo L M (k+1)) by rw [HE.out]; exact HO3.out);have HL7:=Lib.hid HC3.out.left;go_wp2;go_roundw
       case rel=>exact ⟨k+1,by omega,hg3,HC3,HO7,HX3,HB3⟩
       case measure=>rw [HLF.out,HL7.out]; omega
     ·obtain rfl:q=k:=by omega
      go_upto_region 12 with fail
      refine wp_atOps ?_;refine atOps_comm rfl rfl (HRC.out _ _ rfl _ _ rfl _) (HC.out.shut _) ?_;refine atOps_val rfl rfl rfl ?_;refine atOps_nil ?_;try simp only [Act.put,ly3]
      try simp only [Exit.inBlock,Exit.then]
      go_wp2;go_ret;exact ⟨_,rfl,by rw [HT.out]; exact HO.out.weakenN (by omega),HB.out⟩
end
end X
end Go.Proofs.YtjcgklifabcfkaaGreat
