/-
  Texts that the law stands on, part 23.
-/
import Derived.Test.YtodneggnnipcnaaGreatH1
import Derived.Test.YtodneggnnipcnaaGreatH15
import Derived.Test.YtodneggnnipcnaaGreatH17
import Derived.Test.YtodneggnnipcnaaGreatH19
import Derived.Test.YtodneggnnipcnaaGreatH21
import Derived.Test.YtodneggnnipcnaaGreatH22
import Derived.Test.YtodneggnnipcnaaGreatH10
import Derived.Deep.RegionLaw
import Derived.Deep.DeepCutAuto
import Derived.Outline
set_option maxRecDepth 100000
set_option linter.unusedVariables false
set_option linter.unusedSimpArgs false
namespace Go.Proofs.YtodneggnnipcnaaGreat
namespace X
open Go.RowKit
theorem infoWt:(Tryzx.prog.info? 142).map (fun i=>(i.zero,i.size,i.bytes))=some (some (.agg #[.int .i64 0,.int .i64 0]),2,16):=by kernel_rfl
theorem box_set {w:World} {g:Nat} {t:TypeId} {f:Nat→Value} (v:Value) (h:RowF w g t 1 f):Box (w.setCell ⟨g,0,none⟩ v) g v :=
 ⟨by have:=(h.set 0 v).cell (i:=0) (by omega); simpa using this,by simpa using h.lt⟩
theorem rowF_new1 (w:World) (u:Value) (t:TypeId):RowF (w.alloc (.cells #[u] t)) w.heap.size t 1 (fun _=>u):=RowF.of_row (World.rowIs_alloc w #[u] t (fun _=>u) (fun i hi=>by simp at hi; subst hi; rfl))
theorem rowF_new3 (w:World) (a b c:Int) (T:TypeId):RowF (w.alloc (.cells #[.int .i64 a,.int .i64 b,.int .i64 c] T)) w.heap.size T 3 (ints [a,b,c]) :=
 RowF.of_row (World.rowIs_alloc w #[.int .i64 a,.int .i64 b,.int .i64 c] T _ (fun j hj=>by simp at hj; match j,hj with | 0,_=>rfl | 1,_=>rfl | 2,_=>rfl))
def WtsPost (w:World) (L:List Int) (m:Nat) (e:Ending) (w':World):Prop :=
 ∃ g,e = .returned (.slice (some ⟨g,0,none⟩) m m)∧w.heap.size≤g∧RowF w' g 142 (m*2) (ints L)∧Below w.heap.size w w'
theorem wmL_fill {zs ls:List Int} {i m k:Nat} (hk:k<m):(fun j=>if j=k*2+1 then Value.int .i64 (kmTo zs ls k i) else if j=k*2 then Value.int .i64 (kwTo zs ls k i) else fill (wmL zs ls i m) (k*2) j)=fill (wmL zs ls i m) ((k+1)*2):=by
 funext j
 have h:=wmL_nth zs ls i hk;have h2:=fill_step2 (wmL zs ls i m) (k*2) j;rw [h.1,h.2] at h2;rw [h2,show (k+1)*2=k*2+2 by omega]
theorem wmL_load {zs ls:List Int} {i m k:Nat} (hk:k<m) (h:nth ls (i*3)=(k:Int)):∀ j,j<m*2→(if j=k*2+1 then Value.int .i64 (kmTo zs ls k (i+1)) else if j=k*2 then Value.int .i64 (kwTo zs ls k (i+1)) else ints (wmL zs ls i m) j)=ints (wmL zs ls (i+1) m) j:=by
 intro j hj;have h1:=wmL_nth zs ls (i+1) hk;by_cases e1:j=k*2+1
 ·subst e1; rw [if_pos rfl,ints_def,h1.2]
 ·by_cases e2:j=k*2
  ·subst e2; rw [if_neg e1,if_pos rfl,ints_def,h1.1]
  ·rw [if_neg e1,if_neg e2,ints_def,ints_def]
   have hne:¬ nth ls (i*3)=((j / 2:Nat):Int):=by omega
   have ha:=wmL_nth zs ls i (m:=m) (k:=j / 2) (by omega);have hb:=wmL_nth zs ls (i+1) (m:=m) (k:=j / 2) (by omega);rw [kwTo_f zs hne,kmTo_f zs hne] at hb;rcases Nat.mod_two_eq_zero_or_one j with e | e
   ·rw [show j=j / 2*2 by omega,ha.1,hb.1]
   ·rw [show j=j / 2*2+1 by omega,ha.2,hb.2]
set_option maxRecDepth 100000 in
set_option maxHeartbeats 3200000 in
theorem weightsOf_any (A : Option Addr) (n c : Nat) (zs : List Int) (B : Option Addr) (q d : Nat) (ls : List Int) (w : World) (h : RecsAt w w.heap.size 4 A n zs) (hl : RecsAt w w.heap.size 3 B q ls) (hL : loadsB zs n ls q = true) :
    Calls Tryzx.prog 124 #[.agg #[.slice A n c], .slice B q d] w (WtsPost w (wmL zs ls q (n - 1)) (n - 1)) := by
  obtain ⟨hA, hq6, hLA⟩ := loadsB_out hL;obtain ⟨hn8, hpt⟩ := archB_out hA;obtain ⟨m, rfl⟩ : ∃ m, n = m + 1 := ⟨n - 1, by omega⟩;rw [Nat.add_sub_cancel] at hpt ⊢;have hmk := fun W => run_make_recs (P := Tryzx.prog) 164 142 2 16 #[.int .i64 0, .int .i64 0] Tryzx.underlying164 infoWt m (by omega) (by omega) W
  have HPT := Lib.hid hpt;have HLA := Lib.hid hLA;have HKB := Lib.hid (fun k i hi => kwTo_bd zs hLA hq6 k (i := i) hi);have HMB := Lib.hid (fun k i hi => kmTo_bd zs hLA hq6 k (i := i) hi);obtain ⟨b, off, rfl, hbB, hcell⟩ := h.2 (by omega);have HC := Lib.hid (fun j (hj : j < m + 1) => jtCells hcell hj);have HLD := Lib.hid hl;have e1 : ((m + 1 : Nat) : Int) - 1 = (m : Int) := by omega
  have e2 : IntKind.i64.wrap (((m + 1 : Nat) : Int) - 1) = (m : Int) := by rw [e1]; exact IntWalk.i64_in _ (by omega)
  have HB0 := Lib.hid (((Below.refl w.heap.size w).alloc (Nat.le_refl _) (.cells #[.slice (some ⟨b, off, none⟩) (m + 1) c] 32)).alloc (by simp) (.cells (madeCells #[.int .i64 0, .int .i64 0] (m * 2)) 142));have HX0 := Lib.hid ((Box.new w (.slice (some ⟨b, off, none⟩) (m + 1) c) 32).alloc (.cells (madeCells #[.int .i64 0, .int .i64 0] (m * 2)) 142));have HR0 : Hid (RowF ((w.alloc (.cells #[.slice (some ⟨b, off, none⟩) (m + 1) c] 32)).alloc (.cells (madeCells #[.int .i64 0, .int .i64 0] (m * 2)) 142)) (w.heap.size + 1) 142 (m * 2) (fill (wmL zs ls 0 m) (0 * 2))) := by
    have h := RowF.of_row (rowIs_made0 (w.alloc (.cells #[.slice (some ⟨b, off, none⟩) (m + 1) c] 32)) #[.int .i64 0, .int .i64 0] 142 (m * 2) (fun j hj => by simp at hj; match j, hj with | 0, _ => rfl | 1, _ => rfl) (by simp) (wmL zs ls 0 m))
    rw [World.size_alloc] at h;exact h
  clear hcell h hl hL hA hLA hpt;go_enter Tryzx.func124, Tryz.ntmps124;go_wp2;clear hmk;go_loopw [18] (fun i wr => ∃ k : Nat, k ≤ m ∧ i = .int .i64 k ∧ Hid (RowF wr (w.heap.size + 1) 142 (m * 2) (fill (wmL zs ls 0 m) (k * 2))) ∧ Hid (Box wr w.heap.size (.slice (some ⟨b, off, none⟩) (m + 1) c)) ∧ Hid (Below w.heap.size w wr)) (fun i _ => m - (intOf i).toNat)
  case atStart => exact ⟨0, Nat.zero_le _, rfl, HR0, HX0, HB0⟩
  case round =>
    clear HR0 HX0 HB0;obtain ⟨k, hk, rfl, HR, HX, HB⟩ := hrel;by_cases hlt : k < m
    · have hq := HC.out k (by omega)
      have hq2 := HC.out (k + 1) (by omega);have hz := HB.out.size;have hbr : b < wr.heap.size := by omega
      have hgl := HX.out.2;have hrl := HR.out.lt;have hbox := HX.out.1;have x0 := (HB.out.cell (p := ⟨b, off + k * 4, none⟩) hbB).trans hq.1;have x1 := (HB.out.cell (p := ⟨b, off + k * 4 + 1, none⟩) hbB).trans hq.2.1;have x2 := (HB.out.cell (p := ⟨b, off + k * 4 + 2, none⟩) hbB).trans hq.2.2.1;have x3 := (HB.out.cell (p := ⟨b, off + k * 4 + 3, none⟩) hbB).trans hq.2.2.2;have y0 := (HB.out.cell (p := ⟨b, off + (k + 1) * 4, none⟩) hbB).trans hq2.1;have y1 := (HB.out.cell (p := ⟨b, off + (k + 1) * 4 + 1, none⟩) hbB).trans hq2.2.1;have y2 := (HB.out.cell (p := ⟨b, off + (k + 1) * 4 + 2, none⟩) hbB).trans hq2.2.2.1;have y3 := (HB.out.cell (p := ⟨b, off + (k + 1) * 4 + 3, none⟩) hbB).trans hq2.2.2.2;have i1 : IntKind.i64.wrap ((k : Int) + 1) = (k : Int) + 1 := IntWalk.i64_in _ (by omega);have i2 : (k : Int) < ((m + 1 : Nat) : Int) := by omega
      have i2' : (k : Int) < (m : Int) + 1 := by omega
      have i3 : (k : Int) + 1 < ((m + 1 : Nat) : Int) := by omega
      have i3' : (k : Int) + 1 < (m : Int) + 1 := by omega
      have i4 : (0 : Int) ≤ (k : Int) + 1 := by omega
      have i5 : ((k : Int) + 1).toNat = k + 1 := by omega
      have i6 : (0 : Int) ≤ (k : Int) := by omega
      have i7 : (k : Int) < (m : Int) := by omega
      have ne1 : wr.heap.size ≠ w.heap.size := by omega
      have ne2 : wr.heap.size ≠ b := by omega
      have HST : Hid (btwA zs k = btw (nth zs (k * 4)) (nth zs (k * 4 + 1)) (nth zs (k * 4 + 2)) (nth zs (k * 4 + 3)) (nth zs ((k + 1) * 4)) (nth zs ((k + 1) * 4 + 1)) (nth zs ((k + 1) * 4 + 2)) (nth zs ((k + 1) * 4 + 3))) := rfl;have hS : stoneB (btw (nth zs (k * 4)) (nth zs (k * 4 + 1)) (nth zs (k * 4 + 2)) (nth zs (k * 4 + 3)) (nth zs ((k + 1) * 4)) (nth zs ((k + 1) * 4 + 1)) (nth zs ((k + 1) * 4 + 2)) (nth zs ((k + 1) * 4 + 3))) 4 = true := by
        have := HPT.out k hlt;simp only [pairB, Bool.and_eq_true] at this;exact this.1
      clear hq hq2;obtain ⟨wk, rfl⟩ : ∃ wk : World, wk = wr := ⟨_, rfl⟩;go_upto_region 5 with fail
      go_cut [7] (fun s7 wx => ∃ gs gq : Nat, s7 = .pointer (some ⟨gs, 0, none⟩) ∧ wk.heap.size ≤ gs ∧ Hid (Box wx gs (.slice (some ⟨gq, 0, none⟩) 4 4)) ∧ Hid (RecsAt wx wx.heap.size 2 (some ⟨gq, 0, none⟩) 4 (btwA zs k)) ∧ Hid (Below wk.heap.size wk wx))
      case first =>
        go_region_held3 (fun w' => w'.cell? ⟨w.heap.size, 0, none⟩ = some (.slice (some ⟨b, off, none⟩) (m + 1) c) ∧ (w'.cell? ⟨b, off + k * 4, none⟩ = some (.int .i64 (nth zs (k * 4))) ∧ w'.cell? ⟨b, off + k * 4 + 1, none⟩ = some (.int .i64 (nth zs (k * 4 + 1))) ∧ w'.cell? ⟨b, off + k * 4 + 2, none⟩ = some (.int .i64 (nth zs (k * 4 + 2))) ∧ w'.cell? ⟨b, off + k * 4 + 3, none⟩ = some (.int .i64 (nth zs (k * 4 + 3)))) ∧ (w'.cell? ⟨b, off + (k + 1) * 4, none⟩ = some (.int .i64 (nth zs ((k + 1) * 4))) ∧ w'.cell? ⟨b, off + (k + 1) * 4 + 1, none⟩ = some (.int .i64 (nth zs ((k + 1) * 4 + 1))) ∧ w'.cell? ⟨b, off + (k + 1) * 4 + 2, none⟩ = some (.int .i64 (nth zs ((k + 1) * 4 + 2))) ∧ w'.cell? ⟨b, off + (k + 1) * 4 + 3, none⟩ = some (.int .i64 (nth zs ((k + 1) * 4 + 3))))) (first | exact ⟨hbox, ⟨x0, x1, x2, x3⟩, ⟨y0, y1, y2, y3⟩⟩ | (refine keepA (by assumption) (fun i => ?_) ?_ <;> first | exact cell_alloc_lt (by first | (simp; done) | (simp; omega) | omega) | exact (cell_alloc_lt (by first | (simp; done) | (simp; omega) | omega)).trans (cell_alloc_lt (by first | (simp; done) | (simp; omega) | omega)).symm | exact hcc _ _ (by first | (simp; done) | (simp; omega) | omega) | exact World.cell?_setCell_far _ _ _ _ (by first | (simp; done) | (simp; omega) | omega))) ((go_at_call 125; refine (iBetween_any _ _ _ _ _ _ _ _ _).mono ?_; rintro e w1 ⟨A1, n1, c1, rfl, ht, _, hb1⟩; obtain ⟨rfl, rfl, gq, rfl, hrq, hgq⟩ := ht hS; rw [hS]; obtain ⟨hcc, hff⟩ := bcell hb1; have k1 := hb1.size; simp at k1; have k2 : w1.heap.size ≠ w.heap.size := (by omega); have k3 : w1.heap.size ≠ b := (by omega)))
        · go_wp2_with fail
          go_meet
          have hzk := hb1.size;simp at hzk;have hgl2 := hrq.lt;exact ⟨w1.heap.size, gq, rfl, by omega, Lib.hid (Box.new _ _ _), Lib.hid ((show RowF (w1.alloc _) gq 98 (4 * 2) (ints (btwA zs k)) from hrq.alloc _).recs rfl), Lib.hid (((below_drewN (Below.refl wk.heap.size wk) 1).trans (hb1.mono (by simp))).alloc (by omega) _)⟩
        · go_wp2_with fail
          go_meet
          have hzk := hb1.size;simp at hzk;have hgl2 := hrq.lt;have hrw := (rowF_new1 wk.drew (.slice none 0 0) 146).after hb1;simp at hgq;exact ⟨wk.heap.size, gq, rfl, by omega, Lib.hid (box_set _ hrw), Lib.hid ((show RowF (w1.setCell _ _) gq 98 (4 * 2) (ints (btwA zs k)) from hrq.set_other (by simp; omega) _).recs rfl), Lib.hid ((((below_drewN (Below.refl wk.heap.size wk) 1).alloc (Nat.le_refl _) _).trans (hb1.mono (by simp))).setCell (by simp) _)⟩
      case rest =>
        clear x0 x1 x2 x3 y0 y1 y2 y3 hbox;obtain ⟨gs, gq, rfl, hgs, HBX, HRQ, HBW⟩ := hcut;have HRc := Lib.hid (HR.out.after HBW.out);have HXc := Lib.hid (HX.out.after HBW.out);have HBc := Lib.hid (HB.out.trans (HBW.out.mono hz));have hgsl := HBX.out.2;have bxc := HBX.out.1;have hrlc := HRc.out.lt;have hzc := HBW.out.size;have hnes : w.heap.size + 1 ≠ gs := by omega
        have HSW : Hid (swt zs k = weightI (btwA zs k) 4 ∧ smt zs k = overI facX (btwA zs k) 4) := ⟨rfl, rfl⟩;clear HR HX HB;go_wp2;go_region_held3 (fun w' => w'.cell? ⟨gs, 0, none⟩ = some (.slice (some ⟨gq, 0, none⟩) 4 4)) (first | exact bxc | assumption | (refine (World.cell?_setCell_far _ _ _ _ hnes).trans ((World.cell?_setCell_far _ _ _ _ hnes).trans ?_); assumption))
          ((first
            | (go_at_call 156; refine (iWeightOf_any _ _ _ (btwA zs k) _ (by exact HRQ.out)).mono ?_; rintro e w1 ⟨rfl, hb1⟩; have bx1 : w1.cell? ⟨gs, 0, none⟩ = some (.slice (some ⟨gq, 0, none⟩) 4 4) := (hb1.cell (p := ⟨gs, 0, none⟩) (by exact hgsl)).trans bxc; have HQ1 := Lib.hid ((show RecsAt wc.drew wc.drew.heap.size 2 _ 4 (btwA zs k) from HRQ.out).after hb1))
            | (go_at_call 157; refine (iMomentOf_any _ _ _ (btwA zs k) _ HQ1.out).mono ?_; rintro e w2 ⟨rfl, hb2⟩; have HR2 := Lib.hid ((show RowF wc.drew _ _ _ _ from HRc.out).after hb1 |>.after hb2); have bx2 : w2.cell? ⟨gs, 0, none⟩ = some (.slice (some ⟨gq, 0, none⟩) 4 4) := (hb2.cell (p := ⟨gs, 0, none⟩) (by have := hb1.size; simp at this; exact Nat.lt_of_lt_of_le hgsl this)).trans bx1; have d0 := HR2.out.cell (i := k * 2) (by omega); have d1 := HR2.out.cell (i := k * 2 + 1) (by omega); have f0 := HR2.out.frozen (k * 2); have f1 := HR2.out.frozen (k * 2 + 1))))
        have HB3 := Lib.hid ((((below_drewN HBc.out 1).trans (hb1.mono (by simp; omega))).trans (hb2.mono (by have := hb1.size; simp at this; omega))).setCell (p := ⟨w.heap.size + 1, k * 2, none⟩) (by simp) (.int .i64 (weightI (btwA zs k) 4)) |>.setCell (p := ⟨w.heap.size + 1, k * 2 + 1, none⟩) (by simp) (.int .i64 (overI facX (btwA zs k) 4)))
        have HX3 := Lib.hid (((show Box wc.drew _ _ from HXc.out).after hb1).after hb2);have HX4 : Hid (Box ((w2.setCell ⟨w.heap.size + 1, k * 2, none⟩ (.int .i64 (weightI (btwA zs k) 4))).setCell ⟨w.heap.size + 1, k * 2 + 1, none⟩ (.int .i64 (overI facX (btwA zs k) 4))) w.heap.size (.slice (some ⟨b, off, none⟩) (m + 1) c)) :=
          ⟨(World.cell?_setCell_far _ _ _ _ (by simp)).trans ((World.cell?_setCell_far _ _ _ _ (by simp)).trans HX3.out.1), by have := HX3.out.2; simpa using this⟩
        have HR3 : Hid (RowF ((w2.setCell ⟨w.heap.size + 1, k * 2, none⟩ (.int .i64 (weightI (btwA zs k) 4))).setCell ⟨w.heap.size + 1, k * 2 + 1, none⟩ (.int .i64 (overI facX (btwA zs k) 4))) (w.heap.size + 1) 142 (m * 2) (fill (wmL zs ls 0 m) ((k + 1) * 2))) := by
          have h := (HR2.out.set (k * 2) (.int .i64 (weightI (btwA zs k) 4))).set (k * 2 + 1) (.int .i64 (overI facX (btwA zs k) 4));have hf := wmL_fill (zs := zs) (ls := ls) (i := 0) hlt;rw [kwTo_0, kmTo_0, HSW.out.1, HSW.out.2] at hf;rw [← hf];exact h
        clear d0 d1 f0 f1 hb1 hb2 bx1 bx2 bxc;go_wp2;go_roundw
        case rel => exact ⟨k + 1, by omega, by go_num, HR3, HX4, HB3⟩
        case measure => simp [intOf]; omega
    · obtain rfl : m = k := by omega
      have HR0 : Hid (RowF wr (w.heap.size + 1) 142 (m * 2) (ints (wmL zs ls 0 m))) := HR.out.congr (fun j hj => fill_end _ hj);clear HR HC;go_wp2;go_loopw [47] (fun v wr => ∃ i : Nat, i ≤ q ∧ v = .int .i64 i ∧ Hid (RowF wr (w.heap.size + 1) 142 (m * 2) (ints (wmL zs ls i m))) ∧ Hid (Below w.heap.size w wr)) (fun v _ => q - (intOf v).toNat)
      case atStart => exact ⟨0, Nat.zero_le _, rfl, HR0, HB⟩
      case round =>
        clear HR0 HB HX;obtain ⟨i, hi, rfl, HR, HB⟩ := hrel;by_cases hli : i < q
        · obtain ⟨b2, off2, rfl, hb2B, hc2⟩ := HLD.out.2 (by omega)
          have hlc := ldCells hc2 hli;have x0 := (HB.out.cell (p := ⟨b2, off2 + i * 3, none⟩) hb2B).trans hlc.1;have x1 := (HB.out.cell (p := ⟨b2, off2 + i * 3 + 1, none⟩) hb2B).trans hlc.2.1;have x2 := (HB.out.cell (p := ⟨b2, off2 + i * 3 + 2, none⟩) hb2B).trans hlc.2.2;have hlo := loadAt_out (HLA.out i hli);obtain ⟨s, hs⟩ : ∃ s : Nat, nth ls (i * 3) = (s : Int) := ⟨(nth ls (i * 3)).toNat, by omega⟩;have hsm : s < m := by omega
          have hz := HB.out.size;have hrl := HR.out.lt;have c0 := HR.out.cell (i := s * 2) (by omega);have c1 := HR.out.cell (i := s * 2 + 1) (by omega);have hwn := wmL_nth zs ls i hsm;rw [ints_def, hwn.1] at c0;rw [ints_def, hwn.2] at c1;have hkb := HKB.out s i (by omega);have hmb := HMB.out s i (by omega);have hkb2 := HKB.out s (i + 1) (by omega);have hmb2 := HMB.out s (i + 1) (by omega);have hwx := wx_bd hlo.2.1 hlo.2.2;have e3 : IntKind.i64.wrap (kwTo zs ls s i + nth ls (i * 3 + 1)) = kwTo zs ls s (i + 1) := by rw [← kwTo_t zs hs]; exact IntWalk.i64_in _ (by omega)
          have e4 : IntKind.i64.wrap (nth ls (i * 3 + 1) * nth ls (i * 3 + 2)) = nth ls (i * 3 + 1) * nth ls (i * 3 + 2) := IntWalk.i64_in _ (by omega);have e5 : IntKind.i64.wrap (kmTo zs ls s i + nth ls (i * 3 + 1) * nth ls (i * 3 + 2)) = kmTo zs ls s (i + 1) := by rw [← kmTo_t zs hs]; exact IntWalk.i64_in _ (by omega)
          have HLW := Lib.hid (wmL_load (zs := zs) hsm hs);rw [hs] at x0;have s0 : (0 : Int) ≤ (s : Int) := by omega
          have s1 : (s : Int) < (m : Int) := by omega
          clear hs hlc hc2 hlo hwn;have HRA := Lib.hid (HR.out.alloc (.cells #[.int .i64 (s : Int), .int .i64 (nth ls (i * 3 + 1)), .int .i64 (nth ls (i * 3 + 2))] 75));have HBA := Lib.hid (HB.out.alloc hz (.cells #[.int .i64 (s : Int), .int .i64 (nth ls (i * 3 + 1)), .int .i64 (nth ls (i * 3 + 2))] 75));have g0 := HRA.out.frozen (s * 2);have g1 := HRA.out.frozen (s * 2 + 1);generalize nth ls (i * 3 + 1) = lw at *
          generalize nth ls (i * 3 + 2) = lx at *
          have HLB : Hid (RowF (wr.alloc (.cells #[.int .i64 (s : Int), .int .i64 lw, .int .i64 lx] 75)) wr.heap.size 75 3 (ints [(s : Int), lw, lx])) := RowF.of_row (World.rowIs_alloc wr #[.int .i64 (s : Int), .int .i64 lw, .int .i64 lx] 75 _ (fun j hj => by simp at hj; match j, hj with | 0, _ => rfl | 1, _ => rfl | 2, _ => rfl))
          clear hkb hmb hkb2 hmb2 hwx;obtain ⟨wk, rfl⟩ : ∃ wk : World, wk = wr := ⟨_, rfl⟩;go_upto_region 11 with fail
          go_cut [10] (fun s10 wx => s10 = .pointer (some ⟨wk.heap.size, 0, none⟩) ∧ Hid (RowF wx (w.heap.size + 1) 142 (m * 2) (fun j => if j = s * 2 then Value.int .i64 (kwTo zs ls s (i + 1)) else ints (wmL zs ls i m) j)) ∧ Hid (RowF wx wk.heap.size 75 3 (ints [(s : Int), lw, lx])) ∧ Hid (Below w.heap.size w wx))
          case first =>
            have HLN : Hid (RowF ((wk.setCell ⟨w.heap.size + 1, s * 2, none⟩ (.int .i64 (kwTo zs ls s (i + 1)))).alloc (.cells #[.int .i64 (s : Int), .int .i64 lw, .int .i64 lx] 75)) wk.heap.size 75 3 (ints [(s : Int), lw, lx])) := by
              have h := rowF_new3 (wk.setCell ⟨w.heap.size + 1, s * 2, none⟩ (.int .i64 (kwTo zs ls s (i + 1)))) (s : Int) lw lx 75;have e : (wk.setCell ⟨w.heap.size + 1, s * 2, none⟩ (.int .i64 (kwTo zs ls s (i + 1)))).heap.size = wk.heap.size := by simp
              rw [e] at h;exact h
            go_region_law (fail)
            all_goals (go_wp2_with fail; go_meet; exact ⟨rfl, Lib.hid ((HR.out.set (s * 2) _).alloc _).drew, Lib.hid HLN.out.drew, Lib.hid ((HB.out.setCell (by simp) _).alloc (by simp; omega) _).drew⟩)
          case rest =>
            clear c0 x0 x1 x2 e3 g0 g1 HRA HLB HBA;obtain ⟨rfl, HRc, HLc, HBc⟩ := hcut;have c1 : wc.cell? ⟨w.heap.size + 1, s * 2 + 1, none⟩ = some (.int .i64 (kmTo zs ls s i)) := by
              have h := HRc.out.cell (i := s * 2 + 1) (by omega);rw [if_neg (by omega), ints_def, (wmL_nth zs ls i hsm).2] at h;exact h
            have y0 : wc.cell? ⟨wk.heap.size, 0, none⟩ = some (.int .i64 (s : Int)) := HLc.out.cell (by omega);have y1 : wc.cell? ⟨wk.heap.size, 1, none⟩ = some (.int .i64 lw) := HLc.out.cell (by omega);have y2 : wc.cell? ⟨wk.heap.size, 2, none⟩ = some (.int .i64 lx) := HLc.out.cell (by omega);have g1 := HRc.out.frozen (s * 2 + 1);have HR4 : Hid (RowF (wc.drew.setCell ⟨w.heap.size + 1, s * 2 + 1, none⟩ (.int .i64 (kmTo zs ls s (i + 1)))) (w.heap.size + 1) 142 (m * 2) (ints (wmL zs ls (i + 1) m))) := (HRc.out.drew.set (s * 2 + 1) _).congr HLW.out;have HB4 : Hid (Below w.heap.size w (wc.drew.setCell ⟨w.heap.size + 1, s * 2 + 1, none⟩ (.int .i64 (kmTo zs ls s (i + 1))))) := Lib.hid (HBc.out.drew.setCell (by simp) _);go_wp2;go_region_law (fail)
            all_goals
              go_wp2;go_roundw
              case rel => exact ⟨i + 1, by omega, by go_num, HR4, HB4⟩
              case measure => simp [intOf]; omega
        · obtain rfl : q = i := by omega
          go_wp2;go_ret;exact ⟨_, rfl, by omega, HR.out, HB.out⟩
end X
namespace X
open Go.RowKit
theorem sum_wm (zs ls:List Int) (q:Nat) {m:Nat}:∀ k,k≤m→sumW (wmL zs ls q m) k=leftW zs ls q k∧sumM (wmL zs ls q m) k=leftM zs ls q k
 | 0,_=>⟨rfl,rfl⟩
 | k+1,hk=>by
  have ih:=sum_wm zs ls q (m:=m) k (by omega);have h:=wmL_nth zs ls q (m:=m) (k:=k) (by omega);simp only [sumW,sumM,leftW,leftM,ih.1,ih.2,h.1,h.2];exact ⟨trivial,trivial⟩
set_option maxRecDepth 100000 in
set_option maxHeartbeats 1600000 in
theorem iRowsOfN_any (A : Option Addr) (n c : Nat) (zs : List Int) (B : Option Addr) (q d : Nat) (ls : List Int) (w : World) (h : RecsAt w w.heap.size 4 A n zs) (hn : n ≤ 1048576) (hl : RecsAt w w.heap.size 3 B q ls) (hq : q ≤ 1048576) :
    Calls Tryzx.prog 93 #[.agg #[.slice A n c], .slice B q d] w (RowsPostN w (rowsN zs n ls q) (rowsZ zs n ls q)) := by
  have b0 : Below w.heap.size w (w.alloc (.cells #[.slice A n c] 32)) := (Below.refl _ _).alloc (Nat.le_refl _) _;have h1 := h.after b0;have l1 := hl.after b0;have bx0 : Box (w.alloc (.cells #[.slice A n c] 32)) w.heap.size (.slice A n c) := Box.new _ _ _;cases hL : loadsB zs n ls q
  · have HF := Lib.hid (rows_f hL)
    go_enter Tryzx.func93, Tryz.ntmps93;go_wp2_with fail
    refine (iLoadsOk_any _ _ _ zs _ _ _ ls _ h1 hn l1 hq).mono ?_;rw [hL];rintro e w1 ⟨rfl, hb1⟩;have HB1 := Lib.hid (below_then b0 hb1);clear hb1;go_wp2;go_ret;exact ⟨⟨_, rfl, by rw [HF.out.1, HF.out.2]; exact OwnR.nil _ _ _ _, HB1.out⟩, fun _ => rfl⟩
  · have HT := Lib.hid (rows_t hL)
    have hA := (loadsB_out hL).1;have hn8 := (archB_out hA).1;have HE := Lib.hid (rowsL_congr (zs := zs) (n := n) (W := sumW (wmL zs ls q (n - 1))) (M := sumM (wmL zs ls q (n - 1))) (W' := leftW zs ls q) (M' := leftM zs ls q) (fun k hk => sum_wm zs ls q k (by omega)));have HWM : Hid (WMok (sumW (wmL zs ls q (n - 1))) (sumM (wmL zs ls q (n - 1))) n) := fun k hk => by
      have e := sum_wm zs ls q (m := n - 1) k (by omega);rw [e.1, e.2];exact wmok_left hL k hk
    go_enter Tryzx.func93, Tryz.ntmps93;go_wp2_with fail
    refine (iLoadsOk_any _ _ _ zs _ _ _ ls _ h1 hn l1 hq).mono ?_;rw [hL];rintro e w1 ⟨rfl, hb1⟩;have HB1 := Lib.hid (below_then b0 hb1);have bx1 := bx0.after hb1;have h2 := h1.after hb1;have l2 := l1.after hb1;have cx1 := bx1.1;clear hb1 b0 h1 l1 bx0 h hl;go_wp2;go_region_held3 (fun w' => w'.cell? ⟨w.heap.size, 0, none⟩ = some (.slice A n c)) (first | exact cx1 | exact cx2 | exact cx3)
      ((first
        | (go_at_call 124; refine (weightsOf_any _ _ _ zs _ _ _ ls _ (by exact h2) (by exact l2) hL).mono ?_; rintro e w2 ⟨g2, rfl, hg2, hr2, hbx2⟩; have hb2 := below_undrew hbx2; have h3 := h2.after hb2; have bx2 := bx1.after hb2; have cx2 := bx2.1; have HB2 := Lib.hid (below_then HB1.out hb2); have s2 : RecsAt w2 w2.heap.size 2 (some ⟨g2, 0, none⟩) (n - 1) (wmL zs ls q (n - 1)) := hr2.recs (wmL_len _ _ _ _))
        | (go_at_call 123; refine (rowsFor_any _ _ _ zs _ _ _ _ (by exact h3) (by exact s2) hA HWM.out).mono ?_; rintro e w3 ⟨v3, rfl, ho3, hb3⟩; have cx3 := (bx2.after hb3).1; have HB3 := Lib.hid (below_then HB2.out hb3))))
    obtain ⟨A3, c3, rfl, _⟩ := ho3.slice;have HO3 := Lib.hid (ho3.weaken HB2.out.size);clear ho3 hb3 hb2 hbx2 hr2 h2 h3 l2 s2 bx1 bx2 cx1 cx2 cx3;go_wp2;go_ret;exact ⟨⟨_, rfl, by rw [HT.out.1, HT.out.2, ← HE.out]; exact HO3.out, HB3.out⟩, fun h0 => by have := HT.out.1; omega⟩
end X
namespace X
open Go.RowKit
theorem rowsN_few (zs:List Int) (n:Nat) (ls:List Int) (q:Nat):rowsN zs n ls q≤17:=by
 unfold rowsN;split
 ·rename_i h
  have:=(archB_out (loadsB_out h).1).1;omega
 ·omega
def thrN (zs:List Int) (n:Nat) (ls:List Int) (q:Nat):Nat:=cornN (rowsZ zs n ls q) (rowsN zs n ls q)
def thrL (zs:List Int) (n:Nat) (ls:List Int) (q:Nat):List Int:=cornL (rowsZ zs n ls q) (rowsN zs n ls q)
def ThrPost (w:World) (m:Nat) (L:List Int) (e:Ending) (w':World):Prop :=
 ∃ v,e = .returned v∧OwnR w' w.heap.size 40 4 v m L∧Below w.heap.size w w'
section
variable (A : Option Addr) (n c : Nat) (zs : List Int) (B : Option Addr) (q d : Nat) (ls : List Int) (w : World) (h : RecsAt w w.heap.size 4 A n zs) (hn : n ≤ 1048576) (hl : RecsAt w w.heap.size 3 B q ls) (hq : q ≤ 1048576)
include h hn hl hq
set_option maxRecDepth 100000 in
set_option maxHeartbeats 3200000 in
theorem sThr_any:Calls Tryzx.prog 74 #[.agg #[.slice A n c],.slice B q d] w (ThrPost w (thrN zs n ls q) (thrL zs n ls q)):=by
 have b0:Below w.heap.size w (w.alloc (.cells #[.slice A n c] 32)):=(Below.refl _ _).alloc (Nat.le_refl _) _;have h1:=h.after b0;have l1:=hl.after b0;have bx0:Box (w.alloc (.cells #[.slice A n c] 32)) w.heap.size (.slice A n c):=Box.new _ _ _;have cx0:=bx0.1;go_enter Tryzx.func74,Tryz.ntmps74;go_wp2_with fail
 refine (sRowsOf_any _ _ _ zs _ _ _ ls _ (by exact h1) hn (by exact l1) hq).mono ?_;rintro e w1 ⟨v1,rfl,ho1,hb1⟩;have HB1:=Lib.hid (below_then b0 hb1);obtain ⟨A1,c1,rfl,_⟩:=ho1.slice;have r1:=ho1.recs;go_wp2_with fail
 refine (sCorners_any _ _ _ (rowsZ zs n ls q) _ (by exact r1) (by have:=rowsN_few zs n ls q; omega)).mono ?_
 rintro e w2 ⟨v2,rfl,ho2,hb2⟩;have HB2:=Lib.hid (below_then HB1.out hb2);have HO2:=Lib.hid (ho2.weaken HB1.out.size);clear ho2 hb2 ho1 hb1 r1 cx0;go_wp2;go_ret;exact ⟨_,rfl,HO2.out,HB2.out⟩
set_option maxRecDepth 100000 in
set_option maxHeartbeats 3200000 in
theorem iThr_any:Calls Tryzx.prog 65 #[.agg #[.slice A n c],.slice B q d] w (ThrPost w (thrN zs n ls q) (thrL zs n ls q)):=by
 have b0:Below w.heap.size w (w.alloc (.cells #[.slice A n c] 32)):=(Below.refl _ _).alloc (Nat.le_refl _) _;have h1:=h.after b0;have l1:=hl.after b0;have bx0:Box (w.alloc (.cells #[.slice A n c] 32)) w.heap.size (.slice A n c):=Box.new _ _ _;have cx0:=bx0.1;go_enter Tryzx.func65,Tryz.ntmps65;go_wp2_with fail
 refine (iRowsOfN_any _ _ _ zs _ _ _ ls _ (by exact h1) hn (by exact l1) hq).mono ?_;rintro e w1 ⟨⟨v1,rfl,ho1,hb1⟩,hz1⟩;have HB1:=Lib.hid (below_then b0 hb1);obtain ⟨A1,c1,rfl,_⟩:=ho1.slice;have r1:=ho1.recs;have n1:rowsN zs n ls q=0→A1=none:=fun h0=>by have:=hz1 h0; simp at this; exact this.1
 go_wp2_with fail
 refine (xCorners_any _ _ _ (rowsZ zs n ls q) _ (by exact r1) (by have:=rowsN_few zs n ls q; omega) n1).mono ?_
 rintro e w2 ⟨v2,rfl,he2,hb2⟩;have HB2:=Lib.hid (below_then HB1.out hb2);have HO2:=Lib.hid (he2.own.weaken HB1.out.size);clear he2 hb2 ho1 hb1 r1 cx0 n1 hz1;go_wp2;go_ret;exact ⟨_,rfl,HO2.out,HB2.out⟩
end
end X
section
def pX (zs:List Int) (q:Nat):Int:=nth zs (q*2)
def pY (zs:List Int) (q:Nat):Int:=nth zs (q*2+1)
theorem sd_eq (zs:List Int) (i j k:Nat):sd zs i j k=(pX zs j - pX zs i)*(pY zs k - pY zs i) - (pY zs j - pY zs i)*(pX zs k - pX zs i):=rfl
def dX (zs:List Int) (i o:Nat):Int:=pX zs (2*i) - pX zs (2*o+1)
def dY (zs:List Int) (i o:Nat):Int:=pY zs (2*i) - pY zs (2*o+1)
def StrI (zs:List Int) (n:Nat):Prop :=
 (∀ i o,i<n→o<n→dX zs i o=0→dY zs i o≤0) ∧
 (∀ i o i' o',i<n→o<n→i'<n→o'<n→0<dX zs i o→dX zs i' o'<0→dY zs i o*(-dX zs i' o')≤(-dY zs i' o')*dX zs i o)
def LineOk (zs:List Int) (n u v:Nat):Prop:=pX zs u<pX zs v∧∀ m,m<n→sd zs u v (2*m)≤0∧0≤sd zs u v (2*m+1)
def StrS (zs:List Int) (n:Nat):Prop:=∃ u v,u<2*n∧v<2*n∧LineOk zs n u v
theorem strI_of_strS {zs:List Int} {n:Nat} (h:StrS zs n):StrI zs n:=by
 obtain ⟨u,v,_,_,hx,hl⟩:=h;have key:∀ i o,i<n→o<n→(pX zs v - pX zs u)*dY zs i o≤(pY zs v - pY zs u)*dX zs i o:=by
  intro i o hi ho;have h1:=(hl i hi).1;have h2:=(hl o ho).2;rw [sd_eq] at h1 h2;unfold dX dY;grind
 have hD:0<pX zs v - pX zs u:=by omega
 generalize pX zs v - pX zs u=D at *
 generalize pY zs v - pY zs u=G at *
 refine ⟨fun i o hi ho e => ?_,fun i o i' o' hi ho hi' ho' h1 h2 => ?_⟩
 ·have:=key i o hi ho
  rw [e,Int.mul_zero] at this;exact Int.nonpos_of_mul_nonpos_right this hD
 ·have k1:=key i o hi ho
  have k2:=key i' o' hi' ho';generalize dX zs i o=a at *
  generalize dY zs i o=b at *
  generalize dX zs i' o'=c at *
  generalize dY zs i' o'=d at *
  have m1:(D*b)*(-c)≤(G*a)*(-c):=Int.mul_le_mul_of_nonneg_right k1 (by omega);have m2:(D*d)*a≤(G*c)*a:=Int.mul_le_mul_of_nonneg_right k2 (by omega);have m3:D*(b*(-c))≤D*((-d)*a):=by grind
  exact Int.le_of_mul_le_mul_left m3 hD
theorem line_low {zs:List Int} {n i0 o0:Nat} (hi0:i0<n) (ho0:o0<n) (h0:0<dX zs i0 o0) (hc:∀ i o,i<n→o<n→dY zs i o*dX zs i0 o0≤dY zs i0 o0*dX zs i o):StrS zs n:=by
 refine ⟨2*o0+1,2*i0,by omega,by omega,by unfold dX at h0; omega,fun m hm=>⟨?_,?_⟩⟩
 ·have:=hc m o0 hm ho0
  rw [sd_eq];unfold dX dY at this;grind
 ·have:=hc i0 m hi0 hm
  rw [sd_eq];unfold dX dY at this;grind
theorem line_high {zs:List Int} {n i0 o0:Nat} (hi0:i0<n) (ho0:o0<n) (h0:dX zs i0 o0<0) (hc:∀ i o,i<n→o<n→dY zs i o*(-dX zs i0 o0)≤(-dY zs i0 o0)*dX zs i o):StrS zs n:=by
 refine ⟨2*i0,2*o0+1,by omega,by omega,by unfold dX at h0; omega,fun m hm=>⟨?_,?_⟩⟩
 ·have:=hc m o0 hm ho0
  rw [sd_eq];unfold dX dY at this;grind
 ·have:=hc i0 m hi0 hm
  rw [sd_eq];unfold dX dY at this;grind
theorem greatest {α:Type} (num den:α→Int):∀ L:List α,L ≠ []→(∀ x ∈ L,0<den x)→∃ m ∈ L,∀ x ∈ L,num x*den m≤num m*den x
 | [],h,_=>absurd rfl h
 | [a],_,_=>⟨a,by simp,fun x hx=>by simp at hx; subst hx; exact Int.le_refl _⟩
 | a :: b :: L,_,hd=>by
  obtain ⟨m,hm,hmx⟩:=greatest num den (b :: L) (by simp) (fun x hx=>hd x (by simp [hx]));have dm:=hd m (by simp [hm]);have da:=hd a (by simp);by_cases h:num a*den m≤num m*den a
  ·refine ⟨m,by simp [hm],fun x hx => ?_⟩
   rcases List.mem_cons.1 hx with rfl | hx
   ·exact h
   ·exact hmx x hx
  ·refine ⟨a,by simp,fun x hx => ?_⟩
   rcases List.mem_cons.1 hx with rfl | hx
   ·exact Int.le_refl _
   ·have h1:=hmx x hx
    have dx:=hd x (by simp [hx]);have h2:num m*den a≤num a*den m:=by omega
    have m1:num x*den m*den a≤num m*den x*den a:=Int.mul_le_mul_of_nonneg_right h1 (by omega);have m2:num m*den a*den x≤num a*den m*den x:=Int.mul_le_mul_of_nonneg_right h2 (by omega);have m3:den m*(num x*den a)≤den m*(num a*den x):=by grind
    exact Int.le_of_mul_le_mul_left m3 dm
def pairs (n:Nat):List (Nat × Nat):=(List.range n).flatMap fun i=>(List.range n).map fun o=>(i,o)
theorem mem_pairs {n:Nat} {p:Nat × Nat}:p ∈ pairs n ↔ p.1<n∧p.2<n:=by
 obtain ⟨a,b⟩:=p;simp [pairs]
theorem strS_of_strI {zs:List Int} {n:Nat} (hn:2≤n) (hx:pX zs 0<pX zs 2) (h:StrI zs n):StrS zs n:=by
 by_cases hl:∃ p ∈ pairs n,0<dX zs p.1 p.2
 ·obtain ⟨m,hm,hmx⟩:=greatest (fun p:Nat × Nat=>dY zs p.1 p.2) (fun p=>dX zs p.1 p.2) ((pairs n).filter fun p=>decide (0<dX zs p.1 p.2)) (by
    obtain ⟨p,hp,hp2⟩:=hl;exact List.ne_nil_of_mem (List.mem_filter.2 ⟨hp,by simpa using hp2⟩)) (fun x hx=>by have:=(List.mem_filter.1 hx).2; simpa using this)
  obtain ⟨hm1,hm2⟩:=List.mem_filter.1 hm;have hm3:=mem_pairs.1 hm1;have hm4:0<dX zs m.1 m.2:=by simpa using hm2
  refine line_low hm3.1 hm3.2 hm4 fun i o hi ho => ?_
  by_cases hp:0<dX zs i o
  ·exact hmx (i,o) (List.mem_filter.2 ⟨mem_pairs.2 ⟨hi,ho⟩,by simpa using hp⟩)
  ·by_cases hz:dX zs i o=0
   ·have h0:=h.1 i o hi ho hz
    have:dY zs i o*dX zs m.1 m.2≤0:=Int.mul_nonpos_of_nonpos_of_nonneg h0 (by omega);rw [hz,Int.mul_zero];exact this
   ·have:=h.2 m.1 m.2 i o hm3.1 hm3.2 hi ho hm4 (by omega)
    grind
 ·by_cases hh:∃ p ∈ pairs n,dX zs p.1 p.2<0
  ·obtain ⟨m,hm,hmx⟩:=greatest (fun p:Nat × Nat=>dY zs p.1 p.2) (fun p => -dX zs p.1 p.2) ((pairs n).filter fun p=>decide (dX zs p.1 p.2<0)) (by
     obtain ⟨p,hp,hp2⟩:=hh;exact List.ne_nil_of_mem (List.mem_filter.2 ⟨hp,by simpa using hp2⟩)) (fun x hx=>by have:=(List.mem_filter.1 hx).2; simp at this; omega)
   obtain ⟨hm1,hm2⟩:=List.mem_filter.1 hm;have hm3:=mem_pairs.1 hm1;have hm4:dX zs m.1 m.2<0:=by simpa using hm2
   refine line_high hm3.1 hm3.2 hm4 fun i o hi ho => ?_
   by_cases hz:dX zs i o=0
   ·have h0:=h.1 i o hi ho hz
    have:dY zs i o*(-dX zs m.1 m.2)≤0:=Int.mul_nonpos_of_nonpos_of_nonneg h0 (by omega);rw [hz,Int.mul_zero];exact this
   ·have hneg:dX zs i o<0:=by
     have:¬ 0<dX zs i o:=fun hp=>hl ⟨(i,o),mem_pairs.2 ⟨hi,ho⟩,hp⟩
     omega
    have:=hmx (i,o) (List.mem_filter.2 ⟨mem_pairs.2 ⟨hi,ho⟩,by simpa using hneg⟩);simp only at this;grind
  ·have e0:dX zs 0 0=0:=by
    have h1:¬ 0<dX zs 0 0:=fun hp=>hl ⟨(0,0),mem_pairs.2 ⟨by omega,by omega⟩,hp⟩
    have h2:¬ dX zs 0 0<0:=fun hp=>hh ⟨(0,0),mem_pairs.2 ⟨by omega,by omega⟩,hp⟩
    omega
   have e1:dX zs 1 0=0:=by
    have h1:¬ 0<dX zs 1 0:=fun hp=>hl ⟨(1,0),mem_pairs.2 ⟨by omega,by omega⟩,hp⟩
    have h2:¬ dX zs 1 0<0:=fun hp=>hh ⟨(1,0),mem_pairs.2 ⟨by omega,by omega⟩,hp⟩
    omega
   unfold dX at e0 e1;simp at e0 e1;omega
end
namespace X
open Go.RowKit
def slLess (a b c d:Int):Bool:=decide (a*d<c*b)
def slMore (a b c d:Int):Bool:=slLess c d a b
def slB (a b:Int):Prop:=(-120≤a∧a≤120)∧(-120≤b∧b≤120)
def slOk (xs:List Int) (i:Nat):Prop:=slB (nth xs (i*2)) (nth xs (i*2+1))
def bestTo (bt:Int→Int→Int→Int→Bool) (xs:List Int):Nat→Int × Int
 | 0=>(nth xs 0,nth xs 1)
 | k+1=>if bt (nth xs ((k+1)*2)) (nth xs ((k+1)*2+1)) (bestTo bt xs k).1 (bestTo bt xs k).2=true then (nth xs ((k+1)*2),nth xs ((k+1)*2+1)) else bestTo bt xs k
theorem bestTo_t {bt:Int→Int→Int→Int→Bool} {xs:List Int} {k:Nat} (h:bt (nth xs ((k+1)*2)) (nth xs ((k+1)*2+1)) (bestTo bt xs k).1 (bestTo bt xs k).2=true):bestTo bt xs (k+1)=(nth xs ((k+1)*2),nth xs ((k+1)*2+1)):=by simp [bestTo,h]
theorem bestTo_f {bt:Int→Int→Int→Int→Bool} {xs:List Int} {k:Nat} (h:bt (nth xs ((k+1)*2)) (nth xs ((k+1)*2+1)) (bestTo bt xs k).1 (bestTo bt xs k).2=false):bestTo bt xs (k+1)=((bestTo bt xs k).1,(bestTo bt xs k).2):=by simp [bestTo,h]
theorem bestTo_ok (bt:Int→Int→Int→Int→Bool) {xs:List Int} {n:Nat} (h:∀ i,i<n→slOk xs i):∀ k,k<n→slB (bestTo bt xs k).1 (bestTo bt xs k).2
 | 0,hk=>h 0 hk
 | k+1,hk=>by
  have ih:=bestTo_ok bt h k (by omega);simp only [bestTo];split
  ·exact h (k+1) hk
  ·exact ih
theorem slopeLess_any (a b c d:Int) (w:World) (h1:slB a b) (h2:slB c d) :
  Calls Tryzx.prog 99 #[.agg #[.int .i64 a,.int .i64 b],.agg #[.int .i64 c,.int .i64 d]] w fun e w'=>e = .returned (.bool (slLess a b c d))∧Below w.heap.size w w':=by
 unfold slB at h1 h2;have m1:=mul_bd (m:=120) (n:=120) (a:=a) (b:=d) (by omega) (by omega);have m2:=mul_bd (m:=120) (n:=120) (a:=c) (b:=b) (by omega) (by omega);go_enter Tryzx.func99,Tryz.ntmps99;go_wp2;go_ret;exact ⟨rfl,((Below.refl _ _).alloc (Nat.le_refl _) _).alloc (by simp) _⟩
theorem slopeMore_any (a b c d:Int) (w:World) (h1:slB a b) (h2:slB c d) :
  Calls Tryzx.prog 98 #[.agg #[.int .i64 a,.int .i64 b],.agg #[.int .i64 c,.int .i64 d]] w fun e w'=>e = .returned (.bool (slMore a b c d))∧Below w.heap.size w w':=by
 have HB:=Lib.hid (((Below.refl w.heap.size w).alloc (Nat.le_refl _) (.cells #[.int .i64 a,.int .i64 b] 130)).alloc (by simp) (.cells #[.int .i64 c,.int .i64 d] 130));go_enter Tryzx.func98,Tryz.ntmps98;go_wp2_with fail
 refine (slopeLess_any c d a b _ h2 h1).mono ?_;rintro e w1 ⟨rfl,hb1⟩;have HB1:=Lib.hid (HB.out.trans (hb1.mono (by simp; omega)))
 clear hb1;go_wp2;go_ret;exact ⟨rfl,HB1.out⟩
set_option maxRecDepth 100000 in
set_option maxHeartbeats 1600000 in
theorem bestBy_any (FF:Nat) (bt:Int→Int→Int→Int→Bool) (hF:∀ (args:Array Value) (w:World),Sem.run Tryzx.prog (callFunc FF args) w = .ok (.enter FF args) w) (hcl:∀ (a b c d:Int) (w:World),slB a b→slB c d→Calls Tryzx.prog FF #[.agg #[.int .i64 a,.int .i64 b],.agg #[.int .i64 c,.int .i64 d]] w fun e w'=>e = .returned (.bool (bt a b c d))∧Below w.heap.size w w') (A:Option Addr) (n c:Nat) (xs:List Int) (w:World) (h:RecsAt w w.heap.size 2 A n xs) (hn:1≤n) (hn2:n≤1048576) (hc:n≤c) (hcm:c≤9223372036854775807) (hok:∀ i,i<n→slOk xs i) :
  Calls Tryzx.prog 97 #[.slice A n c,.func (.func FF) #[] #[]] w fun e w'=>e = .returned (.agg #[.int .i64 (bestTo bt xs (n - 1)).1,.int .i64 (bestTo bt xs (n - 1)).2])∧Below w.heap.size w w':=by
 obtain ⟨j,rfl⟩:∃ j,n=j+1:=⟨n - 1,by omega⟩;obtain ⟨b,off,rfl,hbB,hcell⟩:=h.2 (by omega);have x0:w.cell? ⟨b,off,none⟩=some (.int .i64 (nth xs 0)):=hcell 0 (by omega);have x1:w.cell? ⟨b,off+1,none⟩=some (.int .i64 (nth xs 1)):=hcell 1 (by omega);have HC:=Lib.hid hcell;have HOK:=Lib.hid hok;have HB0:=Lib.hid (((Below.refl w.heap.size w).alloc (Nat.le_refl _) (.cells #[.int .i64 0,.int .i64 0] 130)).alloc (by simp) (.cells #[.int .i64 (nth xs 0),.int .i64 (nth xs 1)] 130));have HR0:=Lib.hid ((RowF.of_row (World.rowIs_alloc w #[.int .i64 0,.int .i64 0] 130 (ints [0,0]) (fun i hi=>by simp at hi; match i,hi with | 0,_=>rfl | 1,_=>rfl))).alloc (.cells #[.int .i64 (nth xs 0),.int .i64 (nth xs 1)] 130))
 have HR1:Hid (RowF ((w.alloc (.cells #[.int .i64 0,.int .i64 0] 130)).alloc (.cells #[.int .i64 (nth xs 0),.int .i64 (nth xs 1)] 130)) (w.heap.size+1) 130 2 (ints [(bestTo bt xs 0).1,(bestTo bt xs 0).2])):=by
  have h:=RowF.of_row (World.rowIs_alloc (w.alloc (.cells #[.int .i64 0,.int .i64 0] 130)) #[.int .i64 (nth xs 0),.int .i64 (nth xs 1)] 130 (ints [nth xs 0,nth xs 1]) (fun i hi=>by simp at hi; match i,hi with | 0,_=>rfl | 1,_=>rfl))
  rw [World.size_alloc] at h;exact h
 have hbl:b<w.heap.size+1:=by omega
 have e1:((j+1:Nat):Int) - 1=(j:Int):=by omega
 clear h hcell hok;by_cases hc1:c=1
 ·obtain rfl:j=0:=by omega
  subst hc1;go_enter Tryzx.func97,Tryz.ntmps97;go_wp2;go_loopw [14] (fun i wr=>∃ k:Nat,k≤0∧i = .int .i64 k∧Hid (RowF wr w.heap.size 130 2 (ints [0,0]))∧Hid (RowF wr (w.heap.size+1) 130 2 (ints [(bestTo bt xs 0).1,(bestTo bt xs 0).2]))∧Hid (Below w.heap.size w wr)) (fun i _=>0 - (intOf i).toNat)
  case atStart=>exact ⟨0,Nat.zero_le _,rfl,HR0,HR1,HB0⟩
  case round =>
   clear HB0 HR0 HR1 x0 x1;obtain ⟨k,hk,rfl,HA,HQB,HBL⟩:=hrel;by_cases hlt:k<0
   ·omega
   ·obtain rfl:k=0:=by omega
    have c0:wr.cell? ⟨w.heap.size+1,0,none⟩=some (.int .i64 (bestTo bt xs 0).1):=HQB.out.cell (by omega);have c1:wr.cell? ⟨w.heap.size+1,1,none⟩=some (.int .i64 (bestTo bt xs 0).2):=HQB.out.cell (by omega);have d0:wr.cell? ⟨w.heap.size,0,none⟩=some (.int .i64 0):=HA.out.cell (by omega);have d1:wr.cell? ⟨w.heap.size,1,none⟩=some (.int .i64 0):=HA.out.cell (by omega);have f0:=HA.out.frozen 0;have f1:=HA.out.frozen 1;go_wp2;refine bodyPost_ret (v := .agg #[.int .i64 (bestTo bt xs 0).1,.int .i64 (bestTo bt xs 0).2]) (by simp [results,Tryz.results97,go_sem, *]) rfl ⟨by first | rfl | rw [Nat.add_sub_cancel],?_⟩;exact (HBL.out.setCell (p:=⟨w.heap.size,0,none⟩) (Nat.le_refl _) _).setCell (p:=⟨w.heap.size,1,none⟩) (Nat.le_refl _) _
 ·have hc2:1<c:=by omega
  have hc3:(1:Int)<(c:Int):=by omega
  clear hc1;go_enter Tryzx.func97,Tryz.ntmps97;go_wp2;go_loopw [14] (fun i wr=>∃ k:Nat,k≤j∧i = .int .i64 k∧Hid (RowF wr w.heap.size 130 2 (ints [0,0]))∧Hid (RowF wr (w.heap.size+1) 130 2 (ints [(bestTo bt xs k).1,(bestTo bt xs k).2]))∧Hid (Below w.heap.size w wr)) (fun i _=>j - (intOf i).toNat)
  case atStart=>exact ⟨0,Nat.zero_le _,rfl,HR0,HR1,HB0⟩
  case round =>
   clear HB0 HR0 HR1 x0 x1;obtain ⟨k,hk,rfl,HA,HQB,HBL⟩:=hrel;by_cases hlt:k<j
   ·have y0:wr.cell? ⟨b,off+2+k*2,none⟩=some (.int .i64 (nth xs ((k+1)*2))):=by
     have:=(HBL.out.cell (p:=⟨b,off+(k+1)*2,none⟩) hbB).trans (HC.out ((k+1)*2) (by omega));rwa [show off+(k+1)*2=off+2+k*2 by omega] at this
    have y1:wr.cell? ⟨b,off+2+k*2+1,none⟩=some (.int .i64 (nth xs ((k+1)*2+1))):=by
     have:=(HBL.out.cell (p:=⟨b,off+((k+1)*2+1),none⟩) hbB).trans (HC.out ((k+1)*2+1) (by omega));rwa [show off+((k+1)*2+1)=off+2+k*2+1 by omega] at this
    have hz:=HBL.out.size;have hgl:=HQB.out.lt;have c0:wr.cell? ⟨w.heap.size+1,0,none⟩=some (.int .i64 (bestTo bt xs k).1):=HQB.out.cell (by omega);have c1:wr.cell? ⟨w.heap.size+1,1,none⟩=some (.int .i64 (bestTo bt xs k).2):=HQB.out.cell (by omega);have hs1:=HOK.out (k+1) (by omega);have hs2:=bestTo_ok bt HOK.out k (by omega);unfold slOk at hs1;have TT:=Lib.hid (bestTo_t (bt:=bt) (xs:=xs) (k:=k));have TF:=Lib.hid (bestTo_f (bt:=bt) (xs:=xs) (k:=k));have HBA:=Lib.hid (HBL.out.alloc hz (.cells #[.int .i64 (nth xs ((k+1)*2)),.int .i64 (nth xs ((k+1)*2+1))] 130));have HAA:=Lib.hid (HA.out.alloc (.cells #[.int .i64 (nth xs ((k+1)*2)),.int .i64 (nth xs ((k+1)*2+1))] 130));have HBX:=Lib.hid (HQB.out.alloc (.cells #[.int .i64 (nth xs ((k+1)*2)),.int .i64 (nth xs ((k+1)*2+1))] 130));have HNX:=Lib.hid (RowF.of_row (World.rowIs_alloc wr #[.int .i64 (nth xs ((k+1)*2)),.int .i64 (nth xs ((k+1)*2+1))] 130 (ints [nth xs ((k+1)*2),nth xs ((k+1)*2+1)]) (fun i hi=>by simp at hi; match i,hi with | 0,_=>rfl | 1,_=>rfl)))
    clear HA HQB HBL;generalize nth xs ((k+1)*2)=p0 at *
    generalize nth xs ((k+1)*2+1)=p1 at *
    generalize (bestTo bt xs k).1=q0 at *
    generalize (bestTo bt xs k).2=q1 at *
    go_wp2_with fail
    refine (hcl p0 p1 q0 q1 _ hs1 hs2).mono ?_;rintro e w2 ⟨rfl,hb2⟩;have HB2:=Lib.hid (HBA.out.trans (hb2.mono (by simp; omega)))
    have HA2:=Lib.hid (HAA.out.after hb2);have HX2:=Lib.hid (HBX.out.after hb2);have rN:=HNX.out.after hb2;clear hb2 HBA HAA HBX HNX;cases hbt:bt p0 p1 q0 q1
    ·have HF:=Lib.hid (TF.out hbt)
     go_wp2;go_roundw
     case rel=>exact ⟨k+1,by omega,by go_num,HA2,by rw [HF.out]; exact HX2,HB2⟩
     case measure=>simp [intOf]; omega
    ·have HF:=Lib.hid (TT.out hbt)
     have n0:w2.cell? ⟨wr.heap.size,0,none⟩=some (.int .i64 p0):=rN.cell (by simp);have n1:w2.cell? ⟨wr.heap.size,1,none⟩=some (.int .i64 p1):=rN.cell (by simp);have b0:w2.cell? ⟨w.heap.size+1,0,none⟩=some (.int .i64 q0):=HX2.out.cell (by omega);have b1:w2.cell? ⟨w.heap.size+1,1,none⟩=some (.int .i64 q1):=HX2.out.cell (by omega);have g0:=HX2.out.frozen 0;have g1:=HX2.out.frozen 1;have HX3:=Lib.hid (((HX2.out.set 0 (.int .i64 p0)).set 1 (.int .i64 p1)).congr (f':=ints [p0,p1]) (fun i hi=>by match i,hi with | 0,_=>rfl | 1,_=>rfl));have HA3:=Lib.hid ((HA2.out.set_other (p:=⟨w.heap.size+1,0,none⟩) (by simp) (.int .i64 p0)).set_other (p:=⟨w.heap.size+1,1,none⟩) (by simp) (.int .i64 p1));have HB3:=Lib.hid ((HB2.out.setCell (p:=⟨w.heap.size+1,0,none⟩) (by simp) (.int .i64 p0)).setCell (p:=⟨w.heap.size+1,1,none⟩) (by simp) (.int .i64 p1));clear rN;go_wp2;go_roundw
     case rel=>exact ⟨k+1,by omega,by go_num,HA3,by rw [HF.out]; exact HX3,HB3⟩
     case measure=>simp [intOf]; omega
   ·obtain rfl:k=j:=by omega
    have c0:wr.cell? ⟨w.heap.size+1,0,none⟩=some (.int .i64 (bestTo bt xs k).1):=HQB.out.cell (by omega);have c1:wr.cell? ⟨w.heap.size+1,1,none⟩=some (.int .i64 (bestTo bt xs k).2):=HQB.out.cell (by omega);have d0:wr.cell? ⟨w.heap.size,0,none⟩=some (.int .i64 0):=HA.out.cell (by omega);have d1:wr.cell? ⟨w.heap.size,1,none⟩=some (.int .i64 0):=HA.out.cell (by omega);have f0:=HA.out.frozen 0;have f1:=HA.out.frozen 1;go_wp2;refine bodyPost_ret (v := .agg #[.int .i64 (bestTo bt xs k).1,.int .i64 (bestTo bt xs k).2]) (by simp [results,Tryz.results97,go_sem, *]) rfl ⟨by first | rfl | rw [Nat.add_sub_cancel],?_⟩;exact (HBL.out.setCell (p:=⟨w.heap.size,0,none⟩) (Nat.le_refl _) _).setCell (p:=⟨w.heap.size,1,none⟩) (Nat.le_refl _) _
theorem bestLess_any (A:Option Addr) (n c:Nat) (xs:List Int) (w:World) (h:RecsAt w w.heap.size 2 A n xs) (hn:1≤n) (hn2:n≤1048576) (hc:n≤c) (hcm:c≤9223372036854775807) (hok:∀ i,i<n→slOk xs i) :
  Calls Tryzx.prog 97 #[.slice A n c,.func (.func 99) #[] #[]] w fun e w'=>e = .returned (.agg #[.int .i64 (bestTo slLess xs (n - 1)).1,.int .i64 (bestTo slLess xs (n - 1)).2])∧Below w.heap.size w w' :=
 bestBy_any 99 slLess (fun args w=>by simp) slopeLess_any A n c xs w h hn hn2 hc hcm hok
theorem bestMore_any (A:Option Addr) (n c:Nat) (xs:List Int) (w:World) (h:RecsAt w w.heap.size 2 A n xs) (hn:1≤n) (hn2:n≤1048576) (hc:n≤c) (hcm:c≤9223372036854775807) (hok:∀ i,i<n→slOk xs i) :
  Calls Tryzx.prog 97 #[.slice A n c,.func (.func 98) #[] #[]] w fun e w'=>e = .returned (.agg #[.int .i64 (bestTo slMore xs (n - 1)).1,.int .i64 (bestTo slMore xs (n - 1)).2])∧Below w.heap.size w w' :=
 bestBy_any 98 slMore (fun args w=>by simp) slopeMore_any A n c xs w h hn hn2 hc hcm hok
end X
namespace X
section
variable {zs : List Int} {n : Nat}
def lowTo (zs:List Int) (n:Nat):Nat→List Int
 | 0 => []
 | t+1=>if 0<dX zs (t / n) (t % n) then lowTo zs n t ++ [dY zs (t / n) (t % n),dX zs (t / n) (t % n)] else lowTo zs n t
def lowN (zs:List Int) (n:Nat):Nat→Nat
 | 0=>0
 | t+1=>if 0<dX zs (t / n) (t % n) then lowN zs n t+1 else lowN zs n t
def highTo (zs:List Int) (n:Nat):Nat→List Int
 | 0 => []
 | t+1=>if dX zs (t / n) (t % n)<0 then highTo zs n t ++ [-dY zs (t / n) (t % n),-dX zs (t / n) (t % n)] else highTo zs n t
def highN (zs:List Int) (n:Nat):Nat→Nat
 | 0=>0
 | t+1=>if dX zs (t / n) (t % n)<0 then highN zs n t+1 else highN zs n t
theorem lowN_le:∀ t,lowN zs n t≤t
 | 0=>Nat.le_refl _
 | t+1=>by have:=lowN_le t; simp only [lowN]; split <;> omega
theorem highN_le:∀ t,highN zs n t≤t
 | 0=>Nat.le_refl _
 | t+1=>by have:=highN_le t; simp only [highN]; split <;> omega
theorem lowTo_len:∀ t,(lowTo zs n t).length=lowN zs n t*2
 | 0=>rfl
 | t+1=>by have:=lowTo_len t; simp only [lowTo,lowN]; split <;> (try rw [List.length_append,List.length_cons,List.length_cons,List.length_nil]) <;> omega
theorem highTo_len:∀ t,(highTo zs n t).length=highN zs n t*2
 | 0=>rfl
 | t+1=>by have:=highTo_len t; simp only [highTo,highN]; split <;> (try rw [List.length_append,List.length_cons,List.length_cons,List.length_nil]) <;> omega
theorem nth_app_lt {xs ys:List Int} {k:Nat} (h:k<xs.length):nth (xs ++ ys) k=nth xs k:=by simp [nth,List.getD,List.getElem?_append_left h]
theorem nth_app_0 {xs:List Int} {k:Nat} {a b:Int} (h:xs.length=k):nth (xs ++ [a,b]) k=a:=by subst h; simp [nth,List.getD]
theorem nth_app_1 {xs:List Int} {k:Nat} {a b:Int} (h:xs.length=k):nth (xs ++ [a,b]) (k+1)=b:=by subst h; simp [nth,List.getD]
theorem low_from:∀ t j,j<lowN zs n t→∃ s,s<t∧0<dX zs (s / n) (s % n)∧nth (lowTo zs n t) (j*2)=dY zs (s / n) (s % n)∧nth (lowTo zs n t) (j*2+1)=dX zs (s / n) (s % n)
 | 0,j,hj=>absurd hj (by simp [lowN])
 | t+1,j,hj=>by
  have hl:=lowTo_len (zs:=zs) (n:=n) t;by_cases hd:0<dX zs (t / n) (t % n)
  ·simp only [lowN,hd,if_true] at hj
   simp only [lowTo,hd,if_true];by_cases e:j=lowN zs n t
   ·exact ⟨t,by omega,hd,nth_app_0 (by omega),nth_app_1 (by omega)⟩
   ·obtain ⟨s,h1,h2,h3,h4⟩:=low_from t j (by omega)
    exact ⟨s,by omega,h2,by rw [nth_app_lt (by omega)]; exact h3,by rw [nth_app_lt (by omega)]; exact h4⟩
  ·simp only [lowN,hd,if_false] at hj
   simp only [lowTo,hd,if_false];obtain ⟨s,h1,h2⟩:=low_from t j hj;exact ⟨s,by omega,h2⟩
theorem low_has:∀ t s,s<t→0<dX zs (s / n) (s % n)→∃ j,j<lowN zs n t∧nth (lowTo zs n t) (j*2)=dY zs (s / n) (s % n)∧nth (lowTo zs n t) (j*2+1)=dX zs (s / n) (s % n)
 | 0,s,hs,_=>absurd hs (by omega)
 | t+1,s,hs,hp=>by
  have hl:=lowTo_len (zs:=zs) (n:=n) t;by_cases e:s=t
  ·subst e
   refine ⟨lowN zs n s,by simp [lowN,hp],?_,?_⟩
   ·simp only [lowTo,hp,if_true]; exact nth_app_0 (by omega)
   ·simp only [lowTo,hp,if_true]; exact nth_app_1 (by omega)
  ·obtain ⟨j,h1,h2,h3⟩:=low_has t s (by omega) hp
   by_cases hd:0<dX zs (t / n) (t % n)
   ·refine ⟨j,by simp only [lowN,hd,if_true]; omega,?_,?_⟩
    ·simp only [lowTo,hd,if_true]; rw [nth_app_lt (by omega)]; exact h2
    ·simp only [lowTo,hd,if_true]; rw [nth_app_lt (by omega)]; exact h3
   ·exact ⟨j,by simp only [lowN,hd,if_false]; exact h1,by simp only [lowTo,hd,if_false]; exact h2,by simp only [lowTo,hd,if_false]; exact h3⟩
theorem high_from:∀ t j,j<highN zs n t→∃ s,s<t∧dX zs (s / n) (s % n)<0∧nth (highTo zs n t) (j*2) = -dY zs (s / n) (s % n)∧nth (highTo zs n t) (j*2+1) = -dX zs (s / n) (s % n)
 | 0,j,hj=>absurd hj (by simp [highN])
 | t+1,j,hj=>by
  have hl:=highTo_len (zs:=zs) (n:=n) t;by_cases hd:dX zs (t / n) (t % n)<0
  ·simp only [highN,hd,if_true] at hj
   simp only [highTo,hd,if_true];by_cases e:j=highN zs n t
   ·exact ⟨t,by omega,hd,nth_app_0 (by omega),nth_app_1 (by omega)⟩
   ·obtain ⟨s,h1,h2,h3,h4⟩:=high_from t j (by omega)
    exact ⟨s,by omega,h2,by rw [nth_app_lt (by omega)]; exact h3,by rw [nth_app_lt (by omega)]; exact h4⟩
  ·simp only [highN,hd,if_false] at hj
   simp only [highTo,hd,if_false];obtain ⟨s,h1,h2⟩:=high_from t j hj;exact ⟨s,by omega,h2⟩
theorem high_has:∀ t s,s<t→dX zs (s / n) (s % n)<0→∃ j,j<highN zs n t∧nth (highTo zs n t) (j*2) = -dY zs (s / n) (s % n)∧nth (highTo zs n t) (j*2+1) = -dX zs (s / n) (s % n)
 | 0,s,hs,_=>absurd hs (by omega)
 | t+1,s,hs,hp=>by
  have hl:=highTo_len (zs:=zs) (n:=n) t;by_cases e:s=t
  ·subst e
   refine ⟨highN zs n s,by simp [highN,hp],?_,?_⟩
   ·simp only [highTo,hp,if_true]; exact nth_app_0 (by omega)
   ·simp only [highTo,hp,if_true]; exact nth_app_1 (by omega)
  ·obtain ⟨j,h1,h2,h3⟩:=high_has t s (by omega) hp
   by_cases hd:dX zs (t / n) (t % n)<0
   ·refine ⟨j,by simp only [highN,hd,if_true]; omega,?_,?_⟩
    ·simp only [highTo,hd,if_true]; rw [nth_app_lt (by omega)]; exact h2
    ·simp only [highTo,hd,if_true]; rw [nth_app_lt (by omega)]; exact h3
   ·exact ⟨j,by simp only [highN,hd,if_false]; exact h1,by simp only [highTo,hd,if_false]; exact h2,by simp only [highTo,hd,if_false]; exact h3⟩
end
theorem sl_trans {a b c d e f:Int} (hd:0<d) (hb:0<b) (hf:0<f) (h1:a*d≤c*b) (h2:c*f≤e*d):a*f≤e*b:=by
 have m1:a*d*f≤c*b*f:=Int.mul_le_mul_of_nonneg_right h1 (by omega);have m2:c*f*b≤e*d*b:=Int.mul_le_mul_of_nonneg_right h2 (by omega);have m3:d*(a*f)≤d*(e*b):=by grind
 exact Int.le_of_mul_le_mul_left m3 hd
section
variable {xs : List Int}
theorem best_in (bt:Int→Int→Int→Int→Bool):∀ k,∃ j,j≤k∧bestTo bt xs k=(nth xs (j*2),nth xs (j*2+1))
 | 0=>⟨0,Nat.le_refl _,rfl⟩
 | k+1=>by
  obtain ⟨j,hj,e⟩:=best_in bt k;simp only [bestTo];split
  ·exact ⟨k+1,Nat.le_refl _,rfl⟩
  ·exact ⟨j,by omega,e⟩
theorem best_more {n : Nat} (hd : ∀ j, j < n → 0 < nth xs (j * 2 + 1)) : ∀ k, k < n → ∀ j, j ≤ k → nth xs (j * 2) * (bestTo slMore xs k).2 ≤ (bestTo slMore xs k).1 * nth xs (j * 2 + 1)
  | 0, _, j, hj => by obtain rfl : j = 0 := by omega
                      exact Int.le_refl _
  | k + 1, hk, j, hj => by
    have ih := best_more hd k (by omega);obtain ⟨m, hm, em⟩ := best_in slMore (xs := xs) k;have dm := hd m (by omega);cases hb : slMore (nth xs ((k + 1) * 2)) (nth xs ((k + 1) * 2 + 1)) (bestTo slMore xs k).1 (bestTo slMore xs k).2
    · rw [bestTo_f hb]
      by_cases e : j = k + 1
      · subst e
        simp [slMore, slLess] at hb;exact hb
      · exact ih j (by omega)
    · rw [bestTo_t hb]
      by_cases e : j = k + 1
      · subst e; exact Int.le_refl _
      · have h1 := ih j (by omega)
        have h2 : (bestTo slMore xs k).1 * nth xs ((k + 1) * 2 + 1) ≤ nth xs ((k + 1) * 2) * (bestTo slMore xs k).2 := by
          simp [slMore, slLess] at hb;omega
        rw [em] at h1 h2;exact sl_trans dm (hd j (by omega)) (hd (k + 1) hk) h1 h2
theorem best_less {n : Nat} (hd : ∀ j, j < n → 0 < nth xs (j * 2 + 1)) : ∀ k, k < n → ∀ j, j ≤ k → (bestTo slLess xs k).1 * nth xs (j * 2 + 1) ≤ nth xs (j * 2) * (bestTo slLess xs k).2
  | 0, _, j, hj => by obtain rfl : j = 0 := by omega
                      exact Int.le_refl _
  | k + 1, hk, j, hj => by
    have ih := best_less hd k (by omega);obtain ⟨m, hm, em⟩ := best_in slLess (xs := xs) k;have dm := hd m (by omega);cases hb : slLess (nth xs ((k + 1) * 2)) (nth xs ((k + 1) * 2 + 1)) (bestTo slLess xs k).1 (bestTo slLess xs k).2
    · rw [bestTo_f hb]
      by_cases e : j = k + 1
      · subst e
        simp [slLess] at hb;exact hb
      · exact ih j (by omega)
    · rw [bestTo_t hb]
      by_cases e : j = k + 1
      · subst e; exact Int.le_refl _
      · have h1 := ih j (by omega)
        have h2 : nth xs ((k + 1) * 2) * (bestTo slLess xs k).2 ≤ (bestTo slLess xs k).1 * nth xs ((k + 1) * 2 + 1) := by
          simp [slLess] at hb;omega
        rw [em] at h1 h2;exact sl_trans dm (hd (k + 1) hk) (hd j (by omega)) h2 h1
end
def noBad (zs:List Int) (n t:Nat):Prop:=∀ s,s<t→dX zs (s / n) (s % n)=0→dY zs (s / n) (s % n)≤0
theorem divmod {n i o:Nat} (ho:o<n):(i*n+o) / n=i∧(i*n+o) % n=o:=by
 constructor
 ·rw [Nat.mul_comm,Nat.mul_add_div (by omega),Nat.div_eq_of_lt ho,Nat.add_zero]
 ·rw [Nat.mul_comm,Nat.mul_add_mod,Nat.mod_eq_of_lt ho]
theorem pair_lt {n i o:Nat} (hi:i<n) (ho:o<n):i*n+o<n*n:=by
 have:(i+1)*n≤n*n:=Nat.mul_le_mul_right _ hi;rw [Nat.add_mul] at this;omega
theorem pair_of {n s:Nat} (hs:s<n*n):s / n<n∧s % n<n:=by
 have hn:0<n:=by
  rcases Nat.eq_zero_or_pos n with rfl | h
  ·simp at hs
  ·exact h
 exact ⟨Nat.div_lt_of_lt_mul hs,Nat.mod_lt _ hn⟩
theorem not_strI_bad {zs:List Int} {n s:Nat} (hs:s<n*n) (h1:dX zs (s / n) (s % n)=0) (h2:0<dY zs (s / n) (s % n)):¬ StrI zs n:=by
 intro h;have hp:=pair_of hs;have:=h.1 _ _ hp.1 hp.2 h1;omega
theorem strI_first {zs:List Int} {n:Nat} (h:noBad zs n (n*n)):∀ i o,i<n→o<n→dX zs i o=0→dY zs i o≤0:=by
 intro i o hi ho e;have hd:=divmod (i:=i) ho;have:=h (i*n+o) (pair_lt hi ho);rw [hd.1,hd.2] at this;exact this e
theorem strI_noLow {zs:List Int} {n:Nat} (h:noBad zs n (n*n)) (h0:lowN zs n (n*n)=0):StrI zs n:=by
 refine ⟨strI_first h,fun i o i' o' hi ho _ _ hp _ => ?_⟩;have hd:=divmod (i:=i) ho;obtain ⟨j,hj,_⟩:=low_has (zs:=zs) (n:=n) (n*n) (i*n+o) (pair_lt hi ho) (by rw [hd.1,hd.2]; exact hp);omega
theorem strI_noHigh {zs:List Int} {n:Nat} (h:noBad zs n (n*n)) (h0:highN zs n (n*n)=0):StrI zs n:=by
 refine ⟨strI_first h,fun i o i' o' _ _ hi ho _ hp => ?_⟩;have hd:=divmod (i:=i') ho;obtain ⟨j,hj,_⟩:=high_has (zs:=zs) (n:=n) (n*n) (i'*n+o') (pair_lt hi ho) (by rw [hd.1,hd.2]; exact hp);omega
theorem strI_both {zs:List Int} {n a b:Nat} (h:noBad zs n (n*n)) (ha:lowN zs n (n*n)=a+1) (hb:highN zs n (n*n)=b+1) :
  (slLess (bestTo slLess (highTo zs n (n*n)) b).1 (bestTo slLess (highTo zs n (n*n)) b).2 (bestTo slMore (lowTo zs n (n*n)) a).1 (bestTo slMore (lowTo zs n (n*n)) a).2=false) ↔ StrI zs n:=by
 have dl:∀ j,j<a+1→0<nth (lowTo zs n (n*n)) (j*2+1):=fun j hj=>by
  obtain ⟨s,_,h1,_,h2⟩:=low_from (zs:=zs) (n:=n) (n*n) j (by omega);rw [h2]; exact h1
 have dh:∀ j,j<b+1→0<nth (highTo zs n (n*n)) (j*2+1):=fun j hj=>by
  obtain ⟨s,_,h1,_,h2⟩:=high_from (zs:=zs) (n:=n) (n*n) j (by omega);rw [h2]; omega
 obtain ⟨jl,hjl,el⟩:=best_in slMore (xs:=lowTo zs n (n*n)) a;obtain ⟨jh,hjh,eh⟩:=best_in slLess (xs:=highTo zs n (n*n)) b;have ml:=best_more dl a (by omega);have mh:=best_less dh b (by omega);rw [el] at ml;rw [eh] at mh;rw [el,eh];simp only [slLess,decide_eq_false_iff_not,Int.not_lt];constructor
 ·intro hh
  refine ⟨strI_first h,fun i o i' o' hi ho hi' ho' hp hq => ?_⟩;have hd:=divmod (i:=i) ho;have hd':=divmod (i:=i') ho';obtain ⟨j,hj,e1,e2⟩:=low_has (zs:=zs) (n:=n) (n*n) (i*n+o) (pair_lt hi ho) (by rw [hd.1,hd.2]; exact hp);obtain ⟨j',hj',e1',e2'⟩:=high_has (zs:=zs) (n:=n) (n*n) (i'*n+o') (pair_lt hi' ho') (by rw [hd'.1,hd'.2]; exact hq);rw [hd.1,hd.2] at e1 e2;rw [hd'.1,hd'.2] at e1' e2';have k1:=ml j (by omega);have k2:=mh j' (by omega);have d1:=dl j (by omega);have d2:=dl jl (by omega);have d3:=dh jh (by omega);have d4:=dh j' (by omega);have k3:=sl_trans d2 d1 d3 k1 hh;have k4:=sl_trans d3 d1 d4 k3 k2;rw [e1,e2,e1',e2'] at k4;exact k4
 ·intro hS
  obtain ⟨s,hs,h1,h2,h3⟩:=low_from (zs:=zs) (n:=n) (n*n) jl (by omega);obtain ⟨s',hs',h1',h2',h3'⟩:=high_from (zs:=zs) (n:=n) (n*n) jh (by omega);have p:=pair_of hs;have p':=pair_of hs';have:=hS.2 _ _ _ _ p.1 p.2 p'.1 p'.2 h1 h1';rw [h2,h3,h2',h3'];exact this
end X
section
open Go.RowKit
theorem OwnR.cap {w:World} {base:Nat} {E:TypeId} {K n:Nat} {A:Option Addr} {c:Nat} {xs:List Int} (h:OwnR w base E K (.slice A n c) n xs):c≤9223372036854775807:=by
 rcases h.1.2 with ⟨h1,_⟩ | ⟨g,cap,cur,h1,_,_,_,h5,_⟩
 ·simp at h1; omega
 ·simp at h1
  unfold maxLen at h5;omega
end
end Go.Proofs.YtodneggnnipcnaaGreat
