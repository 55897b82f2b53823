/-
  Contracts: cutting pieces in order, in the reference and in the program.
-/
import Derived.Test.YtplabaneihjcoaaWSizes
import Derived.Test.YtplabaneihjcoaaOwn
namespace Go.Proofs.Ytplabaneihjcoaa
open Go.RowKit

theorem grown_below {B : Nat} {a w w' : World} {v : Value} {xs : List Int} {base : Nat} {E : TypeId} (hb : Below B a w) (hg : w.grownBy w' v.ownBlock) (hown : OwnV w base E v xs) (hB : B ≤ w.heap.size) (h : B ≤ base) : Below B a w' :=
  hb.grown hg hB (fun k hk => Nat.le_trans h (hown.ownLt k hk))

theorem set_last (xs : List Int) (a b : Int) : (xs ++ [a]).set xs.length b = xs ++ [b] := by simp
theorem nth_last (xs : List Int) (a : Int) : nth (xs ++ [a]) xs.length = a := by simp [nth]

set_option maxHeartbeats 1000000 in
theorem iCutInOrder_any (A : Option Addr) (n c : Nat) (zs : List Int) (len : Int) (w : World) (h : IntsAt w w.heap.size A n zs) (hn : n ≤ 1048576) :
    Calls Try.prog 27 #[.slice A n c, .int .i64 len] w fun e w' => e = .returned (.int .i64 (cutN zs len)) ∧ Below w.heap.size w w' := by
  cases hok : okB zs len
  · have HF := Lib.hid (cutN_f hok)
    go_enter Try.func27, Try.ntmps27
    go_wp2_with (go_at_call 58; refine (sizesOk_any _ _ _ zs _ _ h hn).mono ?_; rintro e w' ⟨rfl, rfl⟩)
    go_ret
    exact ⟨ret_int HF.out.symm, Below.refl _ _⟩
  have HF := Lib.hid (cutN_t hok)
  have HBD := Lib.hid (cutRoom_bd hok)
  obtain ⟨⟨l1, l2⟩, l3, l4⟩ := okB_out hok
  have H := Lib.hid h
  rw [h.1] at l3
  have HZ := Lib.hid l4
  have h' := h
  clear h l4
  have hmk := fun W => run_make_zero (P := Try.prog) 25 3 Try.underlying25 infoInt n (by omega) W
  go_enter Try.func27, Try.ntmps27
  go_wp2_with (go_at_call 58; refine (sizesOk_any _ _ _ zs _ _ h' hn).mono ?_; rintro e w' ⟨rfl, rfl⟩)
  clear h' hok hmk
  go_loopw [5, 18, 7] (fun v i _ wr => ∃ (k g cap : Nat), k ≤ n ∧ i = .int .i64 k ∧ v = .slice (some ⟨g, 0, none⟩) (cutRoom len zs k).length cap ∧ OwnI wr w.heap.size 3 g cap (cutRoom len zs k) ∧ Below w.heap.size w wr) (fun _ i _ _ => n - (intOf i).toNat)
  case atStart => exact ⟨0, _, _, Nat.zero_le _, rfl, rfl, OwnI.made _ _ _ (by unfold maxLen; omega), (Below.refl _ _).alloc (Nat.le_refl _) _⟩
  case round =>
    obtain ⟨k, g, cap, hk, rfl, rfl, hown, hb⟩ := hrel
    by_cases hlt : k < n
    · obtain ⟨b, off, rfl, hbB, hc⟩ := H.out.2 (by omega)
      have hck := hc k hlt
      have hbd := HBD.out k (by rw [H.out.1]; omega)
      have hzk := HZ.out k (by rw [H.out.1]; omega)
      have HS : Hid (cutRoom len zs (k + 1) = cutStep len (cutRoom len zs k) (nth zs k)) := rfl
      generalize nth zs k = z at *
      generalize cutRoom len zs k = rm at *
      obtain ⟨hrl, hrb⟩ := hbd
      have HRB := Lib.hid hrb
      obtain ⟨hz1, hz2⟩ := hzk
      clear hc hrb
      have hcz0 : wr.cell? ⟨b, off + k, none⟩ = some (.int .i64 z) := (hb.cell (by exact hbB)).trans hck
      obtain ⟨wo, rfl⟩ : ∃ wo : World, wo = wr := ⟨_, rfl⟩
      go_wp2
      clear hcz0
      go_loopw [8] (fun a wi => ∃ j : Nat, j ≤ rm.length ∧ a = .int .i64 j ∧ lowTo rm z j ∧ OwnI wi w.heap.size 3 g cap rm ∧ Below w.heap.size w wi) (fun a _ => rm.length - (intOf a).toNat)
      case atStart => exact ⟨0, Nat.zero_le _, rfl, lowTo_0 _ _, hown, hb⟩
      case round =>
        clear hown hb
        obtain ⟨j, hj, rfl, hlow, hown, hb⟩ := hrel
        have hg := hown.blk
        by_cases hjl : j < rm.length
        · have hcr : wr.cell? ⟨g, j, none⟩ = some (.int .i64 (nth rm j)) := hown.cell hjl
          have hfr : wr.frozen? ⟨g, j, none⟩ = false := hown.frozen j
          have hrj := HRB.out _ (nth_mem hjl)
          by_cases hlw : nth rm j < z
          · have HL := Lib.hid (lowTo_step hlow hlw)
            have HO := Lib.hid hown
            have HB := Lib.hid hb
            clear hlow hown hb
            go_wp2
            go_roundw
            case rel => exact ⟨j + 1, by omega, by go_num, HL.out, HO.out, HB.out⟩
            case measure => simp [intOf]; omega
          · have HFT := Lib.hid (cutStep_in (len := len) (fit_eq hlow hj (fun _ => by omega)) hjl)
            have hd : decide (nth rm j < z) = false := decide_eq_false hlw
            have hne : ((j : Int) == (rm.length : Int)) = false := by simp; omega
            have HO := Lib.hid hown
            have HB := Lib.hid hb
            clear hlow hown hb
            go_wp2
            go_roundw
            case rel => exact ⟨k + 1, g, cap, by omega, by go_num, by rw [HS.out, HFT.out, List.length_set], by rw [HS.out, HFT.out]; exact HO.out.set j _, HB.out.setCell hg.1 _⟩
            case measure => simp [intOf]; omega
        · have hje : j = rm.length := by omega
          subst hje
          have HFT := Lib.hid (cutStep_new (len := len) (fit_eq hlow hj (fun h => absurd h (by omega))))
          have hd : decide (rm.length < rm.length) = false := decide_eq_false (by omega)
          have he : ((rm.length : Int) == (rm.length : Int)) = true := by simp
          have hcap := hown.cap
          have HB := Lib.hid hb
          have HO := Lib.hid hown
          clear hlow hown hb
          go_wp2_with (at_builtin; refine wpList_regrow_int _ rfl _ _ 25 rfl w.heap.size 3 Try.underlying25 infoInt g cap rm rfl (HO.out.alloc _) _ _ len rfl ?hc1 ?hc2 ?hc3 ?_)
          case hc1 => exact cell_new1 _ _ _
          case hc2 => omega
          case hc3 => have := HB.out.size; simp; omega
          intro g' cap' w1 hown1 hgr1
          have hb1 : Below w.heap.size w w1 := (HB.out.alloc HB.out.size _).grown hgr1 (by have := HB.out.size; simp; omega) (fun k hk => by cases hk)
          have hcz1 : w1.cell? ⟨b, off + k, none⟩ = some (.int .i64 z) := (hb1.cell (by exact hbB)).trans hck
          have hcr1 : w1.cell? ⟨g', rm.length, none⟩ = some (.int .i64 len) := by rw [hown1.cell (by simp), nth_last]
          have hfr1 : w1.frozen? ⟨g', rm.length, none⟩ = false := hown1.frozen _
          have hg1 := hown1.blk
          have HB1 := Lib.hid hb1
          have HO1 := Lib.hid hown1
          clear hown1 hgr1 hb1
          go_wp2
          go_roundw
          case rel => exact ⟨k + 1, g', cap', by omega, by go_num, by rw [HS.out, HFT.out]; simp, by rw [HS.out, HFT.out, ← set_last rm len]; exact HO1.out.set _ _, HB1.out.setCell hg1.1 _⟩
          case measure => simp [intOf]; omega
    · have hkn : k = n := by omega
      subst hkn
      go_wp2
      go_ret
      exact ⟨ret_int (by rw [HF.out, H.out.1]), hb⟩

end Go.Proofs.Ytplabaneihjcoaa
