/-
  Contract: BusiestMark in the program: sums in a map, and a range over it.
-/
import Derived.Test.YtplabaneihjcoaaWWeightI
import Derived.Test.YtplabaneihjcoaaPBusy
import Derived.Test.YtplabaneihjcoaaHeld
import Derived.Test.YtplabaneihjcoaaLawKit
namespace Go.Proofs.Ytplabaneihjcoaa
open Go.RowKit Go.Maps
set_option linter.unusedSimpArgs false

theorem lawInt : Keyed Try.prog 3 := int_keyed Try.underlying3
theorem zeroInt (w : World) : (zeroValue 3).run Try.prog w = .ok (.int .i64 0) w := by kernel_rfl
theorem wf_in {x : Int} (h : -9223372036854775808 ≤ x ∧ x ≤ 9223372036854775807) : (Lit.int .i64 x).wf = true := by
  simp [Lit.wf, IntKind.min, IntKind.max, IntKind.signed, IntKind.bits]
  omega
/-- 'm[k] = v' inside a region that draws its order. -/
theorem step_mapUpdate {H : Type} {P : Program} {ops : Array Oper} {w : World} {o : Oper} {a : Act} {K : Act → World → Prop} {Q : Exit → Act → World → Prop} {F : Prop}
    (hg : o.guard = none) (m x v : Operand) (t : TypeId) (hop : o.op = Op.mapUpdate t m x v)
    (k e : TypeId) (Ky : Keyed P k) (ht : P.underlying t = some (.map k e)) (R : Value → Option (DataW H × List MemPlace)) (b n : Nat) (D : DataW H)
    (hm : a.eval m = .map (some b)) (hown : w.ownsMap P k R b n D) (hn : n < maxLen) (key val : Value) (kl : Lit) (hx : a.eval x = key) (hv : a.eval v = val) (hkey : keyOf P k key = some kl)
    (d : DataW H) (ps : List MemPlace) (hval : R val = some (d, ps))
    (hK : ∀ w', w'.ownsMap P k R b (n + 1) (D.put kl d) → w.grownBy w' (some b) → K (a.put o.dst undef) w') : if Region.wanted o (yielded ops a.tmps) = true then Oper.wp P o a w K Q else F := by
  have hw : Region.wanted o (yielded ops a.tmps) = true := by simp [Region.wanted, hg]
  rw [if_pos hw]
  obtain ⟨w', hrun, r1, r2⟩ := hown.update Ky ht hn hkey hval
  unfold Oper.wp
  simp [execOp, hop, hm, hx, hv, hrun, Result.andThen, Oper.upon]
  exact hK w' r1 r2
/-- What a look-up in the map of the sums yields. -/
theorem sums_look {w : World} {L : List (Nat × List Int)} {ms : List Int} {b k n : Nat} (h : w.ownsMap Try.prog 3 (plainElem Try.prog 3) b n (sumsD L ms k)) (x : Int) (hx : -9223372036854775808 ≤ x ∧ x ≤ 9223372036854775807) :
    (Instr.lookup 64 (.map (some b)) (.int .i64 x) false).run Try.prog w = .ok (.int .i64 (sumM L ms x k)) w := by
  obtain ⟨c, hrun, hat, _⟩ := h.lookup_int lawInt Try.underlying64 Try.underlying3 (zeroInt _) (keyOf_int_mk Try.underlying3 (wf_in hx))
  have : c = sumM L ms x k := elI_inj (hat.symm.trans (sumsD_at L ms x k))
  rw [hrun, this]
theorem sameKey_self (x : Int) : (keyL x).sameKey (keyL x) = true := by simp [keyL, Lit.sameKey]
theorem left_step {left : Lit → Bool} {ms : List Int} {n : Nat} {x : Int} (hx : Bears ms x n) (m : Int) :
    ((Bears ms m n ∧ left (keyL m) = false) ∨ m = x) ↔ (Bears ms m n ∧ (left (keyL m) && !(keyL m).sameKey (.int .i64 x)) = false) := by
  by_cases e : m = x
  · subst e
    have : (keyL m).sameKey (.int .i64 m) = true := sameKey_self m
    simp [this, hx]
  · have : (keyL m).sameKey (.int .i64 x) = false := sameKey_ne (keyL_ne e)
    simp [this, e]

set_option maxRecDepth 100000 in
set_option maxHeartbeats 3200000 in
theorem iBusiest_any (A : Option Addr) (n c : Nat) (L : List (Nat × List Int)) (B : Option Addr) (q d : Nat) (ms : List Int) (w : World) (h : NestAt w w.heap.size 2 A n L) (hi : IntsAt w w.heap.size B q ms) (hq : q ≤ 1048576) (hn : n ≤ 1048576) :
    Calls Try.prog 10 #[.slice A n c, .slice B q d] w fun e w' => e = .returned (.int .i64 (busyI L n ms q)) ∧ Below w.heap.size w w' := by
  cases hp : marksB L n ms q
  · have HF := Lib.hid (busyI_f hp)
    go_enter Try.func10, Try.ntmps10
    go_wp2_with fail
    refine (iMarksOk_any _ _ _ L _ _ _ ms _ h hi hq hn).mono ?_
    rw [hp]
    rintro e w1 ⟨rfl, hb1⟩
    go_wp2
    go_ret
    exact ⟨ret_int HF.out.symm, hb1⟩
  · have hmk := marksB_out hp
    have hn12 := hmk.1
    obtain rfl := hmk.2.1
    have H := Lib.hid h
    have HI := Lib.hid hi
    have HMR : Hid (∀ i, i < q → 1 ≤ nth ms i ∧ nth ms i ≤ 9) := fun i hi => by
      have := hmk.2.2 i hi
      simp only [marksAt, Bool.and_eq_true, inB_iff] at this
      exact this.2
    have HEND : Hid (∀ b, BusySeen L ms q (fun m => Bears ms m q) b → busyI L q ms q = b) := fun b hb => busySeen_end hp hb
    have hmm := @run_makeMap Try.prog
    clear hmk
    go_enter Try.func10, Try.ntmps10
    go_wp2_with fail
    refine (iMarksOk_any _ _ _ L _ _ _ ms _ h hi hq hn).mono ?_
    rw [hp]
    rintro e W1 ⟨rfl, hb1⟩
    have B1 := Lib.hid hb1
    clear hb1 h hi hp
    go_wp2
    go_loopw [18] (fun i wr => ∃ k : Nat, k ≤ q ∧ i = .int .i64 k ∧ Hid (wr.ownsMap Try.prog 3 (plainElem Try.prog 3) W1.heap.size k (sumsD L ms k)) ∧ Hid (Below W1.heap.size W1 wr)) (fun i _ => q - (intOf i).toNat)
    case atStart => exact ⟨0, Nat.zero_le _, rfl, Lib.hid (World.ownsMap_made _ _ _ _), Lib.hid ((Below.refl _ _).alloc (Nat.le_refl _) _)⟩
    case round =>
      obtain ⟨k, hk, rfl, HO, HB⟩ := hrel
      by_cases hlt : k < q
      · have hb := B1.out.trans (HB.out.mono B1.out.size)
        obtain ⟨b, off, rfl, hbB, hc⟩ := H.out.2 (by omega)
        obtain ⟨b', off', rfl, hbB', hc'⟩ := HI.out.2 (by omega)
        obtain ⟨Ak, ck, hx, hrec, _, _⟩ := hc k hlt
        have x0 : wr.cell? ⟨b, off + k, none⟩ = some (.slice Ak (rowN L k) ck) := (hb.cell (by exact hbB)).trans hx
        have y0 : wr.cell? ⟨b', off' + k, none⟩ = some (.int .i64 (nth ms k)) := (hb.cell (by exact hbB')).trans (hc' k hlt)
        have hz := hb.size
        have hz1 := B1.out.size
        have hz2 := HB.out.size
        have hml := HO.out.lt
        have hbm := HMR.out k hlt
        have r1 : RecsAt (wr.alloc (.cells #[.slice Ak (rowN L k) ck] 36)) (wr.alloc (.cells #[.slice Ak (rowN L k) ck] 36)).heap.size 2 Ak (rowN L k) (rowZ L k) := (((hrec.below hb).mono hb.size).alloc (Nat.le_refl _) _).mono (by simp)
        have HOA := Lib.hid (HO.out.alloc (.cells #[.slice Ak (rowN L k) ck] 36))
        have HBA := Lib.hid (HB.out.alloc HB.out.size (.cells #[.slice Ak (rowN L k) ck] 36))
        have hl1 : (Instr.lookup 64 (.map (some W1.heap.size)) (.int .i64 (nth ms k)) false).run Try.prog (wr.alloc (.cells #[.slice Ak (rowN L k) ck] 36)).drew = _ := sums_look HOA.out.drew (nth ms k) (by omega)
        have hsb := sumM_bd L ms (nth ms k) k
        have hwb := weightI_bd (rowZ L k) (rowN L k)
        have hs : IntKind.i64.wrap (sumM L ms (nth ms k) k + weightI (rowZ L k) (rowN L k)) = sumM L ms (nth ms k) k + weightI (rowZ L k) (rowN L k) := IntWalk.i64_in _ (by omega)
        have HS : Hid (sumM L ms (nth ms k) (k + 1) = sumM L ms (nth ms k) k + weightI (rowZ L k) (rowN L k)) := sumM_t rfl
        have ki : (k : Int) < (q : Int) := by omega
        have k0 : (0 : Int) ≤ (k : Int) := by omega
        have bx : (wr.alloc (.cells #[.slice Ak (rowN L k) ck] 36)).cell? ⟨wr.heap.size, 0, none⟩ = some (.slice Ak (rowN L k) ck) := cell_new1 _ _ _
        have ym : (wr.alloc (.cells #[.slice Ak (rowN L k) ck] 36)).cell? ⟨b', off' + k, none⟩ = some (.int .i64 (nth ms k)) := (World.cell?_alloc_lt wr _ ⟨b', off' + k, none⟩ (by simp; omega)).trans y0
        have hbl : b' < W1.heap.size := by omega
        clear hc hc' hx hrec hb
        have HARM : Hid (∀ w2, Below (wr.alloc (.cells #[.slice Ak (rowN L k) ck] 36)).drew.heap.size (wr.alloc (.cells #[.slice Ak (rowN L k) ck] 36)).drew w2 → ∃ w3 : World,
            (Instr.lookup 64 (.map (some W1.heap.size)) (.int .i64 (nth ms k)) false).run Try.prog w2 = .ok (.int .i64 (sumM L ms (nth ms k) k)) w2 ∧
            (Instr.mapUpdate 64 (.map (some W1.heap.size)) (.int .i64 (nth ms k)) (.int .i64 (sumM L ms (nth ms k) k + weightI (rowZ L k) (rowN L k)))).run Try.prog w2 = .ok () w3 ∧
            Hid (w3.ownsMap Try.prog 3 (plainElem Try.prog 3) W1.heap.size (k + 1) (sumsD L ms (k + 1))) ∧ Hid (w2.grownBy w3 (some W1.heap.size)) ∧
            w2.cell? ⟨wr.heap.size, 0, none⟩ = some (.slice Ak (rowN L k) ck) ∧ w2.cell? ⟨b', off' + k, none⟩ = some (.int .i64 (nth ms k)) ∧ w3.cell? ⟨wr.heap.size, 0, none⟩ = some (.slice Ak (rowN L k) ck) ∧ w3.cell? ⟨b', off' + k, none⟩ = some (.int .i64 (nth ms k))) := by
          intro w2 hb2
          have own2 := HOA.out.drew.kept (w' := w2) (row := none) ⟨hb2.os, hb2.tape, hb2.output, hb2.size, fun i hi _ => hb2.block i hi⟩ (by simp)
          obtain ⟨w3, hrun3, own3, hgr3⟩ := own2.update lawInt Try.underlying64 (by unfold maxLen; omega) (keyOf_int_mk Try.underlying3 (wf_in (x := nth ms k) (by omega))) (plainElem_int Try.underlying3 (wf_in (x := sumM L ms (nth ms k) k + weightI (rowZ L k) (rowN L k)) (by omega)))
          have x2 : w2.cell? ⟨wr.heap.size, 0, none⟩ = some (.slice Ak (rowN L k) ck) := (hb2.cell (p := ⟨wr.heap.size, 0, none⟩) (by simp)).trans bx
          have y2 : w2.cell? ⟨b', off' + k, none⟩ = some (.int .i64 (nth ms k)) := (hb2.cell (p := ⟨b', off' + k, none⟩) (by simp; omega)).trans ym
          have hsz := hb2.size
          simp at hsz
          have hbw2 : b' < w2.heap.size := by omega
          have hbne : some b' ≠ some W1.heap.size := by intro e; injection e with e; omega
          refine ⟨w3, sums_look own2 (nth ms k) (by omega), hrun3, ?_, hgr3, x2, y2, ?_, ?_⟩
          · show w3.ownsMap _ _ _ _ _ ((sumsD L ms k).put (keyL (nth ms k)) (elI (sumM L ms (nth ms k) (k + 1))))
            rw [HS.out]
            exact own3
          · exact (World.cell?_of_block (a := ⟨wr.heap.size, 0, none⟩) (hgr3.block _ (by simp; omega) (by simp; omega))).trans x2
          · exact (World.cell?_of_block (a := ⟨b', off' + k, none⟩) (hgr3.block _ hbw2 hbne)).trans y2
        go_wp2
        go_region_held3 (fun w' => w'.cell? ⟨b', off' + k, none⟩ = some (.int .i64 (nth ms k)) ∧ w'.cell? ⟨wr.heap.size, 0, none⟩ = some (.slice Ak (rowN L k) ck)) ((first | (exact ⟨by assumption, by assumption⟩) | (exact ⟨ym, bx⟩))) ((go_at_call 34; refine (iWeightOf_any _ _ _ (rowZ L k) _ (by exact r1)).mono ?_; rintro e w2 ⟨rfl, hb2⟩; obtain ⟨w3, hl2, hrun3, own3, hgr3, x2, y2, x3, y3⟩ := HARM.out w2 hb2))
        all_goals
          have HB3 : Hid (Below W1.heap.size W1 w3) := Lib.hid (((HBA.out.drew.trans (hb2.mono (by simp; omega))).grown hgr3.out (by have := hb2.size; simp at this; omega) (fun j hj => by cases hj; exact Nat.le_refl _)))
          clear hl2 hrun3 hl1 x2 y2 hb2
          go_wp2
          go_roundw
          case rel => exact ⟨k + 1, by omega, by go_num, own3, HB3⟩
          case measure => simp [intOf]; omega
      · obtain rfl : q = k := by omega
        have HSA : Hid (∀ m x, (∀ zd, (sumsD L ms q).atKey (.int .i64 x) zd = .lit (.int .i64 m)) → m = sumM L ms x q ∧ Bears ms x q) := fun m x hat =>
          ⟨elI_inj ((hat (elI 0)).symm.trans (sumsD_at L ms x q)), (sumsD_has L ms x q).1 (has_true_of_atKey hat)⟩
        have HNone : Hid (BusySeen L ms q (fun m => Bears ms m q ∧ Maps.has (sumsD L ms q) (keyL m) = false) 0) := .inl ⟨rfl, fun m hm => by
          have := (sumsD_has L ms m q).2 hm.1
          exact absurd (this.symm.trans hm.2) (by simp)⟩
        have hown := HO.out
        have hz1 := HB.out.size
        have hml := hown.lt
        obtain ⟨W2, rfl⟩ : ∃ W2 : World, W2 = wr := ⟨_, rfl⟩
        clear HO
        go_wp2_with (first
          | (at_range; refine wpList_range_own _ rfl _ 64 rfl 3 3 lawInt Try.underlying64 _ W1.heap.size q _ rfl hown ?_; intro w0 hrg0 hg0 hs0)
          | go_in)
        go_frame
        have HB0 : Hid (Below W1.heap.size W1 w0) := Lib.hid (HB.out.grown hg0 HB.out.size (fun j hj => by cases hj))
        go_loopw [8] (fun b wr => ∃ (left : Lit → Bool) (cnt : Nat) (bi : Int), b = .int .i64 bi ∧ wr.ranges Try.prog 3 (plainElem Try.prog 3) W1.heap.size W2.heap.size q (sumsD L ms q) left cnt ∧ Hid (BusySeen L ms q (fun m => Bears ms m q ∧ left (keyL m) = false) bi) ∧ Hid (Below W1.heap.size W1 wr)) (fun _ wr => wr.rangeLeft W1.heap.size W2.heap.size)
        case atStart => exact ⟨_, _, 0, rfl, hrg0, HNone, HB0⟩
        case round =>
          clear HNone HB0 HB hg0 hs0 hrg0
          obtain ⟨left, cnt, bi, rfl, hrg, HSN, HB⟩ := hrel
          go_wp2_with (first
            | (at_next; refine wpList_next_ranges_ii _ rfl _ rfl 3 3 .i64 .i64 lawInt Try.underlying3 Try.underlying3 W1.heap.size W2.heap.size q _ _ _ rfl hrg ?_ ?_)
            | go_in)
          · intro _ hl0
            have HF := Lib.hid (HEND.out bi (HSN.out.congr (fun m => by simp [hl0])))
            clear hl0
            go_wp2
            go_ret
            exact ⟨ret_int HF.out.symm, B1.out.trans (HB.out.mono B1.out.size)⟩
          · intro x c w2 cnt1 hwx hwc hlx hat hrg1 hlt1 hg1 hs1 hen
            obtain ⟨rfl, hbx⟩ := HSA.out c x hat
            have HBX := Lib.hid hbx
            have hxr : 1 ≤ x ∧ x ≤ 9 := by
              obtain ⟨i, hi, rfl⟩ := hbx
              exact HMR.out i hi
            have HLS : Hid (∀ m, ((Bears ms m q ∧ left (keyL m) = false) ∨ m = x) ↔ (Bears ms m q ∧ (left (keyL m) && !(keyL m).sameKey (.int .i64 x)) = false)) := left_step hbx
            have HB2 : Hid (Below W1.heap.size W1 w2) := Lib.hid (HB.out.grown hg1 HB.out.size (fun j hj => by cases hj; omega))
            have HLT : Hid (w2.rangeLeft W1.heap.size W2.heap.size < wr.rangeLeft W1.heap.size W2.heap.size) := by
              show _ < _
              rw [hrg1.left_eq, hrg.left_eq]; exact hlt1
            have own1 := hrg1.owns
            clear hat hwx hwc hlx hlt1 hg1 hs1 hbx hrg
            by_cases h0 : bi = 0
            · have HN := Lib.hid ((busySeen_first (L := L) (ms := ms) (n := q) (x := x) (by
                rcases HSN.out with ⟨_, h⟩ | ⟨_, h1, _⟩
                · exact h
                · omega) hxr.1 hxr.2).congr HLS.out)
              have hd : (bi == 0) = true := by simp [h0]
              clear h0
              go_wp2
              go_roundw
              case rel => exact ⟨_, cnt1, x, rfl, hrg1, HN, HB2⟩
              case measure => exact HLT.out
            · have hd : (bi == 0) = false := by simp [h0]
              have hbr : 1 ≤ bi ∧ bi ≤ 9 := by
                rcases HSN.out with ⟨h, _⟩ | ⟨_, h1, h2, _⟩
                · exact absurd h h0
                · exact ⟨h1, h2⟩
              have hlk := sums_look own1 bi (by omega)
              have HNew : Hid (sumM L ms bi q < sumM L ms x q ∨ (sumM L ms x q = sumM L ms bi q ∧ x < bi) → _) := fun h => (busySeen_new HSN.out h0 hxr.1 hxr.2 h).congr HLS.out
              have HOld : Hid (¬ sumM L ms bi q < sumM L ms x q → (sumM L ms x q = sumM L ms bi q → ¬ x < bi) → _) := fun h1 h2 => (busySeen_old HSN.out h0 h1 h2).congr HLS.out
              clear HSN own1 h0
              generalize sumM L ms bi q = s1 at *
              generalize sumM L ms x q = s2 at *
              by_cases h1 : s1 < s2
              · have HN := Lib.hid (HNew.out (.inl h1))
                clear HNew HOld
                go_wp2
                go_roundw
                case rel => exact ⟨_, cnt1, x, rfl, hrg1, HN, HB2⟩
                case measure => exact HLT.out
              · by_cases h2 : s2 = s1
                · have hd2 : (s2 == s1) = true := by simp [h2]
                  by_cases h3 : x < bi
                  · have HN := Lib.hid (HNew.out (.inr ⟨h2, h3⟩))
                    clear HNew HOld h2
                    go_wp2
                    go_roundw
                    case rel => exact ⟨_, cnt1, x, rfl, hrg1, HN, HB2⟩
                    case measure => exact HLT.out
                  · have HN := Lib.hid (HOld.out h1 (fun _ => h3))
                    clear HNew HOld h2
                    go_wp2
                    go_roundw
                    case rel => exact ⟨_, cnt1, bi, rfl, hrg1, HN, HB2⟩
                    case measure => exact HLT.out
                · have hd2 : (s2 == s1) = false := by simp [h2]
                  have HN := Lib.hid (HOld.out h1 (fun e => absurd e h2))
                  clear HNew HOld h2
                  go_wp2
                  go_roundw
                  case rel => exact ⟨_, cnt1, bi, rfl, hrg1, HN, HB2⟩
                  case measure => exact HLT.out
end Go.Proofs.Ytplabaneihjcoaa
