/-
  Contracts: fair marks in the reference.
-/
import Derived.Test.YtgaafmcmcalaoaaWInts
import Derived.Test.YtgaafmcmcalaoaaOwn
import Derived.Test.YtgaafmcmcalaoaaPMarks
import Derived.Test.YtgaafmcmcalaoaaWSmall
import Derived.BigQuiet
import Derived.Laws.Cover1
namespace Go.Proofs.Ytgaafmcmcalaoaa
open Go.RowKit
set_option linter.unusedSimpArgs false

theorem OwnI.zeros (w : World) (E : TypeId) (n : Nat) (hn : n ≤ maxLen) : OwnI (w.alloc (.cells (madeCells #[.int .i64 0] n) E)) w.heap.size E w.heap.size n (List.replicate n 0) := by
  have h := World.ownsRow_lit (base := w.heap.size) (e := E) (size := 1) w (madeCells #[.int .i64 0] n) n (Nat.le_refl _) hn (by simp [size_madeCells])
  have e : (madeCells #[Value.int .i64 0] n).toList = (List.replicate n (0 : Int)).map (Value.int .i64) := by
    rw [List.map_replicate, toList_madeCells_one]
  unfold OwnI OwnV
  rw [List.length_replicate]
  rw [e] at h
  exact h
theorem run_max3m {P : Program} (ts : Array TypeId) (t : TypeId) (x y z : Int) (w : World) : (Builtin.max_ ts t #[.int .i64 x, .int .i64 y, .int .i64 z]).run P w = .ok (.int .i64 (max (max x y) z)) w := by
  rw [run_max_int3]
  congr 2
  omega
theorem ownV_base' {w : World} {base base' : Nat} {E : TypeId} {v : Value} {xs : List Int} (h : OwnV w base E v xs) (hb : base' ≤ base) : OwnV w base' E v xs := by
  refine ⟨h.1, ?_⟩
  rcases h.2 with h2 | ⟨g, cap, cur, h1, h2, h3⟩
  · exact .inl h2
  · exact .inr ⟨g, cap, cur, h1, Nat.le_trans hb h2, h3⟩
theorem IntsAt.after' {w w1 : World} {A : Option Addr} {n : Nat} {zs : List Int} (h : IntsAt w w.heap.size A n zs) (hb : Below w.heap.size w w1) : IntsAt w1 w1.heap.size A n zs := (h.below hb).mono hb.size
theorem fairB_best' {W : Nat → Int} {D : Nat → List Int} {N : Nat} (h : ∀ s, s < N → 0 ≤ W s) : ∀ k, k + 1 ≤ N → fairB W D (k + 1) = (D (bestS W k), W (bestS W k))
  | 0, _ => by simp [fairB, bestS]
  | k + 1, hk => by
    have ih := fairB_best' (D := D) h k (by omega)
    have h1 := h (bestS W k) (by have := bestS_le W k; omega)
    rw [fairB, ih]
    simp only [bestS]
    by_cases c : W (k + 1) < W (bestS W k)
    · rw [if_pos (.inr c), if_pos c]
    · rw [if_neg (by omega), if_neg c]
theorem below_drew {B : Nat} {a w : World} (h : Below B a w) : Below B a w.drew := ⟨h.os, h.tape, h.output, h.size, h.block⟩
/-- Weights and marks that fit. -/
structure MarkHyp (n : Nat) (ws ms : List Int) : Prop where
  n7 : n ≤ 7
  wl : ws.length = n
  ml : ms.length = n
  w : ∀ k, 0 ≤ nth ws k ∧ nth ws k ≤ 10000
  m : ∀ k, k < ms.length → 1 ≤ nth ms k ∧ nth ms k ≤ 3
set_option maxRecDepth 100000 in
set_option maxHeartbeats 1600000 in
theorem sWorst_any (A A' : Option Addr) (n c c' : Nat) (ws ms : List Int) (w : World) (hx : IntsAt w w.heap.size A n ws) (hy : IntsAt w w.heap.size A' n ms) (hh : MarkHyp n ws ms) :
    Calls Try.prog 37 #[.slice A n c, .slice A' n c'] w fun e w' => e = .returned (.int .i64 (worst ws ms)) ∧ Below w.heap.size w w' := by
  have H := Lib.hid hh
  have HX := Lib.hid hx
  have HY := Lib.hid hy
  have hn := hh.n7
  clear hx hy hh
  have hmk := run_make_row' (P := Try.prog) 22 3 (.int .i64 0) 8 Try.underlying22 infoInt rfl .i64 .i64 4 (by omega) (by omega)
  rw [show ((4 : Nat) : Int) = 4 from rfl] at hmk
  go_enter Try.func37, Try.ntmps37
  go_wp2
  clear hmk
  go_loopw [6] (fun i wr => ∃ k : Nat, k ≤ n ∧ i = .int .i64 k ∧ OwnI wr w.heap.size 3 w.heap.size 4 (sumsGo ws ms k) ∧ Below w.heap.size w wr) (fun i _ => n - (intOf i).toNat)
  case atStart => exact ⟨0, Nat.zero_le _, rfl, OwnI.zeros w _ 4 (by simp [maxLen]), (Below.refl _ _).alloc (Nat.le_refl _) _⟩
  case round =>
    obtain ⟨k, hk, rfl, hown, hb⟩ := hrel
    have hS := sumsGo_bd H.out.w H.out.m k (by rw [H.out.ml]; exact hk)
    have hSl := sumsGo_length ws ms k
    have HB := Lib.hid hb
    by_cases hlt : k < n
    · obtain ⟨b, off, rfl, hbB, hc⟩ := HX.out.2 (by omega)
      obtain ⟨b', off', rfl, hbB', hc'⟩ := HY.out.2 (by omega)
      have hcx : wr.cell? ⟨b, off + k, none⟩ = some (.int .i64 (nth ws k)) := (hb.cell (by exact hbB)).trans (hc k hlt)
      have hcy : wr.cell? ⟨b', off' + k, none⟩ = some (.int .i64 (nth ms k)) := (hb.cell (by exact hbB')).trans (hc' k hlt)
      have hm := H.out.m k (by rw [H.out.ml]; exact hlt)
      have hwk := H.out.w k
      obtain ⟨v, hv⟩ := Int.eq_ofNat_of_zero_le (show 0 ≤ nth ms k by omega)
      have hst : sumsGo ws ms (k + 1) = (sumsGo ws ms k).set v (nth (sumsGo ws ms k) v + nth ws k) := by rw [sumsGo, hv, Int.toNat_natCast]
      rw [hv] at hcy hm
      have hv3 : (v : Int) < 4 := by omega
      have hcs := hown.cell (j := v) (by omega)
      have hfs := hown.frozen v
      have hSv := hS.2 v
      generalize hz : nth (sumsGo ws ms k) v = z at hcs hst hSv
      generalize hu : nth ws k = u at hcx hst hwk
      have HST := Lib.hid hst
      have HO := Lib.hid hown
      clear hst hown hb hc hc' hz hu hv hS hSl
      have e1 : IntKind.i64.wrap (z + u) = z + u := IntWalk.i64_in _ (by omega)
      go_wp2
      go_region
      go_wp2
      go_roundw
      case rel => exact ⟨k + 1, by omega, by go_num, by rw [HST.out]; exact (HO.out.set v (z + u)).drew, below_drew (HB.out.setCell (Nat.le_refl _) _)⟩
      case measure => simp [intOf]; omega
    · have hkn : k = n := by omega
      subst hkn
      have hW : worst ws ms = max (max (nth (sumsGo ws ms k) 1) (nth (sumsGo ws ms k) 2)) (nth (sumsGo ws ms k) 3) := by rw [worst, H.out.wl]
      have c1 := hown.cell (j := 1) (by omega)
      have c2 := hown.cell (j := 2) (by omega)
      have c3 := hown.cell (j := 3) (by omega)
      have HW := Lib.hid hW
      clear hW hown hb hS hSl
      generalize nth (sumsGo ws ms k) 1 = y1 at c1 HW
      generalize nth (sumsGo ws ms k) 2 = y2 at c2 HW
      generalize nth (sumsGo ws ms k) 3 = y3 at c3 HW
      have hmx : ∀ W, (Builtin.max_ #[3, 3, 3] 3 #[.int .i64 y1, .int .i64 y2, .int .i64 y3]).run Try.prog W = .ok (.int .i64 (max (max y1 y2) y3)) W := fun W => run_max3m _ _ _ _ _ W
      go_wp2
      go_region
      all_goals go_wp2
      go_ret
      exact ⟨ret_int (by rw [HW.out]; omega), below_drew HB.out⟩
/-- Marks and a word whether the arguments are in order come back. -/
def FairPost (w : World) (ws : List Int) (q : Int) (e : Ending) (w' : World) : Prop :=
  ∃ A k c, e = .returned (.tuple #[.slice A k c, .bool (fairOk ws q)]) ∧ OwnV w' w.heap.size 3 (.slice A k c) (if fairOk ws q = true then fairL ws q.toNat else []) ∧ Below w.heap.size w w'
theorem fairPost_f {w w' : World} {ws : List Int} {q : Int} {A : Option Addr} {k c : Nat} (h : fairOk ws q = false) (ho : OwnV w' w.heap.size 3 (.slice A k c) []) (hb : Below w.heap.size w w') : FairPost w ws q (.returned (.tuple #[.slice A k c, .bool false])) w' :=
  ⟨A, k, c, by rw [h], by rw [if_neg (by simp [h])]; exact ho, hb⟩
theorem fairPost_t {w w' : World} {ws : List Int} {q : Int} {A : Option Addr} {k c : Nat} (h : fairOk ws q = true) (ho : OwnV w' w.heap.size 3 (.slice A k c) (fairL ws q.toNat)) (hb : Below w.heap.size w w') : FairPost w ws q (.returned (.tuple #[.slice A k c, .bool true])) w' :=
  ⟨A, k, c, by rw [h], by rw [if_pos h]; exact ho, hb⟩
set_option maxRecDepth 100000 in
set_option maxHeartbeats 6400000 in
theorem sFair_any (A : Option Addr) (n c : Nat) (ws : List Int) (q : Int) (w : World) (h : IntsAt w w.heap.size A n ws) (hn : n ≤ 1048576) :
    Calls Try.prog 14 #[.slice A n c, .int .i64 q] w (FairPost w ws q) := by
  have HX := Lib.hid h
  have HL := Lib.hid h.1
  clear h
  have hmk := run_make_row' (P := Try.prog) 22 3 (.int .i64 0) 8 Try.underlying22 infoInt rfl .i64 .i64 n (by omega) (by omega)
  have HMK := Lib.hid hmk
  clear hmk
  go_enter Try.func14, Try.ntmps14
  go_wp2
  go_loopw [6] (fun i wr => ∃ k : Nat, k ≤ n ∧ i = .int .i64 k ∧ (∀ j, j < k → inB (nth ws j) 0 10000 = true) ∧ w = wr) (fun i _ => n - (intOf i).toNat)
  case atStart => exact ⟨0, Nat.zero_le _, rfl, fun j hj => absurd hj (by omega), rfl⟩
  case round =>
    obtain ⟨k, hk, rfl, hag, rfl⟩ := hrel
    have HAG := Lib.hid hag
    clear hag
    by_cases hlt : k < n
    · obtain ⟨b, off, rfl, hbB, hc⟩ := HX.out.2 (by omega)
      have hcx := hc k hlt
      clear hc
      cases hp : inB (nth ws k) 0 10000
      · have HF := Lib.hid (fairOk_f1 (q := q) hp)
        go_wp2_with (go_at_call 33; refine (l01In_any _ _ _ _).mono ?_; rw [hp]; rintro e w' ⟨rfl, rfl⟩)
        go_ret2
        exact fairPost_f HF.out (OwnI.new w _).toV ((Below.refl _ _).alloc (Nat.le_refl _) _)
      · have HP := Lib.hid hp
        go_wp2_with (go_at_call 33; refine (l01In_any _ _ _ _).mono ?_; rw [hp]; rintro e w' ⟨rfl, rfl⟩)
        go_roundw
        case rel =>
          refine ⟨k + 1, by omega, by go_num, fun j hj => ?_, trivial⟩
          by_cases hjk : j = k
          · subst hjk; exact HP.out
          · exact HAG.out j (by omega)
        case measure => simp [intOf]; omega
    · have hkn : k = n := by omega
      subst hkn
      cases hq : inB q 1 3
      · have HF := Lib.hid (fairOk_f2 (ws := ws) (inB_iff_f.1 hq))
        go_wp2_with (go_at_call 33; refine (l01In_any _ _ _ _).mono ?_; rw [hq]; rintro e w' ⟨rfl, rfl⟩)
        go_ret2
        exact fairPost_f HF.out (OwnI.new w _).toV ((Below.refl _ _).alloc (Nat.le_refl _) _)
      by_cases h7 : (7 : Int) < (k : Int)
      · have HF := Lib.hid (fairOk_f3 (ws := ws) (q := q) (by rw [HL.out]; omega))
        go_wp2_with (go_at_call 33; refine (l01In_any _ _ _ _).mono ?_; rw [hq]; rintro e w' ⟨rfl, rfl⟩)
        go_ret2
        exact fairPost_f HF.out (OwnI.new w _).toV ((Below.refl _ _).alloc (Nat.le_refl _) _)
      have hq13 := inB_iff.1 hq
      have HOK := Lib.hid (fairOk_mk (ws := ws) (q := q) (by rw [HL.out]; exact HAG.out) hq13 (by rw [HL.out]; omega))
      obtain ⟨p, rfl⟩ := Int.eq_ofNat_of_zero_le (show 0 ≤ q by omega)
      have hk7 : k ≤ 7 := by omega
      have hp1 : 1 ≤ p := by omega
      have hp3 : p ≤ 3 := by omega
      clear h7 hq13 HAG
      go_wp2_with (go_at_call 33; refine (l01In_any _ _ _ _).mono ?_; rw [hq]; rintro e w' ⟨rfl, rfl⟩)
      clear hq
      go_loopw [7, 8] (fun t i wr => ∃ (j P : Nat), j ≤ k ∧ i = .int .i64 j ∧ t = .int .i64 P ∧ Hid (p ^ j = P) ∧ w = wr) (fun _ i _ => k - (intOf i).toNat)
      case atStart => exact ⟨0, 1, Nat.zero_le _, rfl, rfl, Lib.hid (by simp), rfl⟩
      case round =>
        obtain ⟨j, P, hj, rfl, rfl, HP, rfl⟩ := hrel
        by_cases hlt2 : j < k
        · have HP2 := Lib.hid (show p ^ (j + 1) = P * p by rw [Nat.pow_succ, HP.out])
          have hbd := pow_bd (q := p) (n := j + 1) hp3 (by omega)
          rw [HP2.out] at hbd
          obtain ⟨R, hR⟩ : ∃ R : Nat, P * p = R := ⟨_, rfl⟩
          have hR2 : (P : Int) * (p : Int) = (R : Int) := by rw [← hR]; exact (Int.natCast_mul _ _).symm
          rw [hR] at hbd HP2
          have e1 : IntKind.i64.wrap ((P : Int) * (p : Int)) = (R : Int) := by rw [hR2]; exact IntWalk.i64_in _ (by omega)
          clear hR hR2
          go_wp2
          go_roundw
          case rel => exact ⟨j + 1, R, by omega, by go_num, by go_num, HP2, trivial⟩
          case measure => simp [intOf]; omega
        · have hjk : j = k := by omega
          subst hjk
          have hT := pow_bd (q := p) (n := j) hp3 hk7
          rw [HP.out] at hT
          have hT0 : 0 < P := by rw [← HP.out]; exact Nat.pow_pos (by omega)
          obtain ⟨W, hW⟩ : ∃ W : Nat → Int, fairW ws p = W := ⟨_, rfl⟩
          obtain ⟨D, hD⟩ : ∃ D : Nat → List Int, digs p j = D := ⟨_, rfl⟩
          have HDF : Hid (∀ s, s < P → DigFacts p j s) := Lib.hid fun s hs => dig_facts hp1 hp3 hk7 (by rw [HP.out]; exact hs)
          have HWW := Lib.hid hW
          have HDD := Lib.hid hD
          clear hW hD
          go_wp2
          go_loopw [9, 10, 11] (fun bv l s wr => ∃ (i : Nat) (Ab : Option Addr) (kb cb : Nat) (le : Int), i ≤ P ∧ s = .int .i64 i ∧ bv = .slice Ab kb cb ∧ l = .int .i64 le ∧ OwnV wr w.heap.size 3 (.slice Ab kb cb) (fairB W D i).1 ∧ Hid ((fairB W D i).2 = le) ∧ Below w.heap.size w wr) (fun _ _ s _ => P - (intOf s).toNat)
          case atStart => exact ⟨0, _, _, _, -1, Nat.zero_le _, rfl, rfl, rfl, (OwnI.new w _).toV, Lib.hid rfl, (Below.refl _ _).alloc (Nat.le_refl _) _⟩
          case round =>
            obtain ⟨i, Ab, kb, cb, le, hi, rfl, rfl, rfl, hown, HLE, hb⟩ := hrel
            have HO := Lib.hid hown
            have HB := Lib.hid hb
            clear hown hb
            obtain ⟨wo, hwo⟩ : ∃ wo, wo = wr := ⟨_, rfl⟩
            subst hwo
            by_cases hlt3 : i < P
            · have hmk := HMK.out
              have HF := Lib.hid (HDF.out i hlt3)
              go_wp2
              clear hmk
              go_loopw [13, 14] (fun x v w2 => ∃ (m X : Nat) (L : List Int), m ≤ j ∧ X ≤ 2187 ∧ v = .int .i64 ((m : Int) - 1) ∧ x = .int .i64 X ∧ Hid (fillGo p L X m = D i) ∧ Hid (L.length = j) ∧ OwnI w2 wo.heap.size 3 wo.heap.size j L ∧ Below wo.heap.size wo w2) (fun _ v _ => (intOf v + 1).toNat)
              case atStart => exact ⟨j, i, List.replicate j 0, Nat.le_refl _, by omega, by go_num, rfl, Lib.hid (by rw [← HDD.out]; rfl), Lib.hid (by simp), OwnI.zeros wo _ j (by simp [maxLen]; omega), (Below.refl _ _).alloc (Nat.le_refl _) _⟩
              case round =>
                obtain ⟨m, X, L, hm, hX, rfl, rfl, HFL, HLL, hown, hb⟩ := hrel
                have HI := Lib.hid hown
                have HC := Lib.hid hb
                rcases m with _ | m
                · have hz : ((0 : Nat) : Int) - 1 = -1 := rfl
                  rw [hz]
                  have HLD := Lib.hid (show L = D i from HFL.out)
                  clear hown hb hz
                  have hko : L.length = j := HLL.out
                  have HIO := Lib.hid (show OwnV _ wo.heap.size 3 (.slice (some ⟨wo.heap.size, 0, none⟩) j j) (D i) by rw [← HLD.out]; have := HI.out.toV; rw [hko] at this; exact this)
                  have HMH := Lib.hid (show MarkHyp j ws (D i) from by
                    have hok := fairOk_t HOK.out
                    have hf := HF.out
                    rw [← HDD.out]
                    refine ⟨hk7, HL.out, hf.len, hok.1, fun k hk => ?_⟩
                    have := hf.bd (nth (digs p j i) k) (by rw [nth_get _ _ hk]; exact List.getElem_mem hk)
                    omega)
                  clear hko
                  go_wp2_with fail
                  refine (sWorst_any A _ j c j ws (D i) _ ((HX.out.after' HB.out).after' HC.out) HIO.out.intsAt HMH.out).mono ?_
                  rintro e w3 ⟨rfl, hb3⟩
                  have HBN := Lib.hid (HB.out.trans ((HC.out.trans (hb3.mono HC.out.size)).mono HB.out.size))
                  have HIN := Lib.hid (HIO.out.below hb3)
                  have HON := Lib.hid (HO.out.below (HC.out.trans (hb3.mono HC.out.size)))
                  obtain ⟨z, hz⟩ : ∃ z : Int, worst ws (D i) = z := ⟨_, rfl⟩
                  rw [hz]
                  have HZ := Lib.hid (show W i = z by rw [← hz, ← HWW.out, ← HDD.out, fairW, HL.out])
                  clear hz hb3
                  by_cases hle : le < 0
                  · have HS := Lib.hid (show fairB W D (i + 1) = (D i, W i) by rw [fairB, if_pos (.inl (by rw [HLE.out]; exact hle))])
                    go_wp2
                    go_roundw
                    case rel => exact ⟨i + 1, _, _, _, z, by omega, by go_num, rfl, rfl, by rw [HS.out]; exact ownV_base' HIN.out HB.out.size, by rw [HS.out]; exact HZ, HBN.out⟩
                    case measure => simp [intOf]; omega
                  · by_cases hlz : z < le
                    · have HS := Lib.hid (show fairB W D (i + 1) = (D i, W i) by rw [fairB, if_pos (.inr (by rw [HLE.out, HZ.out]; exact hlz))])
                      go_wp2
                      go_roundw
                      case rel => exact ⟨i + 1, _, _, _, z, by omega, by go_num, rfl, rfl, by rw [HS.out]; exact ownV_base' HIN.out HB.out.size, by rw [HS.out]; exact HZ, HBN.out⟩
                      case measure => simp [intOf]; omega
                    · have HS := Lib.hid (show fairB W D (i + 1) = fairB W D i by rw [fairB, if_neg (by rw [HLE.out, HZ.out]; omega)])
                      go_wp2
                      go_roundw
                      case rel => exact ⟨i + 1, _, _, _, le, by omega, by go_num, rfl, rfl, by rw [HS.out]; exact HON.out, by rw [HS.out]; exact HLE, HBN.out⟩
                      case measure => simp [intOf]; omega
                · have e : (((m + 1 : Nat)) : Int) - 1 = (m : Int) := by omega
                  rw [e]
                  have hcx := hown.cell (j := m) (by rw [HLL.out]; omega)
                  have hfx := hown.frozen m
                  generalize nth L m = u at hcx
                  obtain ⟨Y, hY⟩ : ∃ Y : Nat, X % p = Y := ⟨_, rfl⟩
                  obtain ⟨Z, hZ⟩ : ∃ Z : Nat, X / p = Z := ⟨_, rfl⟩
                  have hY2 : Y < p := by rw [← hY]; exact Nat.mod_lt _ (by omega)
                  have hZ2 : Z ≤ X := by rw [← hZ]; exact Nat.div_le_self _ _
                  have q1 : Int.tmod (X : Int) (p : Int) = (Y : Int) := by rw [← hY]; exact (Int.ofNat_tmod _ _).symm
                  have q2 : Int.tdiv (X : Int) (p : Int) = (Z : Int) := by rw [← hZ]; exact (Int.ofNat_tdiv _ _).symm
                  have HST := Lib.hid (show fillGo p (L.set m (1 + (Y : Int))) Z m = D i by
                    rw [← HFL.out, fillGo, hY, hZ]
                    congr 2)
                  have hm1 : (m : Int) < (j : Int) := by omega
                  clear hown hb hY hZ e
                  go_wp2
                  go_roundw
                  case rel => exact ⟨m, Z, _, by omega, by omega, by go_num, rfl, HST, Lib.hid (by rw [List.length_set]; exact HLL.out), HI.out.set m _, HC.out.setCell (Nat.le_refl _) _⟩
                  case measure => first | (simp [intOf]; done) | (simp [intOf]; omega)
            · have hiP : i = P := by omega
              subst hiP
              have HS := Lib.hid (show (fairB W D i).1 = fairL ws ((p : Int)).toNat by
                obtain ⟨i', rfl⟩ : ∃ i', i = i' + 1 := ⟨i - 1, by omega⟩
                have hok := fairOk_t HOK.out
                have hWn : ∀ s, s < i' + 1 → 0 ≤ W s := fun s hs => by
                  have hf := HDF.out s hs
                  rw [← HWW.out, fairW, HL.out]
                  refine worst_nonneg hok.1 (fun k hk => ?_) (by rw [hf.len, HL.out]; exact Nat.le_refl _)
                  have := hf.bd (nth (digs p j s) k) (by rw [nth_get _ _ hk]; exact List.getElem_mem hk)
                  omega
                rw [fairB_best' hWn i' (Nat.le_refl _), Int.toNat_natCast, fairL, HL.out, HP.out, ← HDD.out, ← HWW.out]
                rfl)
              rw [HS.out] at HO
              go_wp2
              go_ret2
              exact fairPost_t HOK.out HO.out HB.out
end Go.Proofs.Ytgaafmcmcalaoaa
