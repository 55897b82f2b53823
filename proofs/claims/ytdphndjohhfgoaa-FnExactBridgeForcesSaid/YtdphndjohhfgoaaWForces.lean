/-
  Contracts: the first choice of forces, in the reference and in the program.
-/
import Derived.Test.YtdphndjohhfgoaaWStand
import Derived.Test.YtdphndjohhfgoaaWInts
import Derived.BigQuiet
import Derived.Deep.QuietTactic
import Derived.BigRegion
namespace Go.Proofs.Ytdphndjohhfgoaa
open Go.RowKit

theorem own_below2 {B base : Nat} {E : TypeId} {a w w' : World} {v : Value} {xs : List Int} {o : Obj} (hb : Below B a w) (hB : B ≤ w.heap.size) (hown : OwnV w base E v xs) (h : B ≤ base) (hg : (w.alloc o).grownBy w' v.ownBlock) : Below B a w' :=
  (hb.alloc hB o).grown hg (by simp; omega) (fun k hk => Nat.le_trans h (hown.ownLt k hk))
theorem own_ne {w : World} {g m base : Nat} {E E' : TypeId} {f : Nat → Value} {v : Value} {xs : List Int} (hr : RowF w g E m f) (ho : OwnV w base E' v xs) (hne : E ≠ E') : some g ≠ v.ownBlock := by
  rcases ho.form with ⟨rfl, _⟩ | ⟨g', cap, rfl, hi⟩
  · simp [Value.ownBlock]
  · intro e
    simp [Value.ownBlock] at e
    subst e
    obtain ⟨c, hb, _, _⟩ := hr
    rcases hi.2 with ⟨h1, _⟩ | ⟨g'', cap', cur, h1, _, h3, _⟩
    · simp at h1
    · simp at h1
      obtain ⟨rfl, rfl⟩ := h1
      rw [hb] at h3
      simp at h3
      exact hne h3.2
theorem cell_new1e {w : World} {u : Value} {t : TypeId} {b : Nat} (h : b = w.heap.size) : (w.alloc (.cells #[u] t)).cell? ⟨b, 0, none⟩ = some u := by subst h; exact cell_new1 w u t
/-- The force of span k. -/
def fc (zs : List Int) (n : Nat) : Nat → Int
  | 0 => (rng zs n (n - 1 - 0)).1
  | k + 1 => max (rng zs n (n - 1 - (k + 1))).1 (fc zs n k - nth zs (k * 3 + 2))
theorem fc_step (zs : List Int) (n k : Nat) : fc zs n (k + 1) = max (rng zs n (n - 1 - (k + 1))).1 (fc zs n k - nth zs (k * 3 + 2)) := rfl
theorem fc_0 (zs : List Int) (n : Nat) : fc zs n 0 = (rng zs n (n - 1 - 0)).1 := rfl
theorem fc_bd {zs : List Int} {n : Nat} (h : spansTo zs n) : ∀ k, k < n → 0 ≤ fc zs n k ∧ fc zs n k ≤ 10000
  | 0, hk => by
    have := rng_bd h (n - 1 - 0) (by omega)
    rw [fc_0]
    omega
  | k + 1, hk => by
    have ih := fc_bd h k (by omega)
    have h1 := rng_bd h (n - 1 - (k + 1)) (by omega)
    have h2 := spanB_out (h k (by omega))
    rw [fc_step]
    omega
def fcL (zs : List Int) (n k : Nat) : List Int := (List.range k).map (fc zs n)
theorem fcL_len (zs : List Int) (n k : Nat) : (fcL zs n k).length = k := by simp [fcL]
theorem fcL_step (zs : List Int) (n k : Nat) : fcL zs n k ++ [fc zs n k] = fcL zs n (k + 1) := by simp [fcL, List.range_succ]
theorem fcL_nth {zs : List Int} {n k j : Nat} (h : j < k) : nth (fcL zs n k) j = fc zs n j := by
  rw [nth_get _ _ (by rw [fcL_len]; exact h)]
  simp [fcL]
/-- What BridgeForces hands back. -/
def FPost (w : World) (zs : List Int) (n : Nat) (e : Ending) (w' : World) : Prop :=
  ∃ A k c, e = .returned (.tuple #[.slice A k c, .bool (standB zs n)]) ∧ OwnV w' w.heap.size 3 (.slice A k c) (if standB zs n = true then fcL zs n n else []) ∧ Below w.heap.size w w'
theorem fPost_f {w w' : World} {zs : List Int} {n : Nat} {A : Option Addr} {k c : Nat} (h : standB zs n = false) (ho : OwnV w' w.heap.size 3 (.slice A k c) []) (hb : Below w.heap.size w w') : FPost w zs n (.returned (.tuple #[.slice A k c, .bool false])) w' :=
  ⟨A, k, c, by rw [h], by rw [if_neg (by simp [h])]; exact ho, hb⟩
theorem fPost_t {w w' : World} {zs : List Int} {n : Nat} {A : Option Addr} {k c : Nat} (h : standB zs n = true) (ho : OwnV w' w.heap.size 3 (.slice A k c) (fcL zs n n)) (hb : Below w.heap.size w w') : FPost w zs n (.returned (.tuple #[.slice A k c, .bool true])) w' :=
  ⟨A, k, c, by rw [h], by rw [if_pos h]; exact ho, hb⟩

set_option maxRecDepth 100000 in
set_option maxHeartbeats 1000000 in
theorem sBridgeForces_any (A : Option Addr) (n c : Nat) (zs : List Int) (w : World) (h : RecsAt w w.heap.size 3 A n zs) (hn : n ≤ 1048576) :
    Calls Try.prog 36 #[.slice A n c] w (FPost w zs n) := by
  have H0 := Lib.hid (RecsAt.mono (h.alloc (Nat.le_refl _) (.cells #[] 3)) (show w.heap.size ≤ (w.alloc (.cells #[] 3)).heap.size by simp))
  have HA := Lib.hid ((Below.refl w.heap.size w).alloc (Nat.le_refl _) (.cells #[] 3))
  have HOW := Lib.hid (OwnI.new w 3)
  clear h
  cases hS : standB zs n
  · go_enter Try.func36, Try.ntmps36
    go_wp2_with fail
    refine (sBridgeStands_any _ _ _ zs _ H0.out hn).mono ?_
    rw [hS]
    rintro e w1 ⟨rfl, hb1⟩
    go_wp2
    go_ret2
    exact fPost_f hS (HOW.out.below hb1 (by simp)) (HA.out.trans (hb1.mono (by simp)))
  · have hB : spansB zs n = true := by
      cases h' : spansB zs n
      · rw [standB_f h'] at hS; cases hS
      · rfl
    have hO : okB2 zs n = true := by rw [standB_t hB] at hS; exact hS
    obtain ⟨⟨hn1, hn2⟩, hsp⟩ := spansB_out hB
    have HBD := Lib.hid (fc_bd hsp)
    have HSP := Lib.hid hsp
    have HRB := Lib.hid (rng_bd hsp)
    clear hsp
    go_enter Try.func36, Try.ntmps36
    go_wp2_with fail
    refine (sBridgeStands_any _ _ _ zs _ H0.out hn).mono ?_
    rw [hS]
    rintro e w1 ⟨rfl, hb1⟩
    have h1 := H0.out.after hb1
    go_wp2_with fail
    refine (l23Back_any _ _ _ zs _ h1 hB).mono ?_
    rintro e w2 ⟨g, cap, rfl, hrow, hb2⟩
    rw [hO]
    have HR := Lib.hid (hrow hO)
    have HS := Lib.hid hS
    have hb2' : Below w.heap.size w w2 := (HA.out.trans (hb1.mono (by simp))).trans (hb2.mono (by have := hb1.size; simp at this; omega))
    have HB2 := Lib.hid hb2'
    have HO2 := Lib.hid ((HOW.out.below hb1 (by simp)).below hb2 (by have := hb1.size; simp at this; omega))
    clear hrow hb1 hb2 hb2' h1 hO hB hS H0 HA HOW
    go_wp2
    go_loopw [4, 7] (fun v i wr => ∃ k : Nat, k ≤ n ∧ i = .int .i64 k ∧ OwnV wr w.heap.size 3 v (fcL zs n k) ∧ RowF wr g 67 (n * 3) (backF zs n (n - 1)) ∧ Below w.heap.size w wr) (fun _ i _ => n - (intOf i).toNat)
    case atStart => exact ⟨0, Nat.zero_le _, rfl, HO2.out, HR.out, HB2.out⟩
    case round =>
      clear HR HO2 HB2
      obtain ⟨k, hk, rfl, hown, hrow, hb⟩ := hrel
      have HR := Lib.hid hrow
      have HB := Lib.hid hb
      by_cases hlt : k < n
      · have c0 := hrow.cell (i := k * 3) (by omega)
        rw [backF_def, backV_low (by omega)] at c0
        have hgl := hrow.lt
        rcases k with _ | m
        · have HO := Lib.hid hown
          have HV := Lib.hid (fc_0 zs n)
          generalize (rng zs n (n - 1 - 0)).1 = Lo at *
          clear hrow hb hown
          have hni : (0 : Int) < (n : Int) := by omega
          have hnn : 0 < n := hn1
          go_wp2_with (at_builtin; refine wpList_append_int _ rfl _ _ 22 rfl w.heap.size 3 Try.underlying22 infoInt _ (fcL zs n (0)) rfl (HO.out.alloc _) _ _ Lo rfl (cell_new1 _ _ _) (by rw [fcL_len]; omega) (by have := HB.out.size; simp; omega) ?_; rw [fcL_len]; intro g' cap' w3 hown3 hgr3)
          have HB3 := Lib.hid (own_below2 HB.out (by have := HB.out.size; simp; omega) HO.out (Nat.le_refl _) hgr3)
          have HR3 := Lib.hid ((HR.out.alloc _).of_block (hgr3.block g (by have := HR.out.lt; simp; omega) (own_ne HR.out HO.out (by decide))))
          have HO3 : Hid (OwnV w3 w.heap.size 3 (.slice (some ⟨g', 0, none⟩) (0 + 1) cap') (fcL zs n (0 + 1))) := by
            have h := hown3
            unfold OwnI at h
            rw [List.length_append, fcL_len, ← HV.out, fcL_step] at h
            exact h
          clear hown3 hgr3
          go_wp2
          go_roundw
          case rel => exact ⟨0 + 1, by omega, by go_num, HO3.out, HR3.out, HB3.out⟩
          case measure => first | (simp [intOf]; done) | (simp [intOf]; omega)
        · have c2 := hrow.cell (i := m * 3 + 2) (by omega)
          rw [backF_def, backV_pier] at c2
          rcases hown.form with ⟨_, e0⟩ | ⟨go, co, rfl, hoi⟩
          · exact absurd (congrArg List.length e0) (by rw [fcL_len]; simp)
          have c3 := hoi.cell (j := m) (by rw [fcL_len]; omega)
          rw [fcL_nth (by omega)] at c3
          rw [fcL_len] at hown
          rw [fcL_len]
          have HO := Lib.hid hown
          have HV := Lib.hid (fc_step zs n m)
          have hbd := HBD.out m (by omega)
          have hs := spanB_out (HSP.out m (by omega))
          have hrb := HRB.out (n - 1 - (m + 1)) (by omega)
          generalize (rng zs n (n - 1 - (m + 1))).1 = Lo at *
          generalize fc zs n m = F at *
          generalize nth zs (m * 3 + 2) = Pp at *
          clear hrow hb hown hoi
          by_cases hmx : Lo < F - Pp
          · have HVV := Lib.hid (show fc zs n (m + 1) = F - Pp by rw [HV.out]; omega)
            go_wp2
            go_region
            go_wp2_with (at_builtin; refine wpList_append_int _ rfl _ _ 22 rfl w.heap.size 3 Try.underlying22 infoInt _ (fcL zs n (m + 1)) rfl (HO.out.alloc _) _ _ (F - Pp) rfl (cell_new1 _ _ _) (by rw [fcL_len]; omega) (by have := HB.out.size; simp; omega) ?_; rw [fcL_len]; intro g' cap' w3 hown3 hgr3)
            have HB3 := Lib.hid (own_below2 HB.out.drew (by have := HB.out.size; simp; omega) HO.out.drew (Nat.le_refl _) hgr3)
            have HR3 := Lib.hid ((HR.out.drew.alloc _).of_block (hgr3.block g (by have := HR.out.lt; simp; omega) (own_ne HR.out HO.out (by decide))))
            have HO3 : Hid (OwnV w3 w.heap.size 3 (.slice (some ⟨g', 0, none⟩) (m + 1 + 1) cap') (fcL zs n (m + 1 + 1))) := by
              have h := hown3
              unfold OwnI at h
              rw [List.length_append, fcL_len, ← HVV.out, fcL_step] at h
              exact h
            clear hown3 hgr3
            go_wp2
            go_roundw
            case rel => exact ⟨m + 1 + 1, by omega, by go_num, HO3.out, HR3.out, HB3.out⟩
            case measure => first | (simp [intOf]; done) | (simp [intOf]; omega)
          · have HVV := Lib.hid (show fc zs n (m + 1) = Lo by rw [HV.out]; omega)
            go_wp2
            go_region
            go_wp2_with (at_builtin; refine wpList_append_int _ rfl _ _ 22 rfl w.heap.size 3 Try.underlying22 infoInt _ (fcL zs n (m + 1)) rfl (HO.out.alloc _) _ _ Lo rfl (cell_new1 _ _ _) (by rw [fcL_len]; omega) (by have := HB.out.size; simp; omega) ?_; rw [fcL_len]; intro g' cap' w3 hown3 hgr3)
            have HB3 := Lib.hid (own_below2 HB.out.drew (by have := HB.out.size; simp; omega) HO.out.drew (Nat.le_refl _) hgr3)
            have HR3 := Lib.hid ((HR.out.drew.alloc _).of_block (hgr3.block g (by have := HR.out.lt; simp; omega) (own_ne HR.out HO.out (by decide))))
            have HO3 : Hid (OwnV w3 w.heap.size 3 (.slice (some ⟨g', 0, none⟩) (m + 1 + 1) cap') (fcL zs n (m + 1 + 1))) := by
              have h := hown3
              unfold OwnI at h
              rw [List.length_append, fcL_len, ← HVV.out, fcL_step] at h
              exact h
            clear hown3 hgr3
            go_wp2
            go_roundw
            case rel => exact ⟨m + 1 + 1, by omega, by go_num, HO3.out, HR3.out, HB3.out⟩
            case measure => first | (simp [intOf]; done) | (simp [intOf]; omega)
      · obtain rfl : k = n := by omega
        rcases hown.form with ⟨_, e0⟩ | ⟨go, co, rfl, hoi⟩
        · exact absurd (congrArg List.length e0) (by rw [fcL_len]; simp; omega)
        rw [fcL_len] at hown
        rw [fcL_len]
        have HO := Lib.hid hown
        clear hrow hb hown hoi
        go_wp2
        go_ret2
        exact fPost_t HS.out HO.out HB.out
set_option maxRecDepth 100000 in
set_option maxHeartbeats 1000000 in
theorem iBridgeForces_any (A : Option Addr) (n c : Nat) (zs : List Int) (w : World) (h : RecsAt w w.heap.size 3 A n zs) (hn : n ≤ 1048576) :
    Calls Try.prog 37 #[.slice A n c] w (FPost w zs n) := by
  cases hB : spansB zs n
  · have HF := Lib.hid (standB_f hB)
    go_enter Try.func37, Try.ntmps37
    go_wp2_with fail
    refine (iSpansOk_any _ _ _ zs _ h hn).mono ?_
    rw [hB]
    rintro e w1 ⟨rfl, hb1⟩
    go_wp2
    go_ret2
    exact fPost_f HF.out (OwnV.nil _ _ _) hb1
  · obtain ⟨⟨hn1, hn2⟩, hsp⟩ := spansB_out hB
    have HBD := Lib.hid (fc_bd hsp)
    have HSP := Lib.hid hsp
    have HRB := Lib.hid (rng_bd hsp)
    have HST := Lib.hid (standB_t hB)
    clear hsp
    go_enter Try.func37, Try.ntmps37
    go_wp2_with fail
    refine (iSpansOk_any _ _ _ zs _ h hn).mono ?_
    rw [hB]
    rintro e w1 ⟨rfl, hb1⟩
    have h1 := h.after hb1
    go_wp2_with fail
    refine (forcesFrom_any _ _ _ zs _ h1 hB).mono ?_
    rintro e w2 ⟨rfl, hrow, hb2⟩
    have hb2' : Below w.heap.size w w2 := hb1.trans (hb2.mono hb1.size)
    cases hO : okB2 zs n
    · rw [hO] at HST
      go_wp2
      go_ret2
      exact fPost_f HST.out (OwnV.nil _ _ _) hb2'
    · rw [hO] at HST
      have H2 := Lib.hid (h.below hb2')
      have HH := Lib.hid h
      have HR := Lib.hid hrow
      have HB2 := Lib.hid hb2'
      clear hrow hb1 hb2 hb2' h1 hO hB h
      go_wp2
      go_loopw [6, 21] (fun v i wr => ∃ k : Nat, k ≤ n ∧ i = .int .i64 k ∧ OwnV wr w.heap.size 3 v (fcL zs n k) ∧ RowF wr w1.heap.size 90 (n * 2) (frF zs n 0) ∧ RecsAt wr w.heap.size 3 A n zs ∧ Below w.heap.size w wr) (fun _ i _ => n - (intOf i).toNat)
      case atStart => exact ⟨0, Nat.zero_le _, rfl, OwnV.nil _ _ _, HR.out, H2.out, HB2.out⟩
      case round =>
        clear HR HB2 H2
        obtain ⟨k, hk, rfl, hown, hrow, hrec, hb⟩ := hrel
        have HR := Lib.hid hrow
        have HB := Lib.hid hb
        have HRE := Lib.hid hrec
        by_cases hlt : k < n
        · have c0 := hrow.cell (i := k * 2) (by omega)
          have c1 := hrow.cell (i := k * 2 + 1) (by omega)
          rw [frF_def, frV_lo (Nat.zero_le _)] at c0
          rw [frF_def, frV_hi (Nat.zero_le _)] at c1
          have hgl := hrow.lt
          rcases k with _ | m
          · have HO := Lib.hid hown
            have HV := Lib.hid (fc_0 zs n)
            generalize (rng zs n (n - 1 - 0)).1 = Lo at *
            generalize (rng zs n (n - 1 - 0)).2 = Hi at *
            clear hrow hb hown hrec
            have hni : (0 : Int) < (n : Int) := by omega
            have hnn : 0 < n := hn1
            replace HO := Lib.hid (HO.out.alloc (.cells #[.int .i64 Lo, .int .i64 Hi] 90))
            replace HR := Lib.hid (HR.out.alloc (.cells #[.int .i64 Lo, .int .i64 Hi] 90))
            replace HB := Lib.hid (HB.out.alloc HB.out.size (.cells #[.int .i64 Lo, .int .i64 Hi] 90))
            go_wp2_with (at_builtin; refine wpList_append_int _ rfl _ _ 22 rfl w.heap.size 3 Try.underlying22 infoInt _ (fcL zs n (0)) rfl (HO.out.alloc _) _ _ Lo rfl (cell_new1e (by simp)) (by rw [fcL_len]; omega) (by have := HB.out.size; (try simp); (try simp at this); omega) ?_; rw [fcL_len]; intro g' cap' w4 hown4 hgr4)
            have HB4 := Lib.hid (own_below2 HB.out (by have := HB.out.size; (try simp); (try simp at this); omega) HO.out (Nat.le_refl _) hgr4)
            have HR4 := Lib.hid ((HR.out.alloc _).of_block (hgr4.block _ (by have := HR.out.lt; (try simp); (try simp at this); omega) (own_ne HR.out HO.out (by decide))))
            have HO4 : Hid (OwnV w4 w.heap.size 3 (.slice (some ⟨g', 0, none⟩) (0 + 1) cap') (fcL zs n (0 + 1))) := by
              have h := hown4
              unfold OwnI at h
              rw [List.length_append, fcL_len, ← HV.out, fcL_step] at h
              exact h
            clear hown4 hgr4
            go_wp2
            go_roundw
            case rel => exact ⟨0 + 1, by omega, by go_num, HO4.out, HR4.out, RecsAt.below HH.out HB4.out, HB4.out⟩
            case measure => first | (simp [intOf]; done) | (simp [intOf]; omega)
          · rcases hown.form with ⟨_, e0⟩ | ⟨go, co, rfl, hoi⟩
            · exact absurd (congrArg List.length e0) (by rw [fcL_len]; simp)
            have c3 := hoi.cell (j := m) (by rw [fcL_len]; omega)
            have hgo := hoi.blk
            rw [fcL_nth (by omega)] at c3
            rw [fcL_len] at hown
            rw [fcL_len]
            obtain ⟨b, off, rfl, hbB, hc⟩ := hrec.2 (by omega)
            have x2 : wr.cell? ⟨b, off + m * 3 + 2, none⟩ = some (.int .i64 (nth zs (m * 3 + 2))) := by have := hc (m * 3 + 2) (by omega); rwa [← Nat.add_assoc] at this
            have hz := hb.size
            have HO := Lib.hid hown
            have HV := Lib.hid (fc_step zs n m)
            have hbd := HBD.out m (by omega)
            have hs := spanB_out (HSP.out m (by omega))
            have hrb := HRB.out (n - 1 - (m + 1)) (by omega)
            generalize (rng zs n (n - 1 - (m + 1))).1 = Lo at *
            generalize (rng zs n (n - 1 - (m + 1))).2 = Hi at *
            generalize fc zs n m = F at *
            generalize nth zs (m * 3 + 2) = Pp at *
            obtain ⟨X, hX⟩ : ∃ X, X = max Lo (F - Pp) := ⟨_, rfl⟩
            obtain ⟨Y, hY⟩ : ∃ Y, Y = min Hi (F + Pp) := ⟨_, rfl⟩
            rw [← hX] at HV
            have HX := Lib.hid hX
            have HY := Lib.hid hY
            clear hrow hb hown hrec hc hoi hX hY
            have d3 : (wr.alloc (.cells #[.int .i64 Lo, .int .i64 Hi] 90)).cell? ⟨go, m, none⟩ = some (.int .i64 F) := (cell_alloc_old hgo.2).trans c3
            have d2 : (wr.alloc (.cells #[.int .i64 Lo, .int .i64 Hi] 90)).cell? ⟨b, off + m * 3 + 2, none⟩ = some (.int .i64 Pp) := (cell_alloc_old (by omega)).trans x2
            have D2 := Lib.hid d2
            have D3 := Lib.hid d3
            have HW : Hid (RowF (wr.alloc (.cells #[.int .i64 Lo, .int .i64 Hi] 90)) wr.heap.size 90 2 (fun j => if j = 1 then .int .i64 Hi else .int .i64 Lo)) :=
              RowF.of_row (World.rowIs_alloc wr #[.int .i64 Lo, .int .i64 Hi] _ _ (fun j hj => by simp at hj; match j, hj with | 0, _ => rfl | 1, _ => rfl))
            go_wp2
            have i5 : (0 : Int) ≤ (m : Int) := by omega
            have i4 : (m : Int) < (n : Int) := by omega
            have i6 : (m : Int) < ((m + 1 : Nat) : Int) := by omega
            have i1 : IntKind.i64.wrap (((m + 1 : Nat) : Int) - 1) = (m : Int) := by rw [show ((m + 1 : Nat) : Int) - 1 = (m : Int) by omega]; exact IntWalk.i64_in _ (by omega)
            have i2 : (m : Int) < (m : Int) + 1 := by omega
            have i7 : IntKind.i64.wrap (m : Int) = (m : Int) := IntWalk.i64_in _ (by omega)
            go_region_held3 (fun w' => w'.cell? ⟨go, m, none⟩ = some (.int .i64 F) ∧ w'.cell? ⟨b, off + m * 3 + 2, none⟩ = some (.int .i64 Pp)) (first | (simp [*]; done) | exact ⟨q1, q2⟩) ((go_at_call 70; refine (narrow_row wr.heap.size 0 2 _ Lo Hi F F Pp X Y _ (by exact HW.out.drew) (by omega) (by simp) (by simp) (by omega) (by omega) (by omega) (by omega) (by omega) HX.out HY.out).mono ?_; rintro e w3 ⟨rfl, hrow3, hgr3⟩; have q1 : w3.cell? ⟨go, m, none⟩ = some (.int .i64 F) := (hgr3.cell D3.out (by simp; omega)); have q2 : w3.cell? ⟨b, off + m * 3 + 2, none⟩ = some (.int .i64 Pp) := (hgr3.cell D2.out (by simp; omega))))
            rename_i hHeld
            clear hHeld q1 q2 d2 d3 i1 i7
            have y0 : w3.cell? ⟨wr.heap.size, 0, none⟩ = some (.int .i64 X) := (hrow3.cell (by omega)).trans (by simp)
            have hbw : Below wr.heap.size wr w3 := (((Below.refl _ wr).alloc (Nat.le_refl _) _).drew).grown hgr3 (by simp) (fun k hk => by simp at hk; omega)
            have hz3 := hbw.size
            replace HO := Lib.hid (HO.out.below hbw)
            replace HR := Lib.hid (HR.out.after hbw)
            replace HB := Lib.hid (HB.out.trans (hbw.mono hz))
            clear hrow3 hgr3 hbw c0 c1 c3 x2
            go_wp2_with (at_builtin; refine wpList_append_int _ rfl _ _ 22 rfl w.heap.size 3 Try.underlying22 infoInt _ (fcL zs n (m + 1)) rfl (HO.out.alloc _) _ _ X rfl (cell_new1e (by simp)) (by rw [fcL_len]; omega) (by have := HB.out.size; (try simp); (try simp at this); omega) ?_; rw [fcL_len]; intro g' cap' w4 hown4 hgr4)
            have HB4 := Lib.hid (own_below2 HB.out (by have := HB.out.size; (try simp); (try simp at this); omega) HO.out (Nat.le_refl _) hgr4)
            have HR4 := Lib.hid ((HR.out.alloc _).of_block (hgr4.block _ (by have := HR.out.lt; (try simp); (try simp at this); omega) (own_ne HR.out HO.out (by decide))))
            have HO4 : Hid (OwnV w4 w.heap.size 3 (.slice (some ⟨g', 0, none⟩) (m + 1 + 1) cap') (fcL zs n (m + 1 + 1))) := by
              have h := hown4
              unfold OwnI at h
              rw [List.length_append, fcL_len, ← HV.out, fcL_step] at h
              exact h
            clear hown4 hgr4
            go_wp2
            go_roundw
            case rel => exact ⟨m + 1 + 1, by omega, by go_num, HO4.out, HR4.out, RecsAt.below HH.out HB4.out, HB4.out⟩
            case measure => first | (simp [intOf]; done) | (simp [intOf]; omega)
        · obtain rfl : k = n := by omega
          rcases hown.form with ⟨_, e0⟩ | ⟨go, co, rfl, hoi⟩
          · exact absurd (congrArg List.length e0) (by rw [fcL_len]; simp; omega)
          rw [fcL_len] at hown
          rw [fcL_len]
          have HO := Lib.hid hown
          clear hrow hb hown hoi hrec
          go_wp2
          go_ret2
          exact fPost_t HST.out HO.out HB.out
end Go.Proofs.Ytdphndjohhfgoaa
