/-
  Contract: the fewest blocks, in the reference.
-/
import Derived.Test.YtdphndjohhfgoaaWSizes
import Derived.Test.YtdphndjohhfgoaaPFew
namespace Go.Proofs.Ytdphndjohhfgoaa
open Go.RowKit

theorem made0 (n : Nat) (h : 0 < n) : (madeCells #[Value.int .i64 0] n)[0]? = some (.int .i64 0) := by simp [madeCells, h]
def fstV (T : Nat → Int × Int) (j : Nat) : Value := .int .i64 (T j).1
def sndV (T : Nat → Int × Int) (j : Nat) : Value := .int .i64 (T j).2
theorem rowIs_drewN {w : World} {b : Nat} {t : TypeId} {n : Nat} {f : Nat → Value} (h : w.rowIs b t n f) (k : Nat) : (w.drewN k).rowIs b t n f := h
theorem rows_set {w : World} {g N S nq : Nat} {E : TypeId} {T : Nat → Int × Int} {cur : Int × Int} (c1 c2 : Int) (h1 : w.rowIs g E N (fstV (upd T S cur))) (h2 : w.rowIs (g + 1) E N (sndV (upd T S cur))) :
    (((w.drewN nq).setCell ⟨g, S, none⟩ (.int .i64 c1)).setCell ⟨g + 1, S, none⟩ (.int .i64 c2)).rowIs g E N (fstV (upd T S (c1, c2))) ∧ (((w.drewN nq).setCell ⟨g, S, none⟩ (.int .i64 c1)).setCell ⟨g + 1, S, none⟩ (.int .i64 c2)).rowIs (g + 1) E N (sndV (upd T S (c1, c2))) := by
  refine ⟨World.rowIs.congr (World.rowIs.setOther (World.rowIs.set (rowIs_drewN h1 nq) S (.int .i64 c1)) (a := ⟨g + 1, S, none⟩) (by simp) _) (fun j _ => ?_), World.rowIs.congr (World.rowIs.set (World.rowIs.setOther (rowIs_drewN h2 nq) (a := ⟨g, S, none⟩) (by simp) _) S (.int .i64 c2)) (fun j _ => ?_)⟩
  · unfold fstV upd; split <;> rfl
  · unfold sndV upd; split <;> rfl

set_option maxRecDepth 100000 in
set_option maxHeartbeats 4000000 in
theorem sFewS_any (A : Option Addr) (n c : Nat) (zs : List Int) (len : Int) (w : World) (h : IntsAt w w.heap.size A n zs) (hn : n ≤ 1048576) :
    Calls Try.prog 45 #[.slice A n c, .int .i64 len] w fun e w' => e = .returned (.int .i64 (fewS zs len)) ∧ Below w.heap.size w w' := by
  cases hok : okB zs len
  · have HF := Lib.hid (fewS_f hok)
    go_enter Try.func45, Try.ntmps45
    go_wp2_with (go_at_call 78; refine (l27Ok_any _ _ _ zs _ _ h hn).mono ?_; rintro e w' ⟨rfl, rfl⟩)
    go_ret
    exact ⟨ret_int HF.out.symm, Below.refl _ _⟩
  have HF := Lib.hid (fewS_t hok)
  obtain ⟨⟨l1, l2⟩, l3, l4⟩ := okB_out hok
  have H := Lib.hid h
  rw [h.1] at l3 l4
  have HZ := Lib.hid l4
  have HFI := Lib.hid (fine_tab (f := stpS len) (b0 := (0, len)) (zs := zs) (n := n) (len := len) (by omega) ⟨by simp, by simp; omega, by simp; omega, by simp⟩ (fun c k hk h => fine_S h (l4 k hk).1 (l4 k hk).2))
  have h' := h
  clear h l4
  have hsh := wrap_p2 n l3
  have hpn := p2_le n l3
  have hpn0 := p2_pos n
  have hm0 := made0 (p2 n) hpn0
  have hmk := run_make_row' (P := Try.prog) 22 3 (.int .i64 0) 8 Try.underlying22 infoInt rfl .i64 .i64 (p2 n) (by omega) (by omega)
  go_enter Try.func45, Try.ntmps45
  go_wp2_with (go_at_call 78; refine (l27Ok_any _ _ _ zs _ _ h' hn).mono ?_; rintro e w' ⟨rfl, rfl⟩)
  clear hm0 hmk h' hok
  go_loopw [8] (fun i wr => ∃ S : Nat, 1 ≤ S ∧ S ≤ p2 n ∧ i = .int .i64 S ∧ wr.rowIs w.heap.size 3 (p2 n) (fstV (tab (stpS len) (0, len) zs n (S - 1))) ∧ wr.rowIs (w.heap.size + 1) 3 (p2 n) (sndV (tab (stpS len) (0, len) zs n (S - 1))) ∧ Below w.heap.size w wr) (fun i _ => p2 n - (intOf i).toNat)
  case atStart =>
    refine ⟨1, Nat.le_refl _, hpn0, rfl, ?_, ?_, ((Below.refl _ _).alloc (Nat.le_refl _) _).alloc (by simp) _⟩
    · refine (World.rowIs.alloc (World.rowIs_made w (.int .i64 0) (p2 n) 3) _).congr (fun j _ => ?_)
      show Value.int .i64 0 = Value.int .i64 (tab (stpS len) (0, len) zs n 0 j).1
      simp only [tab]; split <;> rfl
    · have hr := World.rowIs_alloc (w.alloc (.cells (madeCells #[.int .i64 0] (p2 n)) 3)) ((madeCells #[.int .i64 0] (p2 n)).setIfInBounds 0 (.int .i64 len)) 3 (sndV (tab (stpS len) (0, len) zs n 0)) (fun j hj => by
        have hj' : j < p2 n := by simpa [size_madeCells] using hj
        rw [Array.getElem?_setIfInBounds]
        by_cases h0 : j = 0
        · subst h0; simp [size_madeCells, hpn0, sndV, tab]
        · rw [if_neg (fun h => h0 h.symm)]
          simp [madeCells, hj', Nat.mod_one, sndV, tab, h0])
      simpa [size_madeCells] using hr
  case round =>
    obtain ⟨S, hS1, hSn, rfl, hr1, hr2, hb⟩ := hrel
    by_cases hlt : S < p2 n
    · have HTN := Lib.hid (tab_next (stpS len) (0, len) zs n S hS1)
      have HFAR := Lib.hid (tab_far (stpS len) (0, len) zs n (S - 1) S (by omega))
      have HFT := Lib.hid (HFI.out (S - 1))
      have HIF := Lib.hid (fun k hk => fine_innr (f := stpS len) (T := tab (stpS len) (0, len) zs n (S - 1)) (zs := zs) (n := n) (s := S) (len := len) (by omega) (HFI.out (S - 1)) (fun c k hk h => fine_S h (HZ.out k hk).1 (HZ.out k hk).2) k hk)
      generalize tab (stpS len) (0, len) zs n (S - 1) = T at *
      have HR1 := Lib.hid hr1
      have HR2 := Lib.hid hr2
      have HB := Lib.hid hb
      have hc1 := hr1.cell hlt
      have hf1 := hr1.frozen S
      unfold fstV at hc1
      generalize (T S).1 = v0 at *
      clear hr1 hr2 hb
      obtain ⟨wo, rfl⟩ : ∃ wo : World, wo = wr := ⟨_, rfl⟩
      go_wp2
      clear hsh
      go_loopw [9] (fun i wi => ∃ k : Nat, k ≤ n ∧ i = .int .i64 k ∧ wi.rowIs w.heap.size 3 (p2 n) (fstV (upd T S (innr (stpS len) T zs n S k))) ∧ wi.rowIs (w.heap.size + 1) 3 (p2 n) (sndV (upd T S (innr (stpS len) T zs n S k))) ∧ Below w.heap.size w wi) (fun i _ => n - (intOf i).toNat)
      case atStart =>
        refine ⟨0, Nat.zero_le _, rfl, (World.rowIs.set HR1.out S _).congr (fun j _ => ?_), (World.rowIs.setOther HR2.out (a := ⟨w.heap.size, S, none⟩) (by simp) _).congr (fun j _ => ?_), HB.out.setCell (Nat.le_refl _) _⟩
        · unfold fstV upd; split <;> rfl
        · unfold sndV upd
          split
          · rename_i e; subst e; rw [HFAR.out]; rfl
          · rfl
      case round =>
        clear hc1 hf1 HR1 HR2 HB
        obtain ⟨k, hk, rfl, hr1, hr2, hb⟩ := hrel
        have HR1 := Lib.hid hr1
        have HR2 := Lib.hid hr2
        have HB := Lib.hid hb
        by_cases hkn : k < n
        · have hshk := wrap_p2 k (by omega)
          have HBIT := Lib.hid (bit_at S k (by omega))
          by_cases hbit : S / p2 k % 2 = 1
          · have htb : (bits BinOp.and IntKind.i64 ((S : Int) / 2 ^ k) 1 == 0) = false := by rw [HBIT.out, hbit]; rfl
            have hle := p2_le_of_bit hbit
            have hp0 := p2_pos k
            have HIN := Lib.hid (innr_bit (f := stpS len) (T := T) (zs := zs) (n := n) hbit)
            have hcf := HIF.out k (by omega)
            obtain ⟨t, hteq⟩ : ∃ t, t = S - p2 k := ⟨_, rfl⟩
            have hTf := HFT.out t
            have htS : t < S := by omega
            have hidx : (S : Int) - ((p2 k : Nat) : Int) = (t : Int) := by omega
            rw [← hteq] at HIN
            have ct1 := hr1.cell (i := t) (by omega)
            have ct2 := hr2.cell (i := t) (by omega)
            have cs1 := hr1.cell hlt
            have cs2 := hr2.cell hlt
            have fs1 := hr1.frozen S
            have fs2 := hr2.frozen S
            unfold fstV at ct1 cs1
            unfold sndV at ct2 cs2
            rw [upd_other _ _ (by omega)] at ct1 ct2
            rw [upd_same] at cs1 cs2
            generalize innr (stpS len) T zs n S k = cur at *
            obtain ⟨cb, cu⟩ := cur
            generalize hTt : T t = e at *
            obtain ⟨b, u⟩ := e
            simp only at ct1 ct2 cs1 cs2
            obtain ⟨bz, off, rfl, hbB, hcz⟩ := H.out.2 (by omega)
            have hz := HZ.out k hkn
            have hck : wr.cell? ⟨bz, off + k, none⟩ = some (.int .i64 (nth zs k)) := (hb.cell (by exact hbB)).trans (hcz k hkn)
            generalize nth zs k = z at *
            obtain ⟨z1, z2⟩ := hz
            obtain ⟨f1, f2, f3, f4⟩ := hTf
            obtain ⟨q1, q2, q3, q4⟩ := hcf
            simp only at f1 f2 f3 f4 q1 q2 q3 q4
            have ti : (t : Int) < ((p2 n : Nat) : Int) := by omega
            have t0 : (0 : Int) ≤ (t : Int) := by omega
            have ki : (k : Int) < (n : Int) := by omega
            have k0 : (0 : Int) ≤ (k : Int) := by omega
            clear hr1 hr2 hb hcz hbit hteq hTt HFT HIF
            by_cases hov : len < u + z
            · have HC : Hid (stpS len (b, u) z = (b + 1, z)) := stpS_over (c := (b, u)) hov
              rcases (show b + 1 < cb ∨ b + 1 = cb ∨ cb < b + 1 by omega) with hl | he | hg
              · have HP := Lib.hid (pickP_t (c := ((b + 1), z)) (d := (cb, cu)) (.inl hl))
                go_wp2
                go_quiet (fail)
                go_wp2
                go_roundw
                case rel =>
                  have R := rows_set (nq := nq) (b + 1) z HR1.out HR2.out
                  exact ⟨k + 1, by omega, by go_num, by rw [HIN.out, HC.out, HP.out]; exact R.1, by rw [HIN.out, HC.out, HP.out]; exact R.2, ((below_drewN HB.out _).setCell (Nat.le_refl _) _).setCell (Nat.le_succ _) _⟩
                case measure => simp [intOf]; omega
              · have he1 : ((b + 1) == cb) = true := beq_iff_eq.2 he
                have hd0 : decide ((b + 1) < cb) = false := decide_eq_false (by omega)
                by_cases hu : z < cu
                · have HP := Lib.hid (pickP_t (c := ((b + 1), z)) (d := (cb, cu)) (.inr ⟨he, hu⟩))
                  clear he
                  go_wp2
                  go_quiet (fail)
                  go_wp2
                  go_roundw
                  case rel =>
                    have R := rows_set (nq := nq) (b + 1) z HR1.out HR2.out
                    exact ⟨k + 1, by omega, by go_num, by rw [HIN.out, HC.out, HP.out]; exact R.1, by rw [HIN.out, HC.out, HP.out]; exact R.2, ((below_drewN HB.out _).setCell (Nat.le_refl _) _).setCell (Nat.le_succ _) _⟩
                  case measure => simp [intOf]; omega
                · have HP := Lib.hid (pickP_f (c := ((b + 1), z)) (d := (cb, cu)) (fun h => by rcases h with h | h <;> simp only at h <;> omega))
                  have hd1 : decide (z < cu) = false := decide_eq_false hu
                  clear he
                  go_wp2
                  go_quiet (fail)
                  go_wp2
                  go_roundw
                  case rel => exact ⟨k + 1, by omega, by go_num, by rw [HIN.out, HC.out, HP.out]; exact rowIs_drewN HR1.out _, by rw [HIN.out, HC.out, HP.out]; exact rowIs_drewN HR2.out _, below_drewN HB.out _⟩
                  case measure => simp [intOf]; omega
              · have HP := Lib.hid (pickP_f (c := ((b + 1), z)) (d := (cb, cu)) (fun h => by rcases h with h | h <;> simp only at h <;> omega))
                have hd1 : decide ((b + 1) < cb) = false := decide_eq_false (by omega)
                have hd2 : ((b + 1) == cb) = false := by simp; omega
                go_wp2
                go_quiet (fail)
                go_wp2
                go_roundw
                case rel => exact ⟨k + 1, by omega, by go_num, by rw [HIN.out, HC.out, HP.out]; exact rowIs_drewN HR1.out _, by rw [HIN.out, HC.out, HP.out]; exact rowIs_drewN HR2.out _, below_drewN HB.out _⟩
                case measure => simp [intOf]; omega
            · have HC : Hid (stpS len (b, u) z = (b, u + z)) := stpS_in (c := (b, u)) hov
              rcases (show b < cb ∨ b = cb ∨ cb < b by omega) with hl | he | hg
              · have HP := Lib.hid (pickP_t (c := (b, (u + z))) (d := (cb, cu)) (.inl hl))
                go_wp2
                go_quiet (fail)
                go_wp2
                go_roundw
                case rel =>
                  have R := rows_set (nq := nq) b (u + z) HR1.out HR2.out
                  exact ⟨k + 1, by omega, by go_num, by rw [HIN.out, HC.out, HP.out]; exact R.1, by rw [HIN.out, HC.out, HP.out]; exact R.2, ((below_drewN HB.out _).setCell (Nat.le_refl _) _).setCell (Nat.le_succ _) _⟩
                case measure => simp [intOf]; omega
              · have he1 : (b == cb) = true := beq_iff_eq.2 he
                have hd0 : decide (b < cb) = false := decide_eq_false (by omega)
                by_cases hu : (u + z) < cu
                · have HP := Lib.hid (pickP_t (c := (b, (u + z))) (d := (cb, cu)) (.inr ⟨he, hu⟩))
                  clear he
                  go_wp2
                  go_quiet (fail)
                  go_wp2
                  go_roundw
                  case rel =>
                    have R := rows_set (nq := nq) b (u + z) HR1.out HR2.out
                    exact ⟨k + 1, by omega, by go_num, by rw [HIN.out, HC.out, HP.out]; exact R.1, by rw [HIN.out, HC.out, HP.out]; exact R.2, ((below_drewN HB.out _).setCell (Nat.le_refl _) _).setCell (Nat.le_succ _) _⟩
                  case measure => simp [intOf]; omega
                · have HP := Lib.hid (pickP_f (c := (b, (u + z))) (d := (cb, cu)) (fun h => by rcases h with h | h <;> simp only at h <;> omega))
                  have hd1 : decide ((u + z) < cu) = false := decide_eq_false hu
                  clear he
                  go_wp2
                  go_quiet (fail)
                  go_wp2
                  go_roundw
                  case rel => exact ⟨k + 1, by omega, by go_num, by rw [HIN.out, HC.out, HP.out]; exact rowIs_drewN HR1.out _, by rw [HIN.out, HC.out, HP.out]; exact rowIs_drewN HR2.out _, below_drewN HB.out _⟩
                  case measure => simp [intOf]; omega
              · have HP := Lib.hid (pickP_f (c := (b, (u + z))) (d := (cb, cu)) (fun h => by rcases h with h | h <;> simp only at h <;> omega))
                have hd1 : decide (b < cb) = false := decide_eq_false (by omega)
                have hd2 : (b == cb) = false := by simp; omega
                go_wp2
                go_quiet (fail)
                go_wp2
                go_roundw
                case rel => exact ⟨k + 1, by omega, by go_num, by rw [HIN.out, HC.out, HP.out]; exact rowIs_drewN HR1.out _, by rw [HIN.out, HC.out, HP.out]; exact rowIs_drewN HR2.out _, below_drewN HB.out _⟩
                case measure => simp [intOf]; omega
          · have htb : (bits BinOp.and IntKind.i64 ((S : Int) / 2 ^ k) 1 == 0) = true := by rw [HBIT.out, show S / p2 k % 2 = 0 by omega]; rfl
            have HIN := Lib.hid (innr_no (f := stpS len) (T := T) (zs := zs) (n := n) (s := S) (k := k) (by omega))
            clear hr1 hr2 hb hbit HFT HIF
            go_wp2
            go_roundw
            case rel => exact ⟨k + 1, by omega, by go_num, by rw [HIN.out]; exact HR1.out, by rw [HIN.out]; exact HR2.out, HB.out⟩
            case measure => simp [intOf]; omega
        · have hkn' : k = n := by omega
          subst hkn'
          clear hr1 hr2 hb
          go_wp2
          go_roundw
          case rel => exact ⟨S + 1, by omega, by omega, by go_num, by rw [Nat.add_sub_cancel, HTN.out]; exact HR1.out, by rw [Nat.add_sub_cancel, HTN.out]; exact HR2.out, HB.out⟩
          case measure => simp [intOf]; omega
    · have hSe : S = p2 n := by omega
      subst hSe
      have hce := hr1.cell (i := p2 n - 1) (by omega)
      unfold fstV at hce
      have HL := Lib.hid (show fewS zs len = (tab (stpS len) (0, len) zs n (p2 n - 1) (p2 n - 1)).1 by rw [HF.out, H.out.1])
      have HB := Lib.hid hb
      generalize (tab (stpS len) (0, len) zs n (p2 n - 1) (p2 n - 1)).1 = r at *
      have hpi : (1 : Int) ≤ ((p2 n : Nat) : Int) := by omega
      clear hr1 hr2 hb
      go_wp2
      go_ret
      exact ⟨ret_int HL.out.symm, HB.out⟩

end Go.Proofs.Ytdphndjohhfgoaa
