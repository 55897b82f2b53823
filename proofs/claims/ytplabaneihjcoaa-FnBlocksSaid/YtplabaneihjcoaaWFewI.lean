/-
  Contract: the fewest blocks, in the program.
-/
import Derived.Test.YtplabaneihjcoaaWSizes
import Derived.Test.YtplabaneihjcoaaPFew
import Derived.Test.YtplabaneihjcoaaWLess
import Derived.Deep.RegionHeld3
namespace Go.Proofs.Ytplabaneihjcoaa
open Go.RowKit

theorem infoCut : (Try.prog.info? 88).map (fun i => (i.zero, i.size, i.bytes)) = some (some (.agg #[.int .i64 0, .int .i64 0]), 2, 16) := by kernel_rfl
theorem run_make_cut (n : Nat) (hn : n ≤ 1048576) (w : World) : (Instr.makeSlice 86 (.int .i64 (n : Int)) (.int .i64 (n : Int))).run Try.prog w = .ok (.slice (some ⟨w.heap.size, 0, none⟩) n n) (w.alloc (.cells (madeCells #[.int .i64 0, .int .i64 0] (n * 2)) 88)) := by
  obtain ⟨i0, hi0, hz0, hz1, hz2⟩ := info_parts infoCut
  have h := run_make (P := Try.prog) w 86 88 i0 (.agg #[.int .i64 0, .int .i64 0]) Try.underlying86 hi0 hz0 .i64 .i64 (n : Int) (n : Int) (by omega) (by omega) (by rw [hz2]; omega) (by omega)
  simpa [hz1, Value.cells] using h
def cutV (U : Nat → Int × Int) (i : Nat) : Value := if i % 2 = 0 then .int .i64 (U (i / 2)).1 else .int .i64 (U (i / 2)).2
theorem cutV_0 (U : Nat → Int × Int) (j : Nat) : cutV U (j * 2) = .int .i64 (U j).1 := by simp [cutV]
theorem cutV_1 (U : Nat → Int × Int) (j : Nat) : cutV U (j * 2 + 1) = .int .i64 (U j).2 := by
  have h1 : (j * 2 + 1) % 2 = 1 := by omega
  have h2 : (j * 2 + 1) / 2 = j := by omega
  simp [cutV, h1, h2]
theorem cutV_upd (T : Nat → Int × Int) (S : Nat) (cur : Int × Int) (c1 c2 : Int) (i : Nat) : (if i = S * 2 + 1 then Value.int .i64 c2 else if i = S * 2 then Value.int .i64 c1 else cutV (upd T S cur) i) = cutV (upd T S (c1, c2)) i := by
  by_cases h1 : i = S * 2 + 1
  · subst h1; rw [if_pos rfl, cutV_1, upd_same]
  · by_cases h2 : i = S * 2
    · subst h2; rw [if_neg (by omega), if_pos rfl, cutV_0, upd_same]
    · rw [if_neg h1, if_neg h2]
      unfold cutV
      have : i / 2 ≠ S := by omega
      rw [upd_other _ _ this, upd_other _ _ this]
theorem cut_set {w : World} {g N S : Nat} {E : TypeId} {T : Nat → Int × Int} {cur : Int × Int} (c1 c2 : Int) (h : w.rowIs g E N (cutV (upd T S cur))) :
    ((w.setCell ⟨g, S * 2, none⟩ (.int .i64 c1)).setCell ⟨g, S * 2 + 1, none⟩ (.int .i64 c2)).rowIs g E N (cutV (upd T S (c1, c2))) :=
  World.rowIs.congr (World.rowIs.set (World.rowIs.set h (S * 2) (.int .i64 c1)) (S * 2 + 1) (.int .i64 c2)) (fun i _ => cutV_upd T S cur c1 c2 i)
theorem frozen_alloc_old {w : World} {o : Obj} {g i : Nat} (hg : g < w.heap.size) (h : w.frozen? ⟨g, i, none⟩ = false) : (w.alloc o).frozen? ⟨g, i, none⟩ = false :=
  (World.frozen?_of_block (a := ⟨g, i, none⟩) (Below.heap_alloc w o g hg)).trans h
theorem pickP_no {c d : Int × Int} (h : lessP c d = false) : pickP c d = d := by simp [pickP, h]
theorem pickP_yes {c d : Int × Int} (h : lessP c d = true) : pickP c d = c := by simp [pickP, h]
theorem andNot_fin : ∀ S : Fin 1024, ∀ k : Fin 10, S.val / 2 ^ k.val % 2 = 1 → bits .andNot .i64 (S.val : Int) ((2 ^ k.val : Nat) : Int) = ((S.val - 2 ^ k.val : Nat) : Int) := by decide +kernel
theorem andNot_p2 {S k : Nat} (hS : S < 1024) (hk : k < 10) (h : S / p2 k % 2 = 1) : bits .andNot .i64 (S : Int) ((p2 k : Nat) : Int) = ((S - p2 k : Nat) : Int) := andNot_fin ⟨S, hS⟩ ⟨k, hk⟩ h

set_option maxRecDepth 100000 in
set_option maxHeartbeats 4000000 in
theorem iFewestBlocks_any (A : Option Addr) (n c : Nat) (zs : List Int) (len : Int) (w : World) (h : IntsAt w w.heap.size A n zs) (hn : n ≤ 1048576) :
    Calls Try.prog 26 #[.slice A n c, .int .i64 len] w fun e w' => e = .returned (.int .i64 (fewI zs len)) ∧ Below w.heap.size w w' := by
  cases hok : okB zs len
  · have HF := Lib.hid (fewI_f hok)
    go_enter Try.func26, Try.ntmps26
    go_wp2_with (go_at_call 58; refine (sizesOk_any _ _ _ zs _ _ h hn).mono ?_; rintro e w' ⟨rfl, rfl⟩)
    go_ret
    exact ⟨ret_int HF.out.symm, Below.refl _ _⟩
  have HF := Lib.hid (fewI_t hok)
  obtain ⟨⟨l1, l2⟩, l3, l4⟩ := okB_out hok
  have H := Lib.hid h
  rw [h.1] at l3 l4
  have HZ := Lib.hid l4
  have HFI := Lib.hid (fine_tab (f := stpI len) (b0 := (0, 0)) (zs := zs) (n := n) (len := len) (by omega) ⟨by simp, by simp; omega, by simp, by simp; omega⟩ (fun c k hk h => fine_I h (l4 k hk).1 (l4 k hk).2))
  have h' := h
  clear h l4
  have hsh := wrap_p2 n l3
  have hpn := p2_le n l3
  have hpn0 := p2_pos n
  have hmk := run_make_cut (p2 n) (by omega)
  go_enter Try.func26, Try.ntmps26
  go_wp2_with (go_at_call 58; refine (sizesOk_any _ _ _ zs _ _ h' hn).mono ?_; rintro e w' ⟨rfl, rfl⟩)
  clear hmk h' hok hsh
  go_loopw [6] (fun i wr => ∃ S : Nat, 1 ≤ S ∧ S ≤ p2 n ∧ i = .int .i64 S ∧ wr.rowIs w.heap.size 88 (p2 n * 2) (cutV (tab (stpI len) (0, 0) zs n (S - 1))) ∧ Below w.heap.size w wr) (fun i _ => p2 n - (intOf i).toNat)
  case atStart =>
    refine ⟨1, Nat.le_refl _, hpn0, rfl, ?_, (Below.refl _ _).alloc (Nat.le_refl _) _⟩
    have hr := World.rowIs_alloc w (madeCells #[.int .i64 0, .int .i64 0] (p2 n * 2)) 88 (cutV (tab (stpI len) (0, 0) zs n 0)) (fun j hj => by
      have hj' : j < p2 n * 2 := by simpa [size_madeCells] using hj
      have h2 : j % 2 = 0 ∨ j % 2 = 1 := by omega
      have e0 : ∀ i, tab (stpI len) (0, 0) zs n 0 i = (0, 0) := fun i => by simp [tab]
      unfold cutV
      rw [e0]
      rcases h2 with h2 | h2 <;> simp [madeCells, hj', h2])
    simpa [size_madeCells] using hr
  case round =>
    obtain ⟨S, hS1, hSn, rfl, hr, hb⟩ := hrel
    by_cases hlt : S < p2 n
    · have HTN := Lib.hid (tab_next (stpI len) (0, 0) zs n S hS1)
      have HFAR := Lib.hid (tab_far (stpI len) (0, 0) zs n (S - 1) S (by omega))
      have HFT := Lib.hid (HFI.out (S - 1))
      have HIF := Lib.hid (fun k hk => fine_innr (f := stpI len) (T := tab (stpI len) (0, 0) zs n (S - 1)) (zs := zs) (n := n) (s := S) (len := len) (by omega) (HFI.out (S - 1)) (fun c k hk h => fine_I h (HZ.out k hk).1 (HZ.out k hk).2) k hk)
      generalize tab (stpI len) (0, 0) zs n (S - 1) = T at *
      have c1 := hr.cell (i := S * 2) (by omega)
      have c2 := hr.cell (i := S * 2 + 1) (by omega)
      rw [cutV_0] at c1
      rw [cutV_1] at c2
      have f1 := hr.frozen (S * 2)
      have f2 := hr.frozen (S * 2 + 1)
      have HR := Lib.hid hr
      have HB := Lib.hid hb
      generalize (T S).1 = v1 at *
      generalize (T S).2 = v2 at *
      clear hr hb
      obtain ⟨wo, rfl⟩ : ∃ wo : World, wo = wr := ⟨_, rfl⟩
      go_wp2
      clear c1 c2 f1 f2
      go_loopw [33, 7, 8] (fun i _ _ wi => ∃ k : Nat, k ≤ n ∧ i = .int .i64 k ∧ wi.rowIs w.heap.size 88 (p2 n * 2) (cutV (upd T S (innr (stpI len) T zs n S k))) ∧ Below w.heap.size w wi) (fun i _ _ _ => n - (intOf i).toNat)
      case atStart =>
        refine ⟨0, Nat.zero_le _, rfl, (World.rowIs.set HR.out (S * 2) _).congr (fun j _ => ?_), HB.out.setCell (Nat.le_refl _) _⟩
        by_cases hj : j = S * 2
        · subst hj; rw [if_pos rfl, cutV_0, upd_same]; rfl
        · rw [if_neg hj]
          by_cases hj1 : j = S * 2 + 1
          · subst hj1; rw [cutV_1, cutV_1, upd_same, HFAR.out]; rfl
          · unfold cutV
            have : j / 2 ≠ S := by omega
            rw [upd_other _ _ this]
      case round =>
        clear HR HB
        obtain ⟨k, hk, rfl, hr, hb⟩ := hrel
        have HR := Lib.hid hr
        have HB := Lib.hid hb
        have hgl := hr.lt
        by_cases hkn : k < n
        · have hshk := wrap_p2 k (by omega)
          have HBIT := Lib.hid (bit_at S k (by omega))
          obtain ⟨bz, off, rfl, hbB, hcz⟩ := H.out.2 (by omega)
          have hck : wr.cell? ⟨bz, off + k, none⟩ = some (.int .i64 (nth zs k)) := (hb.cell (by exact hbB)).trans (hcz k hkn)
          by_cases hbit : S / p2 k % 2 = 1
          · have htb : (bits BinOp.and IntKind.i64 ((S : Int) / 2 ^ k) 1 == 0) = false := by rw [HBIT.out, hbit]; rfl
            have hle := p2_le_of_bit hbit
            have hp0 := p2_pos k
            have HIN := Lib.hid (innr_bit (f := stpI len) (T := T) (zs := zs) (n := n) hbit)
            have hcf := HIF.out k (by omega)
            have hidx := andNot_p2 (S := S) (k := k) (by omega) (by omega) hbit
            have htS : S - p2 k < S := by omega
            generalize S - p2 k = t at *
            have hTf := HFT.out t
            have ct1 := hr.cell (i := t * 2) (by omega)
            have ct2 := hr.cell (i := t * 2 + 1) (by omega)
            have cs1 := hr.cell (i := S * 2) (by omega)
            have cs2 := hr.cell (i := S * 2 + 1) (by omega)
            have fs1 := hr.frozen (S * 2)
            have fs2 := hr.frozen (S * 2 + 1)
            rw [cutV_0] at ct1 cs1
            rw [cutV_1] at ct2 cs2
            rw [upd_other _ _ (by omega)] at ct1 ct2
            rw [upd_same] at cs1 cs2
            generalize innr (stpI len) T zs n S k = cur at *
            obtain ⟨cb, cu⟩ := cur
            generalize hTt : T t = e at *
            obtain ⟨b, u⟩ := e
            simp only at ct1 ct2 cs1 cs2
            have hz := HZ.out k hkn
            generalize nth zs k = z at *
            obtain ⟨z1, z2⟩ := hz
            obtain ⟨f1, f2, f3, f4⟩ := hTf
            obtain ⟨q1, q2, q3, q4⟩ := hcf
            simp only at f1 f2 f3 f4 q1 q2 q3 q4
            clear hr hb hcz hbit hTt HFT HIF
            by_cases hb0 : 0 < b
            · by_cases hv : u + z ≤ len
              · have HC : Hid (stpI len (b, u) z = (b, u + z)) := stpI_in (c := (b, u)) hb0 hv
                cases hL : lessP (b, (u + z)) (cb, cu)
                · have HP := Lib.hid (pickP_no hL)
                  go_wp2
                  go_region_held3 (fun w' => w'.cell? ⟨wr.heap.size, 0, none⟩ = some (.int .i64 b) ∧ w'.cell? ⟨wr.heap.size, 1, none⟩ = some (.int .i64 (u + z)) ∧ w'.cell? ⟨w.heap.size, S * 2, none⟩ = some (.int .i64 cb) ∧ w'.cell? ⟨w.heap.size, S * 2 + 1, none⟩ = some (.int .i64 cu)) (first | (go_keep; done) | (refine ⟨?_, ?_, ?_, ?_⟩ <;> (rw [hcc _ _ (by simp <;> omega)]; go_keep))) ((go_at_call 59; refine (cutLess_any _ _ _ _ _).mono ?_; rintro e w1 ⟨rfl, hb1⟩; obtain ⟨hcc, hff⟩ := bcell hb1))
                  rename_i hH
                  obtain ⟨hh1, hh2, hh3, hh4⟩ := hH
                  have hfz1 : w1.frozen? ⟨w.heap.size, S * 2, none⟩ = false := by rw [hff _ _ (by simp <;> omega)]; simpa using frozen_alloc_old hgl fs1
                  have hfz2 : w1.frozen? ⟨w.heap.size, S * 2 + 1, none⟩ = false := by rw [hff _ _ (by simp <;> omega)]; simpa using frozen_alloc_old hgl fs2
                  have HB1 := Lib.hid (((HB.out.alloc HB.out.size (.cells #[.int .i64 b, .int .i64 (u + z)] 88)).drew).trans (hb1.mono (by have := HB.out.size; simp; omega)))
                  have HR1 := Lib.hid (HR.out.of_block ((hb1.block w.heap.size (by simp; omega)).trans (Below.heap_alloc wr _ w.heap.size hgl)))
                  clear hcc hff hb1
                  go_wp2
                  go_roundw
                  case rel => exact ⟨k + 1, by omega, by go_num, by rw [HIN.out, HC.out, HP.out]; exact HR1.out, HB1.out⟩
                  case measure => simp [intOf]; omega
                · have HP := Lib.hid (pickP_yes hL)
                  go_wp2
                  go_region_held3 (fun w' => w'.cell? ⟨wr.heap.size, 0, none⟩ = some (.int .i64 b) ∧ w'.cell? ⟨wr.heap.size, 1, none⟩ = some (.int .i64 (u + z)) ∧ w'.cell? ⟨w.heap.size, S * 2, none⟩ = some (.int .i64 cb) ∧ w'.cell? ⟨w.heap.size, S * 2 + 1, none⟩ = some (.int .i64 cu)) (first | (go_keep; done) | (refine ⟨?_, ?_, ?_, ?_⟩ <;> (rw [hcc _ _ (by simp <;> omega)]; go_keep))) ((go_at_call 59; refine (cutLess_any _ _ _ _ _).mono ?_; rintro e w1 ⟨rfl, hb1⟩; obtain ⟨hcc, hff⟩ := bcell hb1))
                  rename_i hH
                  obtain ⟨hh1, hh2, hh3, hh4⟩ := hH
                  have hfz1 : w1.frozen? ⟨w.heap.size, S * 2, none⟩ = false := by rw [hff _ _ (by simp <;> omega)]; simpa using frozen_alloc_old hgl fs1
                  have hfz2 : w1.frozen? ⟨w.heap.size, S * 2 + 1, none⟩ = false := by rw [hff _ _ (by simp <;> omega)]; simpa using frozen_alloc_old hgl fs2
                  have HB1 := Lib.hid (((HB.out.alloc HB.out.size (.cells #[.int .i64 b, .int .i64 (u + z)] 88)).drew).trans (hb1.mono (by have := HB.out.size; simp; omega)))
                  have HR1 := Lib.hid (HR.out.of_block ((hb1.block w.heap.size (by simp; omega)).trans (Below.heap_alloc wr _ w.heap.size hgl)))
                  clear hcc hff hb1
                  go_wp2
                  go_roundw
                  case rel => exact ⟨k + 1, by omega, by go_num, by rw [HIN.out, HC.out, HP.out]; exact cut_set b (u + z) HR1.out, (HB1.out.setCell (Nat.le_refl _) _).setCell (Nat.le_refl _) _⟩
                  case measure => simp [intOf]; omega
              · have HC : Hid (stpI len (b, u) z = (b + 1, z)) := stpI_over (c := (b, u)) (fun h => hv h.2)
                have hd : decide (u + z ≤ len) = false := decide_eq_false hv
                cases hL : lessP ((b + 1), z) (cb, cu)
                · have HP := Lib.hid (pickP_no hL)
                  go_wp2
                  go_region_held3 (fun w' => w'.cell? ⟨wr.heap.size, 0, none⟩ = some (.int .i64 (b + 1)) ∧ w'.cell? ⟨wr.heap.size, 1, none⟩ = some (.int .i64 z) ∧ w'.cell? ⟨w.heap.size, S * 2, none⟩ = some (.int .i64 cb) ∧ w'.cell? ⟨w.heap.size, S * 2 + 1, none⟩ = some (.int .i64 cu)) (first | (go_keep; done) | (refine ⟨?_, ?_, ?_, ?_⟩ <;> (rw [hcc _ _ (by simp <;> omega)]; go_keep))) ((go_at_call 59; refine (cutLess_any _ _ _ _ _).mono ?_; rintro e w1 ⟨rfl, hb1⟩; obtain ⟨hcc, hff⟩ := bcell hb1))
                  rename_i hH
                  obtain ⟨hh1, hh2, hh3, hh4⟩ := hH
                  have hfz1 : w1.frozen? ⟨w.heap.size, S * 2, none⟩ = false := by rw [hff _ _ (by simp <;> omega)]; simpa using frozen_alloc_old hgl fs1
                  have hfz2 : w1.frozen? ⟨w.heap.size, S * 2 + 1, none⟩ = false := by rw [hff _ _ (by simp <;> omega)]; simpa using frozen_alloc_old hgl fs2
                  have HB1 := Lib.hid (((HB.out.alloc HB.out.size (.cells #[.int .i64 (b + 1), .int .i64 z] 88)).drew).trans (hb1.mono (by have := HB.out.size; simp; omega)))
                  have HR1 := Lib.hid (HR.out.of_block ((hb1.block w.heap.size (by simp; omega)).trans (Below.heap_alloc wr _ w.heap.size hgl)))
                  clear hcc hff hb1
                  go_wp2
                  go_roundw
                  case rel => exact ⟨k + 1, by omega, by go_num, by rw [HIN.out, HC.out, HP.out]; exact HR1.out, HB1.out⟩
                  case measure => simp [intOf]; omega
                · have HP := Lib.hid (pickP_yes hL)
                  go_wp2
                  go_region_held3 (fun w' => w'.cell? ⟨wr.heap.size, 0, none⟩ = some (.int .i64 (b + 1)) ∧ w'.cell? ⟨wr.heap.size, 1, none⟩ = some (.int .i64 z) ∧ w'.cell? ⟨w.heap.size, S * 2, none⟩ = some (.int .i64 cb) ∧ w'.cell? ⟨w.heap.size, S * 2 + 1, none⟩ = some (.int .i64 cu)) (first | (go_keep; done) | (refine ⟨?_, ?_, ?_, ?_⟩ <;> (rw [hcc _ _ (by simp <;> omega)]; go_keep))) ((go_at_call 59; refine (cutLess_any _ _ _ _ _).mono ?_; rintro e w1 ⟨rfl, hb1⟩; obtain ⟨hcc, hff⟩ := bcell hb1))
                  rename_i hH
                  obtain ⟨hh1, hh2, hh3, hh4⟩ := hH
                  have hfz1 : w1.frozen? ⟨w.heap.size, S * 2, none⟩ = false := by rw [hff _ _ (by simp <;> omega)]; simpa using frozen_alloc_old hgl fs1
                  have hfz2 : w1.frozen? ⟨w.heap.size, S * 2 + 1, none⟩ = false := by rw [hff _ _ (by simp <;> omega)]; simpa using frozen_alloc_old hgl fs2
                  have HB1 := Lib.hid (((HB.out.alloc HB.out.size (.cells #[.int .i64 (b + 1), .int .i64 z] 88)).drew).trans (hb1.mono (by have := HB.out.size; simp; omega)))
                  have HR1 := Lib.hid (HR.out.of_block ((hb1.block w.heap.size (by simp; omega)).trans (Below.heap_alloc wr _ w.heap.size hgl)))
                  clear hcc hff hb1
                  go_wp2
                  go_roundw
                  case rel => exact ⟨k + 1, by omega, by go_num, by rw [HIN.out, HC.out, HP.out]; exact cut_set (b + 1) z HR1.out, (HB1.out.setCell (Nat.le_refl _) _).setCell (Nat.le_refl _) _⟩
                  case measure => simp [intOf]; omega
            · have HC : Hid (stpI len (b, u) z = (b + 1, z)) := stpI_over (c := (b, u)) (fun h => hb0 h.1)
              have hd : decide (0 < b) = false := decide_eq_false hb0
              cases hL : lessP ((b + 1), z) (cb, cu)
              · have HP := Lib.hid (pickP_no hL)
                go_wp2
                go_region_held3 (fun w' => w'.cell? ⟨wr.heap.size, 0, none⟩ = some (.int .i64 (b + 1)) ∧ w'.cell? ⟨wr.heap.size, 1, none⟩ = some (.int .i64 z) ∧ w'.cell? ⟨w.heap.size, S * 2, none⟩ = some (.int .i64 cb) ∧ w'.cell? ⟨w.heap.size, S * 2 + 1, none⟩ = some (.int .i64 cu)) (first | (go_keep; done) | (refine ⟨?_, ?_, ?_, ?_⟩ <;> (rw [hcc _ _ (by simp <;> omega)]; go_keep))) ((go_at_call 59; refine (cutLess_any _ _ _ _ _).mono ?_; rintro e w1 ⟨rfl, hb1⟩; obtain ⟨hcc, hff⟩ := bcell hb1))
                rename_i hH
                obtain ⟨hh1, hh2, hh3, hh4⟩ := hH
                have hfz1 : w1.frozen? ⟨w.heap.size, S * 2, none⟩ = false := by rw [hff _ _ (by simp <;> omega)]; simpa using frozen_alloc_old hgl fs1
                have hfz2 : w1.frozen? ⟨w.heap.size, S * 2 + 1, none⟩ = false := by rw [hff _ _ (by simp <;> omega)]; simpa using frozen_alloc_old hgl fs2
                have HB1 := Lib.hid (((HB.out.alloc HB.out.size (.cells #[.int .i64 (b + 1), .int .i64 z] 88)).drew).trans (hb1.mono (by have := HB.out.size; simp; omega)))
                have HR1 := Lib.hid (HR.out.of_block ((hb1.block w.heap.size (by simp; omega)).trans (Below.heap_alloc wr _ w.heap.size hgl)))
                clear hcc hff hb1
                go_wp2
                go_roundw
                case rel => exact ⟨k + 1, by omega, by go_num, by rw [HIN.out, HC.out, HP.out]; exact HR1.out, HB1.out⟩
                case measure => simp [intOf]; omega
              · have HP := Lib.hid (pickP_yes hL)
                go_wp2
                go_region_held3 (fun w' => w'.cell? ⟨wr.heap.size, 0, none⟩ = some (.int .i64 (b + 1)) ∧ w'.cell? ⟨wr.heap.size, 1, none⟩ = some (.int .i64 z) ∧ w'.cell? ⟨w.heap.size, S * 2, none⟩ = some (.int .i64 cb) ∧ w'.cell? ⟨w.heap.size, S * 2 + 1, none⟩ = some (.int .i64 cu)) (first | (go_keep; done) | (refine ⟨?_, ?_, ?_, ?_⟩ <;> (rw [hcc _ _ (by simp <;> omega)]; go_keep))) ((go_at_call 59; refine (cutLess_any _ _ _ _ _).mono ?_; rintro e w1 ⟨rfl, hb1⟩; obtain ⟨hcc, hff⟩ := bcell hb1))
                rename_i hH
                obtain ⟨hh1, hh2, hh3, hh4⟩ := hH
                have hfz1 : w1.frozen? ⟨w.heap.size, S * 2, none⟩ = false := by rw [hff _ _ (by simp <;> omega)]; simpa using frozen_alloc_old hgl fs1
                have hfz2 : w1.frozen? ⟨w.heap.size, S * 2 + 1, none⟩ = false := by rw [hff _ _ (by simp <;> omega)]; simpa using frozen_alloc_old hgl fs2
                have HB1 := Lib.hid (((HB.out.alloc HB.out.size (.cells #[.int .i64 (b + 1), .int .i64 z] 88)).drew).trans (hb1.mono (by have := HB.out.size; simp; omega)))
                have HR1 := Lib.hid (HR.out.of_block ((hb1.block w.heap.size (by simp; omega)).trans (Below.heap_alloc wr _ w.heap.size hgl)))
                clear hcc hff hb1
                go_wp2
                go_roundw
                case rel => exact ⟨k + 1, by omega, by go_num, by rw [HIN.out, HC.out, HP.out]; exact cut_set (b + 1) z HR1.out, (HB1.out.setCell (Nat.le_refl _) _).setCell (Nat.le_refl _) _⟩
                case measure => simp [intOf]; omega
          · have htb : (bits BinOp.and IntKind.i64 ((S : Int) / 2 ^ k) 1 == 0) = true := by rw [HBIT.out, show S / p2 k % 2 = 0 by omega]; rfl
            have HIN := Lib.hid (innr_no (f := stpI len) (T := T) (zs := zs) (n := n) (s := S) (k := k) (by omega))
            clear hr hb hcz hbit HFT HIF
            go_wp2
            go_roundw
            case rel => exact ⟨k + 1, by omega, by go_num, by rw [HIN.out]; exact HR.out, HB.out⟩
            case measure => simp [intOf]; omega
        · have hkn' : k = n := by omega
          subst hkn'
          clear hr hb
          go_wp2
          go_roundw
          case rel => exact ⟨S + 1, by omega, by omega, by go_num, by rw [Nat.add_sub_cancel, HTN.out]; exact HR.out, HB.out⟩
          case measure => simp [intOf]; omega
    · have hSe : S = p2 n := by omega
      subst hSe
      have hce := hr.cell (i := (p2 n - 1) * 2) (by omega)
      rw [cutV_0] at hce
      have HL := Lib.hid (show fewI zs len = (tab (stpI len) (0, 0) zs n (p2 n - 1) (p2 n - 1)).1 by rw [HF.out, H.out.1])
      have HB := Lib.hid hb
      generalize (tab (stpI len) (0, 0) zs n (p2 n - 1) (p2 n - 1)).1 = r at *
      have hpi : (1 : Int) ≤ ((p2 n : Nat) : Int) := by omega
      clear hr hb
      go_wp2
      go_ret
      exact ⟨ret_int HL.out.symm, HB.out⟩

end Go.Proofs.Ytplabaneihjcoaa
