/-
  Contracts: conditions on a thrust: valid, fulfilled, all fulfilled; in the program and in the reference.
-/
import Derived.Test.YtbcgckdjbabdjaaPRows
import Derived.Test.YtbcgckdjbabdjaaWThr
import Derived.Test.YtbcgckdjbabdjaaWMom
namespace Go.Proofs.Ytbcgckdjbabdjaa
open Go.RowKit
set_option linter.unusedSimpArgs false

theorem gmul_bd {a b m n : Int} (ha : -m ≤ a ∧ a ≤ m) (hb : -n ≤ b ∧ b ≤ n) : -(m * n) ≤ a * b ∧ a * b ≤ m * n := mul_bd ha hb
/-- What the sides of a condition are bounded by. -/
structure SideBd (a b c d H V M D : Int) : Prop where
  aH : -100000000000000 ≤ a * H ∧ a * H ≤ 100000000000000
  bV : -1000000000000000 ≤ b * V ∧ b * V ≤ 1000000000000000
  cM : -10000000000000 ≤ c * M ∧ c * M ≤ 10000000000000
  dD : -1000000000000000 ≤ d * D ∧ d * D ≤ 1000000000000000
theorem sideBd {a b c d H V M D : Int} (ht : thrB H V M D = true) (hr : rowB a b c d = true) : SideBd a b c d H V M D := by
  obtain ⟨h1, h2, h3, h4, _⟩ := thrB_out ht
  rw [rowB_iff] at hr
  have e1 := mul_bd (a := a) (b := H) (m := 100) (n := 1000000000000) (by omega) (by omega)
  have e2 := mul_bd (a := b) (b := V) (m := 100) (n := 10000000000000) (by omega) (by omega)
  have e3 := mul_bd (a := c) (b := M) (m := 1) (n := 10000000000000) (by omega) (by omega)
  have e4 := mul_bd (a := d) (b := D) (m := 1000000000) (n := 1000000) (by omega) (by omega)
  exact ⟨by omega, by omega, by omega, by omega⟩
/-- The condition is fulfilled. -/
def metB (a b c d H V M D : Int) : Bool := decide (a * H + b * V + c * M ≤ d * D)
def fulB (a b c d H V M D : Int) : Bool := thrB H V M D && (rowB a b c d && metB a b c d H V M D)
theorem fulB_1 (a b c d : Int) {H V M D : Int} (h : thrB H V M D = false) : fulB a b c d H V M D = false := by simp [fulB, h]
theorem fulB_2 {a b c d : Int} (H V M D : Int) (h : rowB a b c d = false) : fulB a b c d H V M D = false := by simp [fulB, h]
theorem fulB_t {a b c d H V M D : Int} (h : thrB H V M D = true) (h2 : rowB a b c d = true) : fulB a b c d H V M D = metB a b c d H V M D := by simp [fulB, h, h2]
def fulAt (rs : List Int) (H V M D : Int) (i : Nat) : Bool := fulB (nth rs (i * 4)) (nth rs (i * 4 + 1)) (nth rs (i * 4 + 2)) (nth rs (i * 4 + 3)) H V M D
/-- All n conditions are fulfilled. -/
def fulAll (rs : List Int) (n : Nat) (H V M D : Int) : Bool := inB (n : Int) 1 40 && allB (fulAt rs H V M D) n
theorem fulAll_1 (rs : List Int) {n : Nat} (H V M D : Int) (h : inB (n : Int) 1 40 = false) : fulAll rs n H V M D = false := by simp [fulAll, h]
theorem fulAll_2 {rs : List Int} {n k : Nat} {H V M D : Int} (hk : k < n) (h : fulAt rs H V M D k = false) : fulAll rs n H V M D = false := by simp [fulAll, allB_f hk h]
theorem fulAll_t {rs : List Int} {n : Nat} {H V M D : Int} (h1 : inB (n : Int) 1 40 = true) (h : allTo (fulAt rs H V M D) n) : fulAll rs n H V M D = true := by simp [fulAll, h1, allB_t h]
theorem fulAll_s {rs : List Int} {n : Nat} {H V M D : Int} (h : allTo (fulAt rs H V M D) n) : fulAll rs n H V M D = inB (n : Int) 1 40 := by simp [fulAll, allB_t h]
theorem rwCells {wr : World} {b off n j : Nat} {zs : List Int} (hc : ∀ i, i < n * 4 → wr.cell? ⟨b, off + i, none⟩ = some (.int .i64 (nth zs i))) (hj : j < n) :
    wr.cell? ⟨b, off + j * 4, none⟩ = some (.int .i64 (nth zs (j * 4))) ∧ wr.cell? ⟨b, off + j * 4 + 1, none⟩ = some (.int .i64 (nth zs (j * 4 + 1))) ∧ wr.cell? ⟨b, off + j * 4 + 2, none⟩ = some (.int .i64 (nth zs (j * 4 + 2))) ∧ wr.cell? ⟨b, off + j * 4 + 3, none⟩ = some (.int .i64 (nth zs (j * 4 + 3))) :=
  ⟨hc (j * 4) (by omega), hc (j * 4 + 1) (by omega), hc (j * 4 + 2) (by omega), hc (j * 4 + 3) (by omega)⟩


set_option maxRecDepth 100000 in
set_option maxHeartbeats 1600000 in
theorem iRowOk_any (a b c d : Int) (w : World) :
    Calls Try.prog 152 #[.agg #[.int .i64 a, .int .i64 b, .int .i64 c, .int .i64 d]] w fun e w' => e = .returned (.bool (rowB a b c d)) ∧ Below w.heap.size w w' := by
  have HA := Lib.hid ((Below.refl w.heap.size w).alloc (Nat.le_refl _) (.cells #[.int .i64 a, .int .i64 b, .int .i64 c, .int .i64 d] 92))
  cases h1 : inB a (-100) 100
  · have HF := Lib.hid (rowB_1 b c d h1)
    go_enter Try.func152, Try.ntmps152
    go_wp2_with (go_at_call 84; refine (within_any _ _ _ _).mono ?_; (first | rw [h1]); rintro e w' ⟨rfl, rfl⟩)
    go_ret
    exact ⟨ret_bool HF.out.symm, HA.out⟩
  cases h2 : inB b (-100) 100
  · have HF := Lib.hid (rowB_2 a c d h2)
    go_enter Try.func152, Try.ntmps152
    go_wp2_with (go_at_call 84; refine (within_any _ _ _ _).mono ?_; (first | rw [h1] | rw [h2]); rintro e w' ⟨rfl, rfl⟩)
    go_ret
    exact ⟨ret_bool HF.out.symm, HA.out⟩
  cases h3 : inB c (-1) 1
  · have HF := Lib.hid (rowB_3 a b d h3)
    go_enter Try.func152, Try.ntmps152
    go_wp2_with (go_at_call 84; refine (within_any _ _ _ _).mono ?_; (first | rw [h1] | rw [h2] | rw [h3]); rintro e w' ⟨rfl, rfl⟩)
    go_ret
    exact ⟨ret_bool HF.out.symm, HA.out⟩
  have HF := Lib.hid (rowB_t d h1 h2 h3)
  generalize hd : inB d (-1000000000) 1000000000 = u at *
  go_enter Try.func152, Try.ntmps152
  go_wp2_with (go_at_call 84; refine (within_any _ _ _ _).mono ?_; (first | rw [h1] | rw [h2] | rw [h3] | rw [hd]); rintro e w' ⟨rfl, rfl⟩)
  go_ret
  exact ⟨ret_bool HF.out.symm, HA.out⟩

set_option maxRecDepth 100000 in
set_option maxHeartbeats 1600000 in
theorem sRowOk_any (a b c d : Int) (w : World) :
    Calls Try.prog 141 #[.agg #[.int .i64 a, .int .i64 b, .int .i64 c, .int .i64 d]] w fun e w' => e = .returned (.bool (rowB a b c d)) ∧ Below w.heap.size w w' := by
  have HA := Lib.hid ((Below.refl w.heap.size w).alloc (Nat.le_refl _) (.cells #[.int .i64 a, .int .i64 b, .int .i64 c, .int .i64 d] 92))
  cases h1 : inB a (-100) 100
  · have HF := Lib.hid (rowB_1 b c d h1)
    go_enter Try.func141, Try.ntmps141
    go_wp2_with (go_at_call 83; refine (l01In_any _ _ _ _).mono ?_; (first | rw [h1]); rintro e w' ⟨rfl, rfl⟩)
    go_ret
    exact ⟨ret_bool HF.out.symm, HA.out⟩
  cases h2 : inB b (-100) 100
  · have HF := Lib.hid (rowB_2 a c d h2)
    go_enter Try.func141, Try.ntmps141
    go_wp2_with (go_at_call 83; refine (l01In_any _ _ _ _).mono ?_; (first | rw [h1] | rw [h2]); rintro e w' ⟨rfl, rfl⟩)
    go_ret
    exact ⟨ret_bool HF.out.symm, HA.out⟩
  cases h3 : inB c (-1) 1
  · have HF := Lib.hid (rowB_3 a b d h3)
    go_enter Try.func141, Try.ntmps141
    go_wp2_with (go_at_call 83; refine (l01In_any _ _ _ _).mono ?_; (first | rw [h1] | rw [h2] | rw [h3]); rintro e w' ⟨rfl, rfl⟩)
    go_ret
    exact ⟨ret_bool HF.out.symm, HA.out⟩
  have HF := Lib.hid (rowB_t d h1 h2 h3)
  generalize hd : inB d (-1000000000) 1000000000 = u at *
  go_enter Try.func141, Try.ntmps141
  go_wp2_with (go_at_call 83; refine (l01In_any _ _ _ _).mono ?_; (first | rw [h1] | rw [h2] | rw [h3] | rw [hd]); rintro e w' ⟨rfl, rfl⟩)
  go_ret
  exact ⟨ret_bool HF.out.symm, HA.out⟩

set_option maxRecDepth 100000 in
set_option maxHeartbeats 1600000 in
theorem rowsOk_any (A : Option Addr) (n c : Nat) (rs : List Int) (w : World) (h : RecsAt w w.heap.size 4 A n rs) (hn : n ≤ 1048576) :
    Calls Try.prog 113 #[.slice A n c] w fun e w' => e = .returned (.bool (allB (rowAt rs) n)) ∧ Below w.heap.size w w' := by
  have HL := Lib.hid h
  clear h
  go_enter Try.func113, Try.ntmps113
  go_wp2
  go_loopw [7] (fun i wr => ∃ k : Nat, k ≤ n ∧ i = .int .i64 k ∧ Hid (allTo (rowAt rs) k) ∧ Hid (Below w.heap.size w wr)) (fun i _ => n - (intOf i).toNat)
  case atStart => exact ⟨0, Nat.zero_le _, rfl, Lib.hid (allTo_0 _), Lib.hid (Below.refl _ _)⟩
  case round =>
    obtain ⟨k, hk, rfl, HP, HB⟩ := hrel
    by_cases hlt : k < n
    · obtain ⟨b, off, rfl, hbB, hc⟩ := HL.out.2 (by omega)
      obtain ⟨x0, x1, x2, x3⟩ := rwCells (fun i hi => (HB.out.cell (by exact hbB)).trans (hc i hi)) hlt
      have hz := HB.out.size
      have HS := Lib.hid (fun e => allTo_step HP.out (k := k) e)
      have HF0 := Lib.hid (fun e => allB_f (p := rowAt rs) hlt e)
      have eR : rowAt rs k = rowB (nth rs (k * 4)) (nth rs (k * 4 + 1)) (nth rs (k * 4 + 2)) (nth rs (k * 4 + 3)) := rfl
      have ER := Lib.hid eR
      clear hc eR
      generalize nth rs (k * 4) = y0 at *
      generalize nth rs (k * 4 + 1) = y1 at *
      generalize nth rs (k * 4 + 2) = y2 at *
      generalize nth rs (k * 4 + 3) = y3 at *
      have HBA := Lib.hid (HB.out.alloc hz (.cells #[.int .i64 y0, .int .i64 y1, .int .i64 y2, .int .i64 y3] 92))
      obtain ⟨⟨z0, z1, z2, z3⟩, _⟩ := Box4.new wr y0 y1 y2 y3 92
      go_wp2_with fail
      refine (iRowOk_any _ _ _ _ _).mono ?_
      rintro e w1 ⟨rfl, hb1⟩
      have HB1 := Lib.hid (HBA.out.trans (hb1.mono (by simp; omega)))
      clear hb1
      cases g : rowB y0 y1 y2 y3
      · have HF := Lib.hid (HF0.out (ER.out.trans g))
        go_wp2
        go_ret
        exact ⟨ret_bool HF.out.symm, HB1.out⟩
      · have HS1 := Lib.hid (HS.out (ER.out.trans g))
        go_wp2
        go_roundw
        case rel => exact ⟨k + 1, by omega, by go_num, HS1, HB1⟩
        case measure => simp [intOf]; omega
    · obtain rfl : k = n := by omega
      have HF := Lib.hid (allB_t HP.out)
      go_wp2
      go_ret
      exact ⟨ret_bool HF.out.symm, HB.out⟩

set_option maxRecDepth 100000 in
set_option maxHeartbeats 1600000 in
theorem sides_any (a b c d H V M D : Int) (w : World) (hb : SideBd a b c d H V M D) :
    Calls Try.prog 174 #[.agg #[.int .i64 a, .int .i64 b, .int .i64 c, .int .i64 d], .agg #[.int .i64 H, .int .i64 V, .int .i64 M, .int .i64 D]] w fun e w' => e = .returned (.tuple #[.int .i64 (a * H + b * V + c * M), .int .i64 (d * D)]) ∧ Below w.heap.size w w' := by
  obtain ⟨b1, b2, b3, b4⟩ := hb
  have HA := Lib.hid (((Below.refl w.heap.size w).alloc (Nat.le_refl _) (.cells #[.int .i64 a, .int .i64 b, .int .i64 c, .int .i64 d] 92)).alloc (by simp) (.cells #[.int .i64 H, .int .i64 V, .int .i64 M, .int .i64 D] 61))
  go_enter Try.func174, Try.ntmps174
  go_wp2_with fail
  go_quiet (fail)
  go_wp2
  go_ret2
  exact ⟨rfl, below_drewN HA.out _⟩

set_option maxRecDepth 100000 in
set_option maxHeartbeats 1600000 in
theorem l10Holds_any (a b c d H V M D : Int) (w : World) (hb : SideBd a b c d H V M D) :
    Calls Try.prog 167 #[.agg #[.int .i64 H, .int .i64 V, .int .i64 M, .int .i64 D], .agg #[.int .i64 a, .int .i64 b, .int .i64 c, .int .i64 d]] w fun e w' => e = .returned (.bool (metB a b c d H V M D)) ∧ Below w.heap.size w w' := by
  obtain ⟨b1, b2, b3, b4⟩ := hb
  have HA := Lib.hid (((Below.refl w.heap.size w).alloc (Nat.le_refl _) (.cells #[.int .i64 H, .int .i64 V, .int .i64 M, .int .i64 D] 61)).alloc (by simp) (.cells #[.int .i64 a, .int .i64 b, .int .i64 c, .int .i64 d] 92))
  go_enter Try.func167, Try.ntmps167
  go_wp2_with fail
  all_goals (try go_quiet (fail))
  go_wp2
  go_ret
  exact ⟨rfl, by first | exact HA.out | exact below_drewN HA.out _⟩


/-- The boxes at entry: of the thrust and of the row. -/
structure TRi (w wr : World) (a b c d H V M D : Int) : Prop where
  thr : Box4 wr w.heap.size H V M D
  row : Box4 wr (w.heap.size + 1) a b c d
  below : Below w.heap.size w wr
theorem TRi.after {w wr w1 : World} {a b c d H V M D : Int} (h : TRi w wr a b c d H V M D) (hb : Below wr.heap.size wr w1) : TRi w w1 a b c d H V M D := ⟨h.thr.after hb, h.row.after hb, h.below.trans (hb.mono h.below.size)⟩
theorem TRi.start (w : World) (a b c d H V M D : Int) (T U : TypeId) : TRi w ((w.alloc (.cells #[.int .i64 H, .int .i64 V, .int .i64 M, .int .i64 D] T)).alloc (.cells #[.int .i64 a, .int .i64 b, .int .i64 c, .int .i64 d] U)) a b c d H V M D := by
  refine ⟨(Box4.new w H V M D T).after ((Below.refl _ _).alloc (Nat.le_refl _) _), ?_, ((Below.refl _ _).alloc (Nat.le_refl _) _).alloc (by simp) _⟩
  have h := Box4.new (w.alloc (.cells #[.int .i64 H, .int .i64 V, .int .i64 M, .int .i64 D] T)) a b c d U
  rw [World.size_alloc] at h
  exact h
set_option maxRecDepth 100000 in
set_option maxHeartbeats 1600000 in
theorem iFulfills_any (a b c d H V M D : Int) (w : World) :
    Calls Try.prog 160 #[.agg #[.int .i64 H, .int .i64 V, .int .i64 M, .int .i64 D], .agg #[.int .i64 a, .int .i64 b, .int .i64 c, .int .i64 d]] w fun e w' => e = .returned (.bool (fulB a b c d H V M D)) ∧ Below w.heap.size w w' := by
  have HT := Lib.hid (TRi.start w a b c d H V M D 61 92)
  cases hT : thrB H V M D
  · have HF := Lib.hid (fulB_1 a b c d hT)
    go_enter Try.func160, Try.ntmps160
    go_wp2_with fail
    refine (iThrustOk_any _ _ _ _ _).mono ?_
    rw [hT]
    rintro e w1 ⟨rfl, hb1⟩
    have HT1 := Lib.hid (HT.out.after hb1)
    clear hb1
    go_wp2
    go_ret
    exact ⟨ret_bool HF.out.symm, HT1.out.below⟩
  cases hR : rowB a b c d
  · have HF := Lib.hid (fulB_2 H V M D hR)
    go_enter Try.func160, Try.ntmps160
    go_wp2_with fail
    refine (iThrustOk_any _ _ _ _ _).mono ?_
    rw [hT]
    rintro e w1 ⟨rfl, hb1⟩
    have HT1 := Lib.hid (HT.out.after hb1)
    obtain ⟨c0, c1, c2, c3⟩ := HT1.out.row.1
    clear hb1
    go_wp2_with fail
    refine (iRowOk_any _ _ _ _ _).mono ?_
    rw [hR]
    rintro e w2 ⟨rfl, hb2⟩
    have HT2 := Lib.hid (HT1.out.after hb2)
    clear hb2
    go_wp2
    go_ret
    exact ⟨ret_bool HF.out.symm, HT2.out.below⟩
  have HF := Lib.hid (fulB_t hT hR)
  have HS := Lib.hid (sideBd hT hR)
  go_enter Try.func160, Try.ntmps160
  go_wp2_with fail
  refine (iThrustOk_any _ _ _ _ _).mono ?_
  rw [hT]
  rintro e w1 ⟨rfl, hb1⟩
  have HT1 := Lib.hid (HT.out.after hb1)
  obtain ⟨c0, c1, c2, c3⟩ := HT1.out.row.1
  clear hb1
  go_wp2_with fail
  refine (iRowOk_any _ _ _ _ _).mono ?_
  rw [hR]
  rintro e w2 ⟨rfl, hb2⟩
  have HT2 := Lib.hid (HT1.out.after hb2)
  clear c0 c1 c2 c3 hb2
  obtain ⟨c0, c1, c2, c3⟩ := HT2.out.row.1
  obtain ⟨d0, d1, d2, d3⟩ := HT2.out.thr.1
  go_wp2_with fail
  refine (sides_any _ _ _ _ _ _ _ _ _ HS.out).mono ?_
  rintro e w3 ⟨rfl, hb3⟩
  have HT3 := Lib.hid (HT2.out.after hb3)
  clear c0 c1 c2 c3 d0 d1 d2 d3 hb3
  go_wp2
  go_ret
  exact ⟨ret_bool (by rw [HF.out]; try rfl), HT3.out.below⟩


/-- The boxes at entry: of the thrust and of the row. -/
structure TRs (w wr : World) (a b c d H V M D : Int) : Prop where
  thr : Box4 wr w.heap.size H V M D
  row : Box4 wr (w.heap.size + 1) a b c d
  below : Below w.heap.size w wr
theorem TRs.after {w wr w1 : World} {a b c d H V M D : Int} (h : TRs w wr a b c d H V M D) (hb : Below wr.heap.size wr w1) : TRs w w1 a b c d H V M D := ⟨h.thr.after hb, h.row.after hb, h.below.trans (hb.mono h.below.size)⟩
theorem TRs.start (w : World) (a b c d H V M D : Int) (T U : TypeId) : TRs w ((w.alloc (.cells #[.int .i64 H, .int .i64 V, .int .i64 M, .int .i64 D] T)).alloc (.cells #[.int .i64 a, .int .i64 b, .int .i64 c, .int .i64 d] U)) a b c d H V M D := by
  refine ⟨(Box4.new w H V M D T).after ((Below.refl _ _).alloc (Nat.le_refl _) _), ?_, ((Below.refl _ _).alloc (Nat.le_refl _) _).alloc (by simp) _⟩
  have h := Box4.new (w.alloc (.cells #[.int .i64 H, .int .i64 V, .int .i64 M, .int .i64 D] T)) a b c d U
  rw [World.size_alloc] at h
  exact h
set_option maxRecDepth 100000 in
set_option maxHeartbeats 1600000 in
theorem sFulfills_any (a b c d H V M D : Int) (w : World) :
    Calls Try.prog 159 #[.agg #[.int .i64 H, .int .i64 V, .int .i64 M, .int .i64 D], .agg #[.int .i64 a, .int .i64 b, .int .i64 c, .int .i64 d]] w fun e w' => e = .returned (.bool (fulB a b c d H V M D)) ∧ Below w.heap.size w w' := by
  have HT := Lib.hid (TRs.start w a b c d H V M D 61 92)
  cases hT : thrB H V M D
  · have HF := Lib.hid (fulB_1 a b c d hT)
    go_enter Try.func159, Try.ntmps159
    go_wp2_with fail
    refine (sThrustOk_any _ _ _ _ _).mono ?_
    rw [hT]
    rintro e w1 ⟨rfl, hb1⟩
    have HT1 := Lib.hid (HT.out.after hb1)
    clear hb1
    go_wp2
    go_ret
    exact ⟨ret_bool HF.out.symm, HT1.out.below⟩
  cases hR : rowB a b c d
  · have HF := Lib.hid (fulB_2 H V M D hR)
    go_enter Try.func159, Try.ntmps159
    go_wp2_with fail
    refine (sThrustOk_any _ _ _ _ _).mono ?_
    rw [hT]
    rintro e w1 ⟨rfl, hb1⟩
    have HT1 := Lib.hid (HT.out.after hb1)
    obtain ⟨c0, c1, c2, c3⟩ := HT1.out.row.1
    clear hb1
    go_wp2_with fail
    refine (sRowOk_any _ _ _ _ _).mono ?_
    rw [hR]
    rintro e w2 ⟨rfl, hb2⟩
    have HT2 := Lib.hid (HT1.out.after hb2)
    clear hb2
    go_wp2
    go_ret
    exact ⟨ret_bool HF.out.symm, HT2.out.below⟩
  have HF := Lib.hid (fulB_t hT hR)
  have HS := Lib.hid (sideBd hT hR)
  go_enter Try.func159, Try.ntmps159
  go_wp2_with fail
  refine (sThrustOk_any _ _ _ _ _).mono ?_
  rw [hT]
  rintro e w1 ⟨rfl, hb1⟩
  have HT1 := Lib.hid (HT.out.after hb1)
  obtain ⟨c0, c1, c2, c3⟩ := HT1.out.row.1
  clear hb1
  go_wp2_with fail
  refine (sRowOk_any _ _ _ _ _).mono ?_
  rw [hR]
  rintro e w2 ⟨rfl, hb2⟩
  have HT2 := Lib.hid (HT1.out.after hb2)
  clear c0 c1 c2 c3 hb2
  obtain ⟨c0, c1, c2, c3⟩ := HT2.out.row.1
  obtain ⟨d0, d1, d2, d3⟩ := HT2.out.thr.1
  go_wp2_with fail
  refine (l10Holds_any _ _ _ _ _ _ _ _ _ HS.out).mono ?_
  rintro e w3 ⟨rfl, hb3⟩
  have HT3 := Lib.hid (HT2.out.after hb3)
  clear c0 c1 c2 c3 d0 d1 d2 d3 hb3
  go_wp2
  go_ret
  exact ⟨ret_bool (by rw [HF.out]; try rfl), HT3.out.below⟩


set_option maxRecDepth 100000 in
set_option maxHeartbeats 1600000 in
theorem iFulfillsAll_any (A : Option Addr) (n c : Nat) (rs : List Int) (H V M D : Int) (w : World) (h : RecsAt w w.heap.size 4 A n rs) (hn : n ≤ 1048576) :
    Calls Try.prog 131 #[.agg #[.int .i64 H, .int .i64 V, .int .i64 M, .int .i64 D], .slice A n c] w fun e w' => e = .returned (.bool (fulAll rs n H V M D)) ∧ Below w.heap.size w w' := by
  have HL := Lib.hid h
  have BX := Lib.hid (Box4.new w H V M D 61)
  have B0 := Lib.hid ((Below.refl w.heap.size w).alloc (Nat.le_refl _) (.cells #[.int .i64 H, .int .i64 V, .int .i64 M, .int .i64 D] 61))
  clear h
  cases hI : inB (n : Int) 1 40
  · have HF := Lib.hid (fulAll_1 rs H V M D hI)
    go_enter Try.func131, Try.ntmps131
    go_wp2_with (go_at_call 84; refine (within_any _ _ _ _).mono ?_; rw [hI]; rintro e w' ⟨rfl, rfl⟩)
    go_ret
    exact ⟨ret_bool HF.out.symm, B0.out⟩
  have HT0 := Lib.hid (fun e => fulAll_t (rs := rs) (H := H) (V := V) (M := M) (D := D) hI e)
  go_enter Try.func131, Try.ntmps131
  go_wp2_with (go_at_call 84; refine (within_any _ _ _ _).mono ?_; rw [hI]; rintro e w' ⟨rfl, rfl⟩)
  go_loopw [13] (fun i wr => ∃ k : Nat, k ≤ n ∧ i = .int .i64 k ∧ Hid (allTo (fulAt rs H V M D) k) ∧ Hid (Box4 wr w.heap.size H V M D) ∧ Hid (Below w.heap.size w wr)) (fun i _ => n - (intOf i).toNat)
  case atStart => exact ⟨0, Nat.zero_le _, rfl, Lib.hid (allTo_0 _), BX, B0⟩
  case round =>
    clear BX B0
    obtain ⟨k, hk, rfl, HP, HX, HB⟩ := hrel
    by_cases hlt : k < n
    · obtain ⟨b, off, rfl, hbB, hc⟩ := HL.out.2 (by omega)
      obtain ⟨x0, x1, x2, x3⟩ := rwCells (fun i hi => (HB.out.cell (by exact hbB)).trans (hc i hi)) hlt
      have hz := HB.out.size
      have HS := Lib.hid (fun e => allTo_step HP.out (k := k) e)
      have HF0 := Lib.hid (fun e => fulAll_2 (rs := rs) (H := H) (V := V) (M := M) (D := D) hlt e)
      have eR : fulAt rs H V M D k = fulB (nth rs (k * 4)) (nth rs (k * 4 + 1)) (nth rs (k * 4 + 2)) (nth rs (k * 4 + 3)) H V M D := rfl
      have ER := Lib.hid eR
      clear hc eR
      generalize nth rs (k * 4) = y0 at *
      generalize nth rs (k * 4 + 1) = y1 at *
      generalize nth rs (k * 4 + 2) = y2 at *
      generalize nth rs (k * 4 + 3) = y3 at *
      have HBA := Lib.hid (HB.out.alloc hz (.cells #[.int .i64 y0, .int .i64 y1, .int .i64 y2, .int .i64 y3] 92))
      have HXA := Lib.hid (HX.out.after ((Below.refl _ _).alloc (Nat.le_refl _) (.cells #[.int .i64 y0, .int .i64 y1, .int .i64 y2, .int .i64 y3] 92)))
      obtain ⟨⟨z0, z1, z2, z3⟩, _⟩ := Box4.new wr y0 y1 y2 y3 92
      obtain ⟨c0, c1, c2, c3⟩ := HXA.out.1
      go_wp2_with fail
      refine (iFulfills_any _ _ _ _ _ _ _ _ _).mono ?_
      rintro e w1 ⟨rfl, hb1⟩
      have HB1 := Lib.hid (HBA.out.trans (hb1.mono (by first | (simp; omega) | omega)))
      have HX1 := Lib.hid (HXA.out.after hb1)
      clear hb1 c0 c1 c2 c3
      cases g : fulB y0 y1 y2 y3 H V M D
      · have HF := Lib.hid (HF0.out (ER.out.trans g))
        go_wp2
        go_ret
        exact ⟨ret_bool HF.out.symm, HB1.out⟩
      · have HS1 := Lib.hid (HS.out (ER.out.trans g))
        go_wp2
        go_roundw
        case rel => exact ⟨k + 1, by omega, by go_num, HS1, HX1, HB1⟩
        case measure => simp [intOf]; omega
    · obtain rfl : k = n := by omega
      have HF := Lib.hid (HT0.out HP.out)
      go_wp2
      go_ret
      exact ⟨ret_bool HF.out.symm, HB.out⟩


set_option maxRecDepth 100000 in
set_option maxHeartbeats 1600000 in
theorem sFulfillsAll_any (A : Option Addr) (n c : Nat) (rs : List Int) (H V M D : Int) (w : World) (h : RecsAt w w.heap.size 4 A n rs) (hn : n ≤ 1048576) :
    Calls Try.prog 127 #[.agg #[.int .i64 H, .int .i64 V, .int .i64 M, .int .i64 D], .slice A n c] w fun e w' => e = .returned (.bool (fulAll rs n H V M D)) ∧ Below w.heap.size w w' := by
  have HL := Lib.hid h
  have BX := Lib.hid (Box4.new w H V M D 61)
  have B0 := Lib.hid ((Below.refl w.heap.size w).alloc (Nat.le_refl _) (.cells #[.int .i64 H, .int .i64 V, .int .i64 M, .int .i64 D] 61))
  clear h
  go_enter Try.func127, Try.ntmps127
  go_wp2
  go_loopw [5] (fun i wr => ∃ k : Nat, k ≤ n ∧ i = .int .i64 k ∧ Hid (allTo (fulAt rs H V M D) k) ∧ Hid (Box4 wr w.heap.size H V M D) ∧ Hid (Below w.heap.size w wr)) (fun i _ => n - (intOf i).toNat)
  case atStart => exact ⟨0, Nat.zero_le _, rfl, Lib.hid (allTo_0 _), BX, B0⟩
  case round =>
    clear BX B0
    obtain ⟨k, hk, rfl, HP, HX, HB⟩ := hrel
    by_cases hlt : k < n
    · obtain ⟨b, off, rfl, hbB, hc⟩ := HL.out.2 (by omega)
      obtain ⟨x0, x1, x2, x3⟩ := rwCells (fun i hi => (HB.out.cell (by exact hbB)).trans (hc i hi)) hlt
      have hz := HB.out.size
      have HS := Lib.hid (fun e => allTo_step HP.out (k := k) e)
      have HF0 := Lib.hid (fun e => fulAll_2 (rs := rs) (H := H) (V := V) (M := M) (D := D) hlt e)
      have eR : fulAt rs H V M D k = fulB (nth rs (k * 4)) (nth rs (k * 4 + 1)) (nth rs (k * 4 + 2)) (nth rs (k * 4 + 3)) H V M D := rfl
      have ER := Lib.hid eR
      clear hc eR
      generalize nth rs (k * 4) = y0 at *
      generalize nth rs (k * 4 + 1) = y1 at *
      generalize nth rs (k * 4 + 2) = y2 at *
      generalize nth rs (k * 4 + 3) = y3 at *
      have HBA := HB
      have HXA := HX
      obtain ⟨c0, c1, c2, c3⟩ := HXA.out.1
      have ki : (k : Int) < (n : Int) := by omega
      have k0 : (0 : Int) ≤ (k : Int) := by omega
      have hwl : w.heap.size < wr.heap.size := HX.out.2
      have hbl : b < wr.heap.size := by omega
      go_wp2
      go_region_held3 (fun w' => (w'.cell? ⟨w.heap.size, 0, none⟩ = some (.int .i64 H) ∧ w'.cell? ⟨w.heap.size, 1, none⟩ = some (.int .i64 V) ∧ w'.cell? ⟨w.heap.size, 2, none⟩ = some (.int .i64 M) ∧ w'.cell? ⟨w.heap.size, 3, none⟩ = some (.int .i64 D)) ∧ (w'.cell? ⟨b, off + k * 4, none⟩ = some (.int .i64 y0) ∧ w'.cell? ⟨b, off + k * 4 + 1, none⟩ = some (.int .i64 y1) ∧ w'.cell? ⟨b, off + k * 4 + 2, none⟩ = some (.int .i64 y2) ∧ w'.cell? ⟨b, off + k * 4 + 3, none⟩ = some (.int .i64 y3))) (first | exact ⟨⟨c0, c1, c2, c3⟩, ⟨x0, x1, x2, x3⟩⟩ | (refine ⟨⟨?_, ?_, ?_, ?_⟩, ⟨?_, ?_, ?_, ?_⟩⟩ <;> (rw [hcc _ _ (by first | omega | (simp <;> omega))]; assumption)))
        ((go_at_call 159; refine (sFulfills_any _ _ _ _ _ _ _ _ _).mono ?_; rintro e w1 ⟨rfl, hb1⟩; obtain ⟨hcc, hff⟩ := bcell hb1))
      have HB1 := Lib.hid (HBA.out.drew.trans (hb1.mono (by first | (simp; omega) | omega)))
      have HX1 : Hid (Box4 w1 w.heap.size H V M D) := (show Box4 wr.drew _ _ _ _ _ from HXA.out).after hb1
      clear hb1 c0 c1 c2 c3 hcc hff
      cases g : fulB y0 y1 y2 y3 H V M D
      · have HF := Lib.hid (HF0.out (ER.out.trans g))
        go_wp2
        go_ret
        exact ⟨ret_bool HF.out.symm, HB1.out⟩
      · have HS1 := Lib.hid (HS.out (ER.out.trans g))
        go_wp2
        go_roundw
        case rel => exact ⟨k + 1, by omega, by go_num, HS1, HX1, HB1⟩
        case measure => simp [intOf]; omega
    · obtain rfl : k = n := by omega
      have HF := Lib.hid (fulAll_s HP.out)
      go_wp2_with (go_at_call 83; refine (l01In_any _ _ _ _).mono ?_; rintro e w' ⟨rfl, rfl⟩)
      go_ret
      exact ⟨ret_bool HF.out.symm, HB.out⟩

end Go.Proofs.Ytbcgckdjbabdjaa
