/-
  Contract: the box of a stone, in the program.
-/
import Derived.Test.YtplabaneihjcoaaWBoxS
import Derived.Test.YtplabaneihjcoaaWStoneI
namespace Go.Proofs.Ytplabaneihjcoaa
open Go.RowKit
set_option linter.unusedSimpArgs false
set_option linter.unusedVariables false

theorem BxSt.alloc {w wr : World} {b off n c : Nat} {zs : List Int} {L H k l : Nat} (h : BxSt w wr b off n c zs L H k l) (o : Obj) : BxSt w (wr.alloc o) b off n c zs L H k l :=
  ⟨h.bx.alloc o, h.r1.alloc o, h.r2.alloc o, h.lo.alloc o, h.hi.alloc o, h.big, ⟨h.pts.1, fun i hi => (World.cell?_alloc_lt _ _ ⟨b, off + i, none⟩ (by have := h.pts.1; have := h.below.size; show b < wr.heap.size; omega)).trans (h.pts.2 i hi)⟩, h.below.alloc h.below.size _⟩
theorem ints_new2 (w : World) (a b : Int) (t : TypeId) (f : Nat → Value) (h0 : f 0 = .int .i64 a) (h1 : f 1 = .int .i64 b) : RowF (w.alloc (.cells #[.int .i64 a, .int .i64 b] t)) w.heap.size t 2 f :=
  RowF.of_row (World.rowIs_alloc w #[.int .i64 a, .int .i64 b] t f (fun j hj => by simp at hj; match j, hj with | 0, _ => (exact (congrArg some h0).symm) | 1, _ => (exact (congrArg some h1).symm)))

set_option maxRecDepth 100000 in
set_option maxHeartbeats 6400000 in
theorem boxOf_any (b off n c : Nat) (zs : List Int) (w : World) (h : RecsAt w w.heap.size 2 (some ⟨b, off, none⟩) n zs) (hn : 0 < n) (hn6 : n ≤ 6) :
    Calls Try.prog 76 #[.agg #[.slice (some ⟨b, off, none⟩) n c]] w fun e w' => e = .returned (.tuple #[.agg #[.int .i64 (mnTo zs 0 n), .int .i64 (mnTo zs 1 n)], .agg #[.int .i64 (mxTo zs 0 n), .int .i64 (mxTo zs 1 n)]]) ∧ Below w.heap.size w w' := by
  have hw3 : Below w.heap.size w (((w.alloc (.cells #[.slice (some ⟨b, off, none⟩) n c] 36)).alloc (.cells #[.int .i64 0, .int .i64 0] 76)).alloc (.cells #[.int .i64 0, .int .i64 0] 76)) := (((Below.refl _ _).alloc (Nat.le_refl _) _).alloc (by simp) _).alloc (by simp; omega) _
  have r0 : RowF (((w.alloc (.cells #[.slice (some ⟨b, off, none⟩) n c] 36)).alloc (.cells #[.int .i64 0, .int .i64 0] 76)).alloc (.cells #[.int .i64 0, .int .i64 0] 76)) w.heap.size 36 1 (fun _ => .slice (some ⟨b, off, none⟩) n c) := ((rowF_new1S w (.slice (some ⟨b, off, none⟩) n c) 36).alloc _).alloc _
  have r1 : RowF (((w.alloc (.cells #[.slice (some ⟨b, off, none⟩) n c] 36)).alloc (.cells #[.int .i64 0, .int .i64 0] 76)).alloc (.cells #[.int .i64 0, .int .i64 0] 76)) (w.heap.size + 1) 76 2 (fun _ => .int .i64 0) := by
    simpa using (ints_new2 (w.alloc (.cells #[.slice (some ⟨b, off, none⟩) n c] 36)) 0 0 76 (fun _ => .int .i64 0) rfl rfl).alloc (.cells #[.int .i64 0, .int .i64 0] 76)
  have r2 : RowF (((w.alloc (.cells #[.slice (some ⟨b, off, none⟩) n c] 36)).alloc (.cells #[.int .i64 0, .int .i64 0] 76)).alloc (.cells #[.int .i64 0, .int .i64 0] 76)) (w.heap.size + 1 + 1) 76 2 (fun _ => .int .i64 0) := by
    simpa using ints_new2 ((w.alloc (.cells #[.slice (some ⟨b, off, none⟩) n c] 36)).alloc (.cells #[.int .i64 0, .int .i64 0] 76)) 0 0 76 (fun _ => .int .i64 0) rfl rfl
  obtain ⟨b', off', e', hbB, hc⟩ := h.2 hn
  simp only [Option.some.injEq, Addr.mk.injEq, and_true] at e'
  obtain ⟨rfl, rfl⟩ := e'
  obtain ⟨W3, hW3⟩ : ∃ W3 : World, (((w.alloc (.cells #[.slice (some ⟨b, off, none⟩) n c] 36)).alloc (.cells #[.int .i64 0, .int .i64 0] 76)).alloc (.cells #[.int .i64 0, .int .i64 0] 76)) = W3 := ⟨_, rfl⟩
  have hz3 : W3.heap.size = w.heap.size + 1 + 1 + 1 := by rw [← hW3]; simp
  rw [hW3] at hw3 r0 r1 r2
  have HP : Hid (∀ i, i < n * 2 → W3.cell? ⟨b, off + i, none⟩ = some (.int .i64 (nth zs i))) := Lib.hid fun i hi => (hw3.cell (p := ⟨b, off + i, none⟩) hbB).trans (hc i hi)
  have p0 : W3.cell? ⟨b, off, none⟩ = some (.int .i64 (nth zs 0)) := HP.out 0 (by omega)
  have p1 : W3.cell? ⟨b, off + 1, none⟩ = some (.int .i64 (nth zs 1)) := HP.out 1 (by omega)
  have q0 : W3.cell? ⟨w.heap.size, 0, none⟩ = some (.slice (some ⟨b, off, none⟩) n c) := r0.cell (i := 0) (by omega)
  have hn1 : (0 : Int) < (n : Int) := by omega
  have zb : b < W3.heap.size := by omega
  have zw : w.heap.size < W3.heap.size := by omega
  have R0 := Lib.hid r0
  have R1 := Lib.hid r1
  have R2 := Lib.hid r2
  have HW3 := Lib.hid hw3
  have HZ3 := Lib.hid hz3
  have la : ∀ f : Nat → Value, f 0 = .int .i64 (nth zs 0) → f 1 = .int .i64 (nth zs 1) → RowF ((W3.alloc (.cells #[.int .i64 (nth zs 0), .int .i64 (nth zs 1)] 76)).alloc (.cells #[.int .i64 (nth zs 0), .int .i64 (nth zs 1)] 76)) W3.heap.size 76 2 f := fun f h0 h1 => (ints_new2 W3 _ _ _ f h0 h1).alloc _
  have lb : ∀ f : Nat → Value, f 0 = .int .i64 (nth zs 0) → f 1 = .int .i64 (nth zs 1) → RowF ((W3.alloc (.cells #[.int .i64 (nth zs 0), .int .i64 (nth zs 1)] 76)).alloc (.cells #[.int .i64 (nth zs 0), .int .i64 (nth zs 1)] 76)) (W3.heap.size + 1) 76 2 f := fun f h0 h1 => by
    have h := ints_new2 (W3.alloc (.cells #[.int .i64 (nth zs 0), .int .i64 (nth zs 1)] 76)) _ _ 76 f h0 h1
    simpa using h
  have pa : ∀ i, i < n * 2 → ((W3.alloc (.cells #[.int .i64 (nth zs 0), .int .i64 (nth zs 1)] 76)).alloc (.cells #[.int .i64 (nth zs 0), .int .i64 (nth zs 1)] 76)).cell? ⟨b, off + i, none⟩ = some (.int .i64 (nth zs i)) := fun i hi =>
    (World.cell?_alloc_lt _ _ ⟨b, off + i, none⟩ (by show b < (W3.alloc _).heap.size; simp; omega)).trans ((World.cell?_alloc_lt _ _ ⟨b, off + i, none⟩ zb).trans (HP.out i hi))
  have ba : Below w.heap.size w ((W3.alloc (.cells #[.int .i64 (nth zs 0), .int .i64 (nth zs 1)] 76)).alloc (.cells #[.int .i64 (nth zs 0), .int .i64 (nth zs 1)] 76)) := (hw3.alloc (by omega) _).alloc (by simp; omega) _
  have HA : Hid (BxSt w ((W3.alloc (.cells #[.int .i64 (nth zs 0), .int .i64 (nth zs 1)] 76)).alloc (.cells #[.int .i64 (nth zs 0), .int .i64 (nth zs 1)] 76)).drew b off n c zs W3.heap.size (W3.heap.size + 1) 0 0 ∧ BxSt w ((W3.alloc (.cells #[.int .i64 (nth zs 0), .int .i64 (nth zs 1)] 76)).alloc (.cells #[.int .i64 (nth zs 0), .int .i64 (nth zs 1)] 76)).drew b off n c zs (W3.heap.size + 1) W3.heap.size 0 0) := Lib.hid
    ⟨BxSt.drew ⟨(r0.alloc _).alloc _, (r1.alloc _).alloc _, (r2.alloc _).alloc _, la _ rfl rfl, lb _ rfl rfl, ⟨by omega, by omega, by omega⟩, ⟨hbB, pa⟩, ba⟩, BxSt.drew ⟨(r0.alloc _).alloc _, (r1.alloc _).alloc _, (r2.alloc _).alloc _, lb _ rfl rfl, la _ rfl rfl, ⟨by omega, by omega, by omega⟩, ⟨hbB, pa⟩, ba⟩⟩
  clear la lb pa ba
  clear r0 r1 r2 hw3 h hc hz3
  go_enter Try.func76, Try.ntmps76
  go_wp2_with fail
  clear hW3
  go_cut [4, 5] (fun v4 v5 wx => ∃ L H : Nat, v4 = .pointer (some ⟨L, 0, none⟩) ∧ v5 = .pointer (some ⟨H, 0, none⟩) ∧ Hid (BxSt w wx b off n c zs L H 0 0))
  case first =>
    go_region
    · go_wp2_with fail
      go_meet
      exact ⟨_, _, rfl, rfl, Lib.hid HA.out.1⟩
    · go_wp2_with fail
      go_meet
      exact ⟨_, _, rfl, rfl, Lib.hid HA.out.2⟩
  case rest =>
    obtain ⟨L, H, rfl, rfl, HS⟩ := hcut
    have q0 : wc.cell? ⟨w.heap.size, 0, none⟩ = some (.slice (some ⟨b, off, none⟩) n c) := HS.out.bx.cell (i := 0) (by omega)
    clear p0 p1 zb zw R0 R1 R2
    go_wp2
    go_loopw [19] (fun i wr => ∃ k : Nat, k ≤ n ∧ i = .int .i64 k ∧ Hid (BxSt w wr b off n c zs L H k k)) (fun i _ => n - (intOf i).toNat)
    case atStart => exact ⟨0, Nat.zero_le _, rfl, HS⟩
    case round =>
      clear HS
      obtain ⟨k, hk, rfl, HS⟩ := hrel
      have l0 : wr.cell? ⟨L, 0, none⟩ = some (.int .i64 (mnTo zs 0 k)) := HS.out.lo.cell (i := 0) (by omega)
      have l1 : wr.cell? ⟨L, 1, none⟩ = some (.int .i64 (mnTo zs 1 k)) := HS.out.lo.cell (i := 1) (by omega)
      have h0 : wr.cell? ⟨H, 0, none⟩ = some (.int .i64 (mxTo zs 0 k)) := HS.out.hi.cell (i := 0) (by omega)
      have h1 : wr.cell? ⟨H, 1, none⟩ = some (.int .i64 (mxTo zs 1 k)) := HS.out.hi.cell (i := 1) (by omega)
      have fl0 := HS.out.lo.frozen 0
      have fl1 := HS.out.lo.frozen 1
      have fh0 := HS.out.hi.frozen 0
      have fh1 := HS.out.hi.frozen 1
      have sl := HS.out.lo.lt
      have sh := HS.out.hi.lt
      have hne := HS.out.big.2.2
      have hne' : ¬ H = L := fun e => hne e.symm
      by_cases hlt : k < n
      · have x0 : wr.cell? ⟨b, off + k * 2, none⟩ = some (.int .i64 (nth zs (k * 2))) := HS.out.pts.2 (k * 2) (by omega)
        have x1 : wr.cell? ⟨b, off + k * 2 + 1, none⟩ = some (.int .i64 (nth zs (k * 2 + 1))) := HS.out.pts.2 (k * 2 + 1) (by omega)
        have i1 : (k : Int) < (n : Int) := by omega
        have i0 : (0 : Int) ≤ (k : Int) := by omega
        have HS2 := Lib.hid (HS.out.setLo.setHi.alloc (.cells #[.int .i64 (nth zs (k * 2)), .int .i64 (nth zs (k * 2 + 1))] 76))
        go_wp2
        simp only [mn_if0, mn_if1, mx_if0, mx_if1]
        go_roundw
        case rel => exact ⟨k + 1, by omega, by go_num, HS2⟩
        case measure => simp [intOf]; omega
      · obtain rfl : k = n := by omega
        have c0 : wr.cell? ⟨w.heap.size + 1, 0, none⟩ = some (.int .i64 0) := HS.out.r1.cell (i := 0) (by omega)
        have c1 : wr.cell? ⟨w.heap.size + 1, 1, none⟩ = some (.int .i64 0) := HS.out.r1.cell (i := 1) (by omega)
        have d0 : wr.cell? ⟨w.heap.size + 1 + 1, 0, none⟩ = some (.int .i64 0) := HS.out.r2.cell (i := 0) (by omega)
        have d1 : wr.cell? ⟨w.heap.size + 1 + 1, 1, none⟩ = some (.int .i64 0) := HS.out.r2.cell (i := 1) (by omega)
        have fc0 := HS.out.r1.frozen 0
        have fc1 := HS.out.r1.frozen 1
        have fd0 := HS.out.r2.frozen 0
        have fd1 := HS.out.r2.frozen 1
        have s1 := HS.out.r1.lt
        have s2 := HS.out.r2.lt
        have big := HS.out.big
        have n1 : ¬ L = w.heap.size + 1 := by omega
        have n2 : ¬ L = w.heap.size + 1 + 1 := by omega
        have n3 : ¬ H = w.heap.size + 1 := by omega
        have n4 : ¬ H = w.heap.size + 1 + 1 := by omega
        go_wp2
        go_region
        all_goals
          go_wp2
          refine bodyPost_ret (v := .tuple #[.agg #[.int .i64 (mnTo zs 0 k), .int .i64 (mnTo zs 1 k)], .agg #[.int .i64 (mxTo zs 0 k), .int .i64 (mxTo zs 1 k)]]) (by simp [results, Try.results76, go_sem, *]) rfl ⟨rfl, ?_⟩
          exact below_drewN ((((HS.out.below.setCell (by first | (simp; done) | (simp; omega)) _).setCell (by first | (simp; done) | (simp; omega)) _).setCell (by first | (simp; done) | (simp; omega)) _).setCell (by first | (simp; done) | (simp; omega)) _) 1

set_option maxRecDepth 100000 in
set_option maxHeartbeats 3200000 in
theorem iBoxOf_any (A : Option Addr) (n c : Nat) (zs : List Int) (w : World) (h : RecsAt w w.heap.size 2 A n zs) :
    Calls Try.prog 50 #[.agg #[.slice A n c]] w fun e w' => e = .returned (.tuple #[.agg #[.int .i64 (bxL zs n 0), .int .i64 (bxL zs n 1)], .agg #[.int .i64 (bxH zs n 0), .int .i64 (bxH zs n 1)]]) ∧ Below w.heap.size w w' := by
  have hw3 : Below w.heap.size w (((w.alloc (.cells #[.slice A n c] 36)).alloc (.cells #[.int .i64 0, .int .i64 0] 76)).alloc (.cells #[.int .i64 0, .int .i64 0] 76)) := (((Below.refl _ _).alloc (Nat.le_refl _) _).alloc (by simp) _).alloc (by simp; omega) _
  have h1 := h.after hw3
  have r0 : RowF (((w.alloc (.cells #[.slice A n c] 36)).alloc (.cells #[.int .i64 0, .int .i64 0] 76)).alloc (.cells #[.int .i64 0, .int .i64 0] 76)) w.heap.size 36 1 (fun _ => .slice A n c) := ((rowF_new1S w (.slice A n c) 36).alloc _).alloc _
  have r1 : RowF (((w.alloc (.cells #[.slice A n c] 36)).alloc (.cells #[.int .i64 0, .int .i64 0] 76)).alloc (.cells #[.int .i64 0, .int .i64 0] 76)) (w.heap.size + 1) 76 2 (fun _ => .int .i64 0) := by
    simpa using (ints_new2 (w.alloc (.cells #[.slice A n c] 36)) 0 0 76 (fun _ => .int .i64 0) rfl rfl).alloc (.cells #[.int .i64 0, .int .i64 0] 76)
  have r2 : RowF (((w.alloc (.cells #[.slice A n c] 36)).alloc (.cells #[.int .i64 0, .int .i64 0] 76)).alloc (.cells #[.int .i64 0, .int .i64 0] 76)) (w.heap.size + 1 + 1) 76 2 (fun _ => .int .i64 0) := by
    simpa using ints_new2 ((w.alloc (.cells #[.slice A n c] 36)).alloc (.cells #[.int .i64 0, .int .i64 0] 76)) 0 0 76 (fun _ => .int .i64 0) rfl rfl
  have R0 := Lib.hid r0
  have R1 := Lib.hid r1
  have R2 := Lib.hid r2
  have HW3 := Lib.hid hw3
  clear hw3 r0 r1 r2
  cases hst : stoneB zs n
  · have HF := Lib.hid (show bxL zs n 0 = 0 ∧ bxL zs n 1 = 0 ∧ bxH zs n 0 = 0 ∧ bxH zs n 1 = 0 by simp [bxL, bxH, hst])
    go_enter Try.func50, Try.ntmps50
    go_wp2_with fail
    refine (iStoneOk_any _ _ _ zs _ h1).mono ?_
    rw [hst]
    rintro e w1 ⟨rfl, hb1⟩
    have R1 := Lib.hid (R1.out.after hb1)
    have R2 := Lib.hid (R2.out.after hb1)
    have HB := Lib.hid (HW3.out.trans (hb1.mono HW3.out.size))
    have c0 : w1.cell? ⟨w.heap.size + 1, 0, none⟩ = some (.int .i64 0) := R1.out.cell (i := 0) (by omega)
    have c1 : w1.cell? ⟨w.heap.size + 1, 1, none⟩ = some (.int .i64 0) := R1.out.cell (i := 1) (by omega)
    have d0 : w1.cell? ⟨w.heap.size + 1 + 1, 0, none⟩ = some (.int .i64 0) := R2.out.cell (i := 0) (by omega)
    have d1 : w1.cell? ⟨w.heap.size + 1 + 1, 1, none⟩ = some (.int .i64 0) := R2.out.cell (i := 1) (by omega)
    have f0 := R1.out.frozen 0
    have f1 := R1.out.frozen 1
    have g0 := R2.out.frozen 0
    have g1 := R2.out.frozen 1
    have z1 := R1.out.lt
    have z2 := R2.out.lt
    clear hb1 h1 h
    go_wp2
    refine bodyPost_ret (v := .tuple #[.agg #[.int .i64 0, .int .i64 0], .agg #[.int .i64 0, .int .i64 0]]) (by simp [results, Try.results50, go_sem, *]) rfl ⟨by rw [HF.out.1, HF.out.2.1, HF.out.2.2.1, HF.out.2.2.2], ?_⟩
    exact (((HB.out.setCell (by first | (simp; done) | (simp; omega)) _).setCell (by first | (simp; done) | (simp; omega)) _).setCell (by first | (simp; done) | (simp; omega)) _).setCell (by first | (simp; done) | (simp; omega)) _
  · have hm := (stoneB_out hst).1
    have HF := Lib.hid (show bxL zs n 0 = mnTo zs 0 n ∧ bxL zs n 1 = mnTo zs 1 n ∧ bxH zs n 0 = mxTo zs 0 n ∧ bxH zs n 1 = mxTo zs 1 n by simp [bxL, bxH, hst])
    obtain ⟨b, off, rfl, hbB, hc⟩ := h.2 (by omega)
    go_enter Try.func50, Try.ntmps50
    go_wp2_with fail
    refine (iStoneOk_any _ _ _ zs _ h1).mono ?_
    rw [hst]
    rintro e w1 ⟨rfl, hb1⟩
    have R0 := Lib.hid (R0.out.after hb1)
    have R1 := Lib.hid (R1.out.after hb1)
    have R2 := Lib.hid (R2.out.after hb1)
    have h2 := h1.after hb1
    have HB := Lib.hid (HW3.out.trans (hb1.mono HW3.out.size))
    have q0 : w1.cell? ⟨w.heap.size, 0, none⟩ = some (.slice (some ⟨b, off, none⟩) n c) := R0.out.cell (i := 0) (by omega)
    clear hb1 h1 h hc
    go_wp2_with fail
    refine (boxOf_any _ _ _ _ zs _ h2 (by omega) (by omega)).mono ?_
    rintro e w2 ⟨rfl, hb2⟩
    have R1 := Lib.hid (R1.out.after hb2)
    have R2 := Lib.hid (R2.out.after hb2)
    have HB := Lib.hid (HB.out.trans (hb2.mono HB.out.size))
    have c0 : w2.cell? ⟨w.heap.size + 1, 0, none⟩ = some (.int .i64 0) := R1.out.cell (i := 0) (by omega)
    have c1 : w2.cell? ⟨w.heap.size + 1, 1, none⟩ = some (.int .i64 0) := R1.out.cell (i := 1) (by omega)
    have d0 : w2.cell? ⟨w.heap.size + 1 + 1, 0, none⟩ = some (.int .i64 0) := R2.out.cell (i := 0) (by omega)
    have d1 : w2.cell? ⟨w.heap.size + 1 + 1, 1, none⟩ = some (.int .i64 0) := R2.out.cell (i := 1) (by omega)
    have f0 := R1.out.frozen 0
    have f1 := R1.out.frozen 1
    have g0 := R2.out.frozen 0
    have g1 := R2.out.frozen 1
    have z1 := R1.out.lt
    have z2 := R2.out.lt
    clear hb2 h2 q0
    go_wp2
    refine bodyPost_ret (v := .tuple #[.agg #[.int .i64 (mnTo zs 0 n), .int .i64 (mnTo zs 1 n)], .agg #[.int .i64 (mxTo zs 0 n), .int .i64 (mxTo zs 1 n)]]) (by simp [results, Try.results50, go_sem, *]) rfl ⟨by rw [HF.out.1, HF.out.2.1, HF.out.2.2.1, HF.out.2.2.2], ?_⟩
    exact (((HB.out.setCell (by first | (simp; done) | (simp; omega)) _).setCell (by first | (simp; done) | (simp; omega)) _).setCell (by first | (simp; done) | (simp; omega)) _).setCell (by first | (simp; done) | (simp; omega)) _
end Go.Proofs.Ytplabaneihjcoaa
