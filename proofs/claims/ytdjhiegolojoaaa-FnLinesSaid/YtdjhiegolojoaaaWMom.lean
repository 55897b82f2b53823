/-
  Contracts: the moments of a push at a joint, and whether it passes, in the reference and in the program.
-/
import Derived.Test.YtdjhiegolojoaaaPPlace
import Derived.Test.YtdjhiegolojoaaaWThr
import Derived.Test.YtdjhiegolojoaaaWTotal
namespace Go.Proofs.Ytdjhiegolojoaaa
open Go.RowKit
set_option linter.unusedSimpArgs false

/-- A box of four cells of ints. -/
def Box4 (w : World) (b : Nat) (H V M D : Int) : Prop := (w.cell? ⟨b, 0, none⟩ = some (.int .i64 H) ∧ w.cell? ⟨b, 1, none⟩ = some (.int .i64 V) ∧ w.cell? ⟨b, 2, none⟩ = some (.int .i64 M) ∧ w.cell? ⟨b, 3, none⟩ = some (.int .i64 D)) ∧ b < w.heap.size
theorem Box4.after {w w1 : World} {b : Nat} {H V M D : Int} (h : Box4 w b H V M D) (hb : Below w.heap.size w w1) : Box4 w1 b H V M D :=
  ⟨⟨(hb.cell (p := ⟨b, 0, none⟩) h.2).trans h.1.1, (hb.cell (p := ⟨b, 1, none⟩) h.2).trans h.1.2.1, (hb.cell (p := ⟨b, 2, none⟩) h.2).trans h.1.2.2.1, (hb.cell (p := ⟨b, 3, none⟩) h.2).trans h.1.2.2.2⟩, Nat.lt_of_lt_of_le h.2 hb.size⟩
theorem Box4.new (w : World) (H V M D : Int) (t : TypeId) : Box4 (w.alloc (.cells #[.int .i64 H, .int .i64 V, .int .i64 M, .int .i64 D] t)) w.heap.size H V M D := by
  have h := World.rowIs_alloc w #[.int .i64 H, .int .i64 V, .int .i64 M, .int .i64 D] t (ints [H, V, M, D]) (fun j hj => by simp at hj; match j, hj with | 0, _ => rfl | 1, _ => rfl | 2, _ => rfl | 3, _ => rfl)
  exact ⟨⟨h.cell (by simp), h.cell (by simp), h.cell (by simp), h.cell (by simp)⟩, by simp⟩
/-- The boxes at entry: of the arch and of the thrust. -/
structure AT (w wr : World) (v : Value) (H V M D : Int) : Prop where
  arch : Box wr w.heap.size v
  thr : Box4 wr (w.heap.size + 1) H V M D
  below : Below w.heap.size w wr
theorem AT.after {w wr w1 : World} {v : Value} {H V M D : Int} (h : AT w wr v H V M D) (hb : Below wr.heap.size wr w1) : AT w w1 v H V M D := ⟨h.arch.after hb, h.thr.after hb, h.below.trans (hb.mono h.below.size)⟩
theorem AT.start (w : World) (v : Value) (H V M D : Int) (T U : TypeId) : AT w ((w.alloc (.cells #[v] T)).alloc (.cells #[.int .i64 H, .int .i64 V, .int .i64 M, .int .i64 D] U)) v H V M D := by
  refine ⟨(Box.new w v T).alloc _, ?_, ((Below.refl _ _).alloc (Nat.le_refl _) _).alloc (by simp) _⟩
  have h := Box4.new (w.alloc (.cells #[v] T)) H V M D U
  rw [World.size_alloc] at h
  exact h
theorem at_below (w : World) (v : Value) (H V M D : Int) (T U : TypeId) : Below w.heap.size w ((w.alloc (.cells #[v] T)).alloc (.cells #[.int .i64 H, .int .i64 V, .int .i64 M, .int .i64 D] U)) := ((Below.refl _ _).alloc (Nat.le_refl _) _).alloc (by simp) _


set_option maxRecDepth 100000 in
set_option maxHeartbeats 1600000 in
theorem pushOk_any (A : Option Addr) (n c : Nat) (zs : List Int) (B : Option Addr) (q d : Nat) (ls : List Int) (H V M D k : Int) (w : World) (h : RecsAt w w.heap.size 4 A n zs) (hn : n ≤ 1048576) (hl : RecsAt w w.heap.size 3 B q ls) (hq : q ≤ 1048576) :
    Calls Try.prog 106 #[.agg #[.slice A n c], .slice B q d, .agg #[.int .i64 H, .int .i64 V, .int .i64 M, .int .i64 D], .int .i64 k] w fun e w' => e = .returned (.bool (pushB zs n ls q H V M D k)) ∧ Below w.heap.size w w' := by
  have at0 := AT.start w (.slice A n c) H V M D 41 46
  have b0 := at_below w (.slice A n c) H V M D 41 46
  have h1 := h.after b0
  have l1 := hl.after b0
  have HAT := Lib.hid at0
  clear at0 b0 h hl
  cases hL : loadsB zs n ls q
  · have HF := Lib.hid (pushB_1 H V M D k hL)
    go_enter Try.func106, Try.ntmps106
    go_wp2_with fail
    refine (iLoadsOk_any _ _ _ zs _ _ _ ls _ h1 hn l1 hq).mono ?_
    rw [hL]
    rintro e w1 ⟨rfl, hb1⟩
    have HB1 := Lib.hid (HAT.out.after hb1).below
    clear hb1
    go_wp2
    go_ret
    exact ⟨ret_bool HF.out.symm, HB1.out⟩
  have hn8 := (archB_out (loadsB_out hL).1).1
  have e1 : IntKind.i64.wrap ((n : Int) - 1) = (n : Int) - 1 := IntWalk.i64_in _ (by omega)
  cases hT : thrB H V M D
  · have HF := Lib.hid (pushB_2 zs n ls q k hT)
    go_enter Try.func106, Try.ntmps106
    go_wp2_with fail
    refine (iLoadsOk_any _ _ _ zs _ _ _ ls _ h1 hn l1 hq).mono ?_
    rw [hL]
    rintro e w1 ⟨rfl, hb1⟩
    have HA1 := Lib.hid (HAT.out.after hb1)
    have c0 := HA1.out.thr.1.1
    have c1 := HA1.out.thr.1.2.1
    have c2 := HA1.out.thr.1.2.2.1
    have c3 := HA1.out.thr.1.2.2.2
    clear hb1
    go_wp2_with fail
    refine (iThrustOk_any _ _ _ _ _).mono ?_
    rw [hT]
    rintro e w2 ⟨rfl, hb2⟩
    have HB2 := Lib.hid (HA1.out.after hb2).below
    clear hb2
    go_wp2
    go_ret
    exact ⟨ret_bool HF.out.symm, HB2.out⟩
  have HF : Hid (inB k 0 ((n : Int) - 1) = pushB zs n ls q H V M D k) := by
    show _ = _
    simp [pushB, hL, hT]
  go_enter Try.func106, Try.ntmps106
  go_wp2_with fail
  refine (iLoadsOk_any _ _ _ zs _ _ _ ls _ h1 hn l1 hq).mono ?_
  rw [hL]
  rintro e w1 ⟨rfl, hb1⟩
  have HA1 := Lib.hid (HAT.out.after hb1)
  have c0 := HA1.out.thr.1.1
  have c1 := HA1.out.thr.1.2.1
  have c2 := HA1.out.thr.1.2.2.1
  have c3 := HA1.out.thr.1.2.2.2
  clear hb1
  go_wp2_with fail
  refine (iThrustOk_any _ _ _ _ _).mono ?_
  rw [hT]
  rintro e w2 ⟨rfl, hb2⟩
  have HA2 := Lib.hid (HA1.out.after hb2)
  have c4 := HA2.out.arch.1
  clear hb2 c0 c1 c2 c3
  go_wp2_with (go_at_call 31; refine (within_any _ _ _ _).mono ?_; rintro e w' ⟨rfl, rfl⟩)
  go_ret
  exact ⟨ret_bool HF.out, HA2.out.below⟩

/-- What the closure of the program's MomentsAt holds. -/
structure MCap (w : World) (gt gl gu : Nat) (H V M D W Mo : Int) : Prop where
  thr : Box4 w gt H V M D
  left : w.cell? ⟨gl, 0, none⟩ = some (.int .i64 W) ∧ w.cell? ⟨gl, 1, none⟩ = some (.int .i64 Mo) ∧ gl < w.heap.size
  up : w.cell? ⟨gu, 0, none⟩ = some (.int .i64 (V - D * W)) ∧ gu < w.heap.size
theorem MCap.after {w w1 : World} {gt gl gu : Nat} {H V M D W Mo : Int} (h : MCap w gt gl gu H V M D W Mo) (hb : Below w.heap.size w w1) : MCap w1 gt gl gu H V M D W Mo :=
  ⟨h.thr.after hb, ⟨(hb.cell (p := ⟨gl, 0, none⟩) h.left.2.2).trans h.left.1, (hb.cell (p := ⟨gl, 1, none⟩) h.left.2.2).trans h.left.2.1, Nat.lt_of_lt_of_le h.left.2.2 hb.size⟩, ⟨(hb.cell (p := ⟨gu, 0, none⟩) h.up.2).trans h.up.1, Nat.lt_of_lt_of_le h.up.2 hb.size⟩⟩
set_option maxRecDepth 100000 in
set_option maxHeartbeats 1600000 in
theorem moment1_any (gt gl gu : Nat) (H V M D W Mo px py : Int) (w : World) (hc : MCap w gt gl gu H V M D W Mo) (h : MomBd H V M D W Mo px py) :
    Calls Try.prog 108 #[.agg #[.int .i64 px, .int .i64 py], .pointer (some ⟨gt, 0, none⟩), .pointer (some ⟨gl, 0, none⟩), .pointer (some ⟨gu, 0, none⟩)] w fun e w' => e = .returned (.int .i64 (momI H V M D W Mo px py)) ∧ Below w.heap.size w w' := by
  obtain ⟨h1, h2, h3, h4, h5, h6⟩ := h
  have HE : Hid (M - D * Mo - px * (V - D * W) + py * H = momI H V M D W Mo px py) := rfl
  have e1 : IntKind.i64.wrap (D * Mo) = D * Mo := IntWalk.i64_in _ (by omega)
  have e3 : IntKind.i64.wrap (px * (V - D * W)) = px * (V - D * W) := IntWalk.i64_in _ (by omega)
  have e4 : IntKind.i64.wrap (py * H) = py * H := IntWalk.i64_in _ (by omega)
  obtain ⟨⟨⟨t0, t1, t2, t3⟩, tl⟩, ⟨l0, l1, ll⟩, ⟨u0, ul⟩⟩ := hc
  have HU : Hid (∀ x, x = V - D * W → -720000000000000 ≤ px * x ∧ px * x ≤ 720000000000000 ∧ M - D * Mo - px * x + py * H = momI H V M D W Mo px py) := fun x hx => by subst hx; exact ⟨h5.1, h5.2, rfl⟩
  go_enter Try.func108, Try.ntmps108
  go_wp2
  go_ret
  exact ⟨ret_int HE.out, (Below.refl _ _).alloc (Nat.le_refl _) _⟩
end Go.Proofs.Ytdjhiegolojoaaa
