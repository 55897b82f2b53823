/-
  Texts that the law stands on, part 1.
-/
import Derived.Test.YtbpnbhemdbgmjaaGreatC1
import Derived.Test.YtbpnbhemdbgmjaaGreatC11
import Derived.Test.YtbpnbhemdbgmjaaGreatC17
import Derived.Test.YtbpnbhemdbgmjaaGreatC22
import Derived.Test.YtbpnbhemdbgmjaaGreatC24
import Derived.Test.YtbpnbhemdbgmjaaGreatF1
import Derived.Test.YtbpnbhemdbgmjaaGreatF2
import Derived.Test.YtbpnbhemdbgmjaaGreatF3
import Derived.Test.YtbpnbhemdbgmjaaGreatProg
import Derived.KernelRfl
import Derived.Deep.RegionLaw
import Derived.Lib.SliceRun
import Derived.Deep.RegionHeld3
import Derived.Outline
set_option linter.unusedVariables false
set_option linter.unusedSimpArgs false
namespace Go.Proofs.YtbpnbhemdbgmjaaGreat
section
open Go.ChangeShapes Go.WideShapes Go.ChangeAt Go.RowKit
section
variable {w w' : World} {B B' K n : Nat} {A : Option Addr} {L : List (Nat × List Int)}
theorem NestAt.keep (h : NestAt w B K A n L) (hk : ∀ p : Addr, p.block < B → w'.cell? p = w.cell? p) : NestAt w' B K A n L :=
 ⟨h.1, fun hn => by
  obtain ⟨b, off, e, hb, hc⟩ := h.2 hn
  refine ⟨b, off, e, hb, fun i hi => ?_⟩
  obtain ⟨Ai, ci, h1, h2, h3⟩ := hc i hi
  exact ⟨Ai, ci, (hk ⟨b, off + i, none⟩ hb).trans h1, h2.keep hk, h3⟩⟩
theorem NestAt.below (h : NestAt w B K A n L) (hb : Below B w w') : NestAt w' B K A n L := h.keep fun _ hp => hb.cell hp
theorem NestAt.after (h : NestAt w w.heap.size K A n L) (hb : Below w.heap.size w w') : NestAt w' w'.heap.size K A n L := (h.below hb).mono hb.size
theorem NestAt.alloc (h : NestAt w B K A n L) (hB : B ≤ w.heap.size) (o : Obj) : NestAt (w.alloc o) B K A n L := h.keep fun p hp => World.cell?_alloc_lt w o p (by omega)
end
end
section
open Go.RowKit
section
variable {g : Nat} {w w' w'' : World}
end
def marks (f : Nat → Value) (k0 : Int) (m j : Nat) : Value := if j < m then .int .i64 (k0 + j) else f j
theorem marks_0 (f : Nat → Value) (k0 : Int) (j : Nat) : marks f k0 0 j = f j := by simp [marks]
theorem marks_step (f : Nat → Value) (k0 : Int) (m j : Nat) : (if j = m then Value.int .i64 (k0 + (m : Int)) else marks f k0 m j) = marks f k0 (m + 1) j := by
 unfold marks
 by_cases h : j = m
 ·subst h; simp
 ·by_cases h' : j < m
  ·simp [h, h', show j < m + 1 by omega]
  ·simp [h, h', show ¬ j < m + 1 by omega]
def IntRow (f : Nat → Value) : Prop := ∀ j, ∃ z : Int, f j = .int .i64 z
theorem intRow_ints (zs : List Int) : IntRow (ints zs) := fun _ => ⟨_, rfl⟩
end
end Go.Proofs.YtbpnbhemdbgmjaaGreat
section
namespace Go.Proofs.Tryzx
theorem func11 : prog.funcs[11]? = some Tryz.f11 := by kernel_rfl
theorem func50 : prog.funcs[50]? = some Tryz.f50 := by kernel_rfl
theorem func51 : prog.funcs[51]? = some Tryz.f51 := by kernel_rfl
theorem func52 : prog.funcs[52]? = some Tryz.f52 := by kernel_rfl
theorem func53 : prog.funcs[53]? = some Tryz.f53 := by kernel_rfl
theorem func54 : prog.funcs[54]? = some Tryz.f54 := by kernel_rfl
theorem func102 : prog.funcs[102]? = some Tryz.f102 := by kernel_rfl
theorem func103 : prog.funcs[103]? = some Tryz.f103 := by kernel_rfl
theorem func104 : prog.funcs[104]? = some Tryz.f104 := by kernel_rfl
@[simp] theorem call11 (args w) : Sem.run prog (callFunc 11 args) w = .ok (.enter 11 args) w := call_x 11 args w func11
@[simp] theorem call50 (args w) : Sem.run prog (callFunc 50 args) w = .ok (.enter 50 args) w := call_x 50 args w func50
@[simp] theorem call51 (args w) : Sem.run prog (callFunc 51 args) w = .ok (.enter 51 args) w := call_x 51 args w func51
@[simp] theorem call52 (args w) : Sem.run prog (callFunc 52 args) w = .ok (.enter 52 args) w := call_x 52 args w func52
@[simp] theorem call53 (args w) : Sem.run prog (callFunc 53 args) w = .ok (.enter 53 args) w := call_x 53 args w func53
@[simp] theorem call54 (args w) : Sem.run prog (callFunc 54 args) w = .ok (.enter 54 args) w := call_x 54 args w func54
@[simp] theorem call102 (args w) : Sem.run prog (callFunc 102 args) w = .ok (.enter 102 args) w := call_x 102 args w func102
@[simp] theorem call103 (args w) : Sem.run prog (callFunc 103 args) w = .ok (.enter 103 args) w := call_x 103 args w func103
@[simp] theorem call104 (args w) : Sem.run prog (callFunc 104 args) w = .ok (.enter 104 args) w := call_x 104 args w func104
end Go.Proofs.Tryzx
end
section
namespace Go.Proofs.Tryzx
theorem ntmps11 : Tryz.f11.ntmps = 90 := Tryz.ntmps11
theorem ntmps52 : Tryz.f52.ntmps = 10 := Tryz.ntmps52
theorem ntmps104 : Tryz.f104.ntmps = 45 := Tryz.ntmps104
end Go.Proofs.Tryzx
end
namespace Go.Proofs.YtbpnbhemdbgmjaaGreat
section
open Go.RowKit
theorem OwnV.capN {w : World} {base : Nat} {E : TypeId} {A : Option Addr} {n c : Nat} {xs : List Int} (h : OwnV w base E (.slice A n c) xs) : n ≤ c ∧ c ≤ 9223372036854775807 := by
 rcases h.2 with ⟨h1, h2⟩ | ⟨g, cap, cur, h1, hb, hg, hc, h5, _⟩
 ·simp at h1; omega
 ·simp at h1
  obtain ⟨_, hn, rfl⟩ := h1
  unfold maxLen at h5
  omega
def layI : List Int → Nat → List Int → List Int
 | xs, _, [] => xs
 | xs, o, y :: ys => layI (xs.set o y) (o + 1) ys
theorem layI_len : ∀ (ys xs : List Int) (o : Nat), (layI xs o ys).length = xs.length
 | [], xs, o => rfl
 | y :: ys, xs, o => by rw [layI, layI_len ys, List.length_set]
theorem layI_eq : ∀ (ys xs : List Int) (o : Nat), o + ys.length ≤ xs.length → layI xs o ys = xs.take o ++ ys ++ xs.drop (o + ys.length)
 | [], xs, o, _ => by simp [layI]
 | y :: ys, xs, o, h => by
  simp only [List.length_cons] at h
  have ho : o < xs.length := by omega
  rw [layI, layI_eq ys (xs.set o y) (o + 1) (by rw [List.length_set]; omega)]
  have e1 : (xs.set o y).take (o + 1) = xs.take o ++ [y] := by
   rw [List.take_add_one, List.getElem?_set_self ho, List.take_set_of_le (Nat.le_refl o)]; rfl
  have e2 : (xs.set o y).drop (o + 1 + ys.length) = xs.drop (o + (y :: ys).length) := by
   rw [List.drop_set_of_lt (by omega)]
   congr 1
   simp
   omega
  rw [e1, e2]
  simp
theorem OwnI.setCells {w : World} {base g cap : Nat} {E : TypeId} {xs : List Int} (h : OwnI w base E g cap xs) : ∀ (ys : List Int) (o : Nat), OwnI (w.setCells g o (ys.map (Value.int .i64))) base E g cap (layI xs o ys) := by
 intro ys
 induction ys generalizing w xs with
 | nil => intro o; exact h
 | cons y ys ih => intro o; exact ih (h.set o y) (o + 1)
theorem OwnI.take {w : World} {base g cap : Nat} {E : TypeId} {xs : List Int} (h : OwnI w base E g cap xs) (k : Nat) (hk : k ≤ xs.length) : OwnI w base E g cap (xs.take k) := by
 have hl : (xs.take k).length = k := by rw [List.length_take]; omega
 refine ⟨by simp, ?_⟩
 rcases h.2 with ⟨h1, h2⟩ | ⟨g0, cap0, cur, h1, h2, h3, h4, h5, h6, h7⟩
 ·simp at h1
 ·simp at h1
  obtain ⟨rfl, rfl⟩ := h1
  refine .inr ⟨_, _, cur, rfl, h2, h3, by omega, h5, h6, ?_⟩
  rw [hl, List.map_take, ← h7, List.take_take]
  congr 1
  omega
theorem below_setCells {B g : Nat} {a w : World} (h : Below B a w) (hg : B ≤ g) : ∀ (vs : List Value) (o : Nat), Below B a (w.setCells g o vs) := by
 intro vs
 induction vs generalizing w with
 | nil => intro o; exact h
 | cons v vs ih => intro o; exact ih (h.setCell hg _) (o + 1)
end
section
open Go.RowKit
theorem wpList_append_rowO {P : Program} (w : World) {ops : Array Oper} {rest : List Oper} {o : Oper} {a : Act} {Q : Exit → Act → World → Prop} (hgd : o.guard = none) (s x : Operand) (t : TypeId)
  (ho : o.op = .call { callee := .builtin .append, args := #[s, x], argTypes := #[t, t] })
  (base : Nat) (E : TypeId) (ht : P.underlying t = some (.slice E)) (hinfo : (P.info? E).map (fun i => (i.zero, i.size, i.bytes)) = some (some (.int .i64 0), 1, 8))
  (v : Value) (hs : a.eval s = v) (hown : OwnV w base E v []) (g off n c : Nat) (zs : List Int) (hx : a.eval x = .slice (some ⟨g, off, none⟩) n c)
  (hl : zs.length = n) (hg : ∀ j, j < n → w.cell? ⟨g, off + j, none⟩ = some (.int .i64 (nth zs j))) (B : Nat) (w0 : World) (hb : Below B w0 w) (hB : B ≤ base) (hbase : base ≤ w.heap.size) (hk2 : n ≤ 1099511627776)
  (h : ∀ A k c w', OwnV w' base E (.slice A k c) zs → Below B w0 w' → wpList P ops Q rest (a.put o.dst (.slice A k c)) w') : wpList P ops Q (o :: rest) a w := by
 obtain ⟨i0, hi0, hz0, hz1, hz2⟩ := info_parts hinfo
 refine wpList_append_own (P := P) w hgd s x t ho base E i0 (.int .i64 0) 1 8 ht hi0 hz0 hz1 hz2 rfl (by decide) v 0 _ hs hown ⟨g, off, none⟩ n c (zs.map (Value.int .i64)) hx (by simp [hl]) ?_ ?_ (by unfold maxLen; omega) (by omega) hbase ?_
 ·intro j u hj
  rw [List.getElem?_map] at hj
  by_cases hjn : j < n
  ·have e := hg j hjn
   rw [nth_get _ _ (by omega)] at e
   rw [List.getElem?_eq_getElem (by omega)] at hj
   simp at hj
   rw [← hj]
   rw [Go.WideShapes.add_plain]
   exact e
  ·rw [List.getElem?_eq_none (by omega)] at hj
   simp at hj
 ·intro u hu
  simp at hu
  obtain ⟨z, _, rfl⟩ := hu
  rfl
 ·intro v' w' hown' hgr _
  have h' : OwnV w' base E v' zs := by
   unfold OwnV
   have e : 0 + n = zs.length := by omega
   rw [e] at hown'
   exact hown'
  obtain ⟨A, k, c', rfl⟩ := h'.sliceN
  exact h A k c' w' h' (hb.grown hgr (by omega) (fun k hk => by have := hown.ownLt k hk; omega))
end
namespace X
open Go.RowKit
theorem zeroIntD (w : World) : (zeroValue 3).run Tryzx.prog w = .ok (.int .i64 0) w := by kernel_rfl
set_option maxRecDepth 100000 in
set_option maxHeartbeats 800000 in
theorem cloneI_any (g off n c : Nat) (zs : List Int) (w : World) (hg : g < w.heap.size) (hc : ∀ j, j < n → w.cell? ⟨g, off + j, none⟩ = some (.int .i64 (nth zs j))) (hl : zs.length = n) (hn : n ≤ 1048576) :
  Calls Tryzx.prog 103 #[.slice (some ⟨g, off, none⟩) n c] w fun e w' => ∃ A k d, e = .returned (.slice A k d) ∧ OwnV w' w.heap.size 3 (.slice A k d) zs ∧ Below w.heap.size w w' := by
 have HC := Lib.hid (fun j hj => (World.cell?_alloc_lt w (.cells #[] 3) ⟨g, off + j, none⟩ hg).trans (hc j hj))
 clear hc
 have hnil := Lib.run_eql_slice_nil (P := Tryzx.prog) w 54 3 (some ⟨g, off, none⟩) n c 0 0 Tryzx.underlying54
 go_enter Tryzx.func103, Tryz.ntmps103
 go_wp2_with (at_builtin; refine wpList_append_rowO _ rfl (.tmp 5) (.tmp 6) 54 rfl w.heap.size 3 Tryzx.underlying54 infoInt _ rfl (by exact (OwnI.new w _).toV) g off n c zs rfl hl (by exact HC.out) w.heap.size w (by exact (Below.refl _ _).alloc (Nat.le_refl _) _) (Nat.le_refl _) (by simp) (by omega) ?_; intro A k c' w3 hown3 hb3)
 go_ret
 exact ⟨_, _, _, rfl, hown3, hb3⟩
theorem delL_eq (L : List Int) (i m : Nat) (h : L.length = i + 1 + m) : (layI (layI L (0 + i * 1) (L.drop (i + 1))) (i + m) [0]).take (i + m) = L.eraseIdx i := by
 rw [layI_eq [0] _ _ (by rw [layI_len]; simp; omega), layI_eq (L.drop (i + 1)) L _ (by simp; omega), List.eraseIdx_eq_take_drop_succ]
 have e0 : 0 + i * 1 = i := by omega
 rw [e0]
 have e1 : (L.take i ++ L.drop (i + 1)).length = i + m := by simp; omega
 rw [List.append_assoc (List.take (i + m) _), List.take_append_of_le_length (by simp; omega), List.take_take, Nat.min_self, List.take_append_of_le_length (by omega), List.take_of_length_le (by omega)]
set_option maxRecDepth 1000000 in
set_option maxHeartbeats 4000000 in
theorem deleteI_any (g cap base i m : Nat) (L : List Int) (w : World) (h : OwnI w base 3 g cap L) (hl : L.length = i + 1 + m) (hcap : L.length ≤ cap ∧ cap ≤ 9223372036854775807) (hn : L.length ≤ 1048576) :
  Calls Tryzx.prog 102 #[.slice (some ⟨g, 0, none⟩) (i + 1 + m) cap, .int .i64 i, .int .i64 ((i : Int) + 1)] w fun e w' => e = .returned (.slice (some ⟨g, 0, none⟩) (i + m) cap) ∧ OwnV w' base 3 (.slice (some ⟨g, 0, none⟩) (i + m) cap) (L.eraseIdx i) ∧ Below base w w' := by
 obtain ⟨i0, hi0, hz0, hz1, hz2⟩ := info_parts infoInt
 obtain ⟨news, hnews⟩ : ∃ news, news = (L.drop (i + 1)).map (Value.int .i64) := ⟨_, rfl⟩
 have hlen : news.length = m := by rw [hnews]; simp; omega
 have hget : ∀ t, t < m → news[t]? = some (.int .i64 (nth L (i + 1 + t))) := by
  intro t ht
  rw [hnews, List.getElem?_map, List.getElem?_drop, List.getElem?_eq_getElem (by omega), nth_get _ _ (by omega)]
  rfl
 obtain ⟨A, hA, hsrc⟩ : ∃ A : Addr, (if cap = i + 1 then some (⟨g, 0, none⟩ : Addr) else some ⟨g, i + 1, none⟩) = some A ∧ Hid (∀ t u, news[t]? = some u → w.drew.cell? (A.add t) = some u) := by
  by_cases hci : cap = i + 1
  ·refine ⟨⟨g, 0, none⟩, by simp [hci], fun t u hu => ?_⟩
   have h0 : news.length = 0 := by rw [hlen]; omega
   rw [List.length_eq_zero_iff.1 h0] at hu
   simp at hu
  ·refine ⟨⟨g, i + 1, none⟩, by simp [hci], fun t u hu => ?_⟩
   have ht : t < m := by
    have := (List.getElem?_eq_some_iff.1 hu).1
    rwa [hlen] at this
   rw [hget t ht] at hu
   rw [Addr.add_lit]
   exact (h.drew.cell (by omega)).trans hu
 have s1 : Hid (news.length = m * 1) := by rw [Nat.mul_one]; exact hlen
 have s2 : Hid (∀ u ∈ news, u.oneCell' = true) := by
  intro u hu
  rw [hnews] at hu
  obtain ⟨x, _, rfl⟩ := List.mem_map.1 hu
  rfl
 have s3 : Hid (∀ t, t < news.length → (w.drew.cell? ⟨g, 0 + i * 1 + t, none⟩).isSome = true ∧ w.drew.frozen? ⟨g, 0 + i * 1 + t, none⟩ = false) := by
  intro t ht
  rw [hlen] at ht
  rw [Nat.mul_one, Nat.zero_add]
  exact ⟨by rw [h.drew.cell (by omega)]; rfl, h.drew.frozen _⟩
 obtain ⟨W1, hW1⟩ : ∃ W1, W1 = w.drew.setCells g (0 + i * 1) news := ⟨_, rfl⟩
 have hO1 : OwnI W1 base 3 g cap (layI L (0 + i * 1) (L.drop (i + 1))) := by rw [hW1, hnews]; exact h.drew.setCells _ _
 have hB1 : Below base w W1 := by rw [hW1]; exact below_setCells (below_drewN (Below.refl _ _) 1) h.blk.1 _ _
 have hcl : ∀ ty, (Builtin.clear_ #[54] ty #[.slice (some ⟨g, i + m, none⟩) 1 (cap - (i + m))]).run Tryzx.prog W1 = .ok (.tuple #[]) (W1.setCells g (i + m) [.int .i64 0]) :=
  fun ty => Lib.run_clear_slice W1 _ _ ty _ Tryzx.underlying54 zeroIntD rfl rfl g (i + m) 1 _ (by omega) (fun t ht => by rw [hO1.cell (by rw [layI_len]; omega)]; rfl) (fun t ht => hO1.frozen _)
 have HO2 : Hid (OwnV (W1.setCells g (i + m) [.int .i64 0]) base 3 (.slice (some ⟨g, 0, none⟩) (i + m) cap) (L.eraseIdx i)) := Lib.hid (by
  have h2 := (hO1.setCells [0] (i + m)).take (i + m) (by rw [layI_len, layI_len]; omega)
  rw [delL_eq L i m hl] at h2
  have h3 := h2.toV
  rwa [show (L.eraseIdx i).length = i + m by rw [List.length_eraseIdx_of_lt (by omega)]; omega] at h3)
 have HB2 : Hid (Below base w (W1.setCells g (i + m) [.int .i64 0])) := Lib.hid (below_setCells hB1 h.blk.1 _ _)
 have hW : Hid (W1 = w.drew.setCells g (0 + i * 1) news) := hW1
 have hic : i ≤ cap := by omega
 have hjc : i + 1 ≤ cap := by omega
 have e1 : i + 1 + m - (i + 1) = m := by omega
 have e2 : i + 1 + m - (i + m) = 1 := by omega
 have hp0 : (0 : Int) ≤ (i : Int) + 1 := by omega
 have hp1 : (i : Int) + 1 ≤ (i : Int) + 1 + (m : Int) := by omega
 have hp2 : ((i : Int) + 1).toNat = i + 1 := by omega
 have hne : ((i : Int) == (i : Int) + 1) = false := by simp; omega
 clear hO1 hB1 hW1 hget hnews hlen h
 go_enter Tryzx.func102, Tryz.ntmps102
 go_wp2_with fail
 go_region_law (refine step_append_room rfl (.tmp 22) (.tmp 25) 54 rfl 3 i0 1 Tryzx.underlying54 hi0 hz1 g 0 i cap (by simp [Act.eval, Act.put]) A m (cap - (i + 1)) news (by simp [Act.eval, Act.put]) s1.out hsrc.out s2.out (by omega) s3.out ?_; rw [← hW.out])
 go_wp2
 go_ret
 exact ⟨rfl, HO2.out, HB2.out⟩
end X
section
open Go.RowKit
theorem woL_take {cs : List Int} {i : Nat} (hi : i < cs.length) (hd : ∀ j, j < cs.length → j ≠ i → nth cs j ≠ nth cs i) : ∀ k, k ≤ i → woL cs (nth cs i) k = cs.take k
 | 0, _ => by simp [woL]
 | k + 1, h => by rw [woL_no (hd k (by omega) (by omega)), woL_take hi hd k (by omega), take_snoc (by omega)]
theorem woL_drop {cs : List Int} {i : Nat} (hi : i < cs.length) (hd : ∀ j, j < cs.length → j ≠ i → nth cs j ≠ nth cs i) : ∀ m, i + 1 + m ≤ cs.length → woL cs (nth cs i) (i + 1 + m) = cs.take i ++ (cs.drop (i + 1)).take m
 | 0, _ => by rw [Nat.add_zero, woL_yes rfl, woL_take hi hd i (Nat.le_refl _)]; simp
 | m + 1, h => by
  rw [← Nat.add_assoc, woL_no (hd _ (by omega) (by omega)), woL_drop hi hd m (by omega), List.append_assoc]
  congr 1
  have e : m < (cs.drop (i + 1)).length := by simp; omega
  rw [List.take_add_one, List.getElem?_eq_getElem e, List.getElem_drop, nth_get _ _ (by omega)]
  rfl
theorem woL_erase {cs : List Int} {i : Nat} (hi : i < cs.length) (hd : ∀ j, j < cs.length → j ≠ i → nth cs j ≠ nth cs i) : woL cs (nth cs i) cs.length = cs.eraseIdx i := by
 have h := woL_drop hi hd (cs.length - (i + 1)) (by omega)
 rw [show i + 1 + (cs.length - (i + 1)) = cs.length by omega] at h
 rw [h, List.eraseIdx_eq_take_drop_succ]
 congr 1
 exact List.take_of_length_le (by rw [List.length_drop]; exact Nat.le_refl _)
def pickL (f : Nat → Bool) (cs : List Int) : Nat → List Int
 | 0 => []
 | k + 1 => if f k = true then pickL f cs k ++ [nth cs k] else pickL f cs k
theorem pickL_yes {f : Nat → Bool} {cs : List Int} {k : Nat} (h : f k = true) : pickL f cs (k + 1) = pickL f cs k ++ [nth cs k] := by simp [pickL, h]
theorem pickL_no {f : Nat → Bool} {cs : List Int} {k : Nat} (h : f k = false) : pickL f cs (k + 1) = pickL f cs k := by simp [pickL, h]
theorem pickL_len (f : Nat → Bool) (cs : List Int) : ∀ k, (pickL f cs k).length ≤ k
 | 0 => Nat.le_refl _
 | k + 1 => by
  have ih := pickL_len f cs k
  cases h : f k
  ·rw [pickL_no h]; omega
  ·rw [pickL_yes h, List.length_append]; simp; omega
end
namespace X
open Go.RowKit
theorem carried_ne {zs cs : List Int} {n q i j : Nat} (h : carriedB zs n cs q = true) (hi : i < q) (hj : j < q) (hij : j ≠ i) : nth cs j ≠ nth cs i := by
 have ha := (carriedB_out h).2
 rcases Nat.lt_or_ge i j with e | e
 ·have := asc_lt ha e hj
  omega
 ·have := asc_lt ha (show j < i by omega) hi
  omega
theorem carried_wo {zs cs : List Int} {n i : Nat} (h : carriedB zs n cs cs.length = true) (hi : i < cs.length) : woL cs (nth cs i) cs.length = cs.eraseIdx i :=
 woL_erase hi (fun j hj hji => carried_ne h hi hj hji)
def safeB (zs : List Int) (n : Nat) (cs : List Int) (k : Nat) : Bool := stgB zs n (cs.eraseIdx k) (cs.length - 1)
def safeL (zs : List Int) (n : Nat) (cs : List Int) : List Int := if carriedB zs n cs cs.length = true then pickL (safeB zs n cs) cs cs.length else []
theorem safeL_t {zs : List Int} {n : Nat} {cs : List Int} (h : carriedB zs n cs cs.length = true) : safeL zs n cs = pickL (safeB zs n cs) cs cs.length := by simp [safeL, h]
theorem safeL_f {zs : List Int} {n : Nat} {cs : List Int} (h : carriedB zs n cs cs.length = false) : safeL zs n cs = [] := by simp [safeL, h]
theorem deleteI_at (g cap base i n m : Nat) (L : List Int) (w : World) (h : OwnI w base 3 g cap L) (hnm : n = i + 1 + m) (hl : L.length = n) (hcap : L.length ≤ cap ∧ cap ≤ 9223372036854775807) (hn : L.length ≤ 1048576) :
  Calls Tryzx.prog 102 #[.slice (some ⟨g, 0, none⟩) n cap, .int .i64 i, .int .i64 ((i : Int) + 1)] w fun e w' => e = .returned (.slice (some ⟨g, 0, none⟩) (i + m) cap) ∧ OwnV w' base 3 (.slice (some ⟨g, 0, none⟩) (i + m) cap) (L.eraseIdx i) ∧ Below base w w' := by
 subst hnm
 exact deleteI_any g cap base i m L w h hl hcap hn
theorem ownI_of {w : World} {base : Nat} {E : TypeId} {A : Option Addr} {q d : Nat} {xs : List Int} (h : OwnV w base E (.slice A q d) xs) (hx : 0 < xs.length) : ∃ g, (.slice A q d : Value) = .slice (some ⟨g, 0, none⟩) xs.length d ∧ Hid (OwnI w base E g d xs) := by
 rcases h.form with ⟨_, e⟩ | ⟨g, cap, e, ho⟩
 ·rw [e] at hx; simp at hx
 ·simp at e
  obtain ⟨rfl, rfl, rfl⟩ := e
  exact ⟨g, rfl, ho⟩
section
variable (A : Option Addr) (n c : Nat) (zs : List Int) (B : Option Addr) (d : Nat) (cs : List Int) (w : World) (h : RecsAt w w.heap.size 4 A n zs) (hn : n ≤ 1048576) (hi : IntsAt w w.heap.size B cs.length cs) (hq : cs.length ≤ 1048576)
include h hn hi hq
set_option maxRecDepth 100000 in
set_option maxHeartbeats 3200000 in
theorem sSafe_any : Calls Tryzx.prog 50 #[.agg #[.slice A n c], .slice B cs.length d] w (NumsPost w (safeL zs n cs)) := by
 have hz0 : (w.alloc (.cells #[.slice A n c] 26)).heap.size = w.heap.size + 1 := by simp
 have HK0 : Hid (Kept w (.slice A n c) ((w.alloc (.cells #[.slice A n c] 26)).alloc (.cells #[] 3))) := Lib.hid ((Kept.new w (.slice A n c) 26).after ((Below.refl _ _).alloc (Nat.le_refl _) _))
 have HO0 : Hid (OwnV ((w.alloc (.cells #[.slice A n c] 26)).alloc (.cells #[] 3)) (w.heap.size + 1) 3 (.slice (some ⟨w.heap.size + 1, 0, none⟩) 0 0) []) := Lib.hid (by
  have h := (OwnI.new (w.alloc (.cells #[.slice A n c] 26)) 3).toV
  rw [hz0] at h
  exact h)
 have HH := Lib.hid h
 have HI := Lib.hid hi
 clear h hi hz0
 cases hC : carriedB zs n cs cs.length
 ·have HN := Lib.hid (safeL_f hC)
  obtain ⟨W1, hW1⟩ : ∃ W1 : World, ((w.alloc (.cells #[.slice A n c] 26)).alloc (.cells #[] 3)) = W1 := ⟨_, rfl⟩
  rw [hW1] at HK0 HO0
  have cx0 := HK0.out.box.1
  have r0 := HH.out.after HK0.out.below
  have l0 := HI.out.after HK0.out.below
  go_enter Tryzx.func50, Tryz.ntmps50
  go_wp2
  go_loopw [5, 6] (fun v5 v6 wr => v5 = .slice (some ⟨w.heap.size + 1, 0, none⟩) 0 0 ∧ v6 = .int .i64 0 ∧ wr = W1) (fun _ _ _ => 0)
  case atStart => exact ⟨rfl, rfl, rfl⟩
  case round =>
   obtain ⟨rfl, rfl, rfl⟩ := hrel
   by_cases h1 : 0 < cs.length
   ·have i3 : (0 : Int) < (cs.length : Int) := by omega
    go_wp2_with fail
    refine (sCarriedOk_any _ _ _ zs _ _ _ cs _ (by exact r0) hn (by exact l0) hq).mono ?_
    rw [hC]
    rintro e w1 ⟨rfl, hb1⟩
    have HO1 := Lib.hid ((HO0.out.afterN hb1).weakenN (Nat.le_succ _))
    have HK1 := Lib.hid (HK0.out.after hb1)
    clear hb1 cx0 r0 l0
    go_wp2
    go_ret
    exact ⟨_, rfl, by rw [HN.out]; exact HO1.out, HK1.out.below⟩
   ·have i3 : ¬ (0 : Int) < (cs.length : Int) := by omega
    clear cx0 r0 l0
    go_wp2
    go_ret
    exact ⟨_, rfl, by rw [HN.out]; exact HO0.out.weakenN (Nat.le_succ _), HK0.out.below⟩
 ·have HN := Lib.hid (safeL_t hC)
  have HW : Hid (∀ k, k < cs.length → woL cs (nth cs k) cs.length = cs.eraseIdx k) := Lib.hid (fun k hk => carried_wo hC hk)
  go_enter Tryzx.func50, Tryz.ntmps50
  go_wp2
  go_loopw [5, 6] (fun v5 v6 wr => ∃ k : Nat, v6 = .int .i64 k ∧ k ≤ cs.length ∧ Hid (OwnV wr (w.heap.size + 1) 3 v5 (pickL (safeB zs n cs) cs k)) ∧ Hid (Kept w (.slice A n c) wr)) (fun _ v6 _ => cs.length - (intOf v6).toNat)
  case atStart => exact ⟨0, rfl, Nat.zero_le _, HO0, HK0⟩
  case round =>
   clear HO0 HK0
   obtain ⟨k, rfl, hk, HO, HK⟩ := hrel
   by_cases hlt : k < cs.length
   ·have i1 : IntKind.i64.wrap ((k : Int) + 1) = (k : Int) + 1 := IntWalk.i64_in _ (by omega)
    have i3 : (k : Int) < (cs.length : Int) := by omega
    have hpl := pickL_len (safeB zs n cs) cs k
    have HE : Hid ((cs.eraseIdx k).length = cs.length - 1) := Lib.hid (List.length_eraseIdx_of_lt hlt)
    have cx0 := HK.out.box.1
    go_wp2_with fail
    refine (sCarriedOk_any _ _ _ zs _ _ _ cs _ (by exact HH.out.after HK.out.below) hn (by exact HI.out.after HK.out.below) hq).mono ?_
    rw [hC]
    rintro e w1 ⟨rfl, hb1⟩
    have HO1 := Lib.hid (HO.out.afterN hb1)
    have HK1 := Lib.hid (HK.out.after hb1)
    clear hb1 HO HK cx0
    have hbox := HK1.out.box.1
    have HIA := Lib.hid (HI.out.after HK1.out.below)
    obtain ⟨b, off, rfl, hbB, hc⟩ := HIA.out.2 (by omega)
    have hck := hc k hlt
    clear hc
    go_wp2_with fail
    go_region_held3 (fun w' => w'.cell? ⟨w.heap.size, 0, none⟩ = some (.slice A n c) ∧ w'.cell? ⟨b, off + k, none⟩ = some (.int .i64 (nth cs k))) (first | exact ⟨hbox, hck⟩ | exact ⟨HK2.out.box.1, ck2⟩ | exact ⟨HK3.out.box.1, ck3⟩) ((first | (go_at_call 100; refine (without_any _ _ _ cs (nth cs k) _ (by exact HIA.out) hq).mono ?_; rintro e w2 ⟨v2, rfl, ho2, hbx⟩; have hb2 := below_undrew hbx; obtain ⟨A2, q2, d2, rfl⟩ := ho2.sliceN; have HK2 := Lib.hid (HK1.out.after hb2); have ck2 : w2.cell? ⟨b, off + k, none⟩ = some (.int .i64 (nth cs k)) := (hb2.cell (by exact hbB)).trans hck; have hl2 := ho2.len; have l2 := ho2.intsAt; have HO2 := Lib.hid (HO1.out.afterN hb2); rw [HW.out k hlt] at l2 hl2; subst hl2) | (go_at_call 31; refine (sStageStands_any _ _ _ zs _ _ _ (cs.eraseIdx k) _ (by exact HH.out.after HK2.out.below) hn (by exact l2) (by have := HE.out; omega)).mono ?_; rintro e w3 ⟨rfl, hb3⟩; have HK3 := Lib.hid (HK2.out.after hb3); have ck3 : w3.cell? ⟨b, off + k, none⟩ = some (.int .i64 (nth cs k)) := (hb3.cell (Nat.lt_of_lt_of_le hbB hb2.size)).trans ck2; have HO3 := Lib.hid (HO2.out.afterN hb3))))
    have hs : stgB zs n (cs.eraseIdx k) (cs.eraseIdx k).length = safeB zs n cs k := by rw [HE.out]; rfl
    rw [hs]
    clear hb2 hbx hb3 ho2 hbox hck ck2 l2 HO2 HO1 hs HIA HK1 HK2
    cases hb : safeB zs n cs k
    ·have HU := Lib.hid (pickL_no hb (cs := cs))
     go_wp2
     go_roundw
     case rel => exact ⟨k + 1, by go_num, by omega, by rw [HU.out]; exact HO3, HK3⟩
     case measure => simp [intOf]; omega
    ·have HU := Lib.hid (pickL_yes hb (cs := cs))
     go_wp2_with (at_builtin; refine wpList_append_int _ rfl (.tmp 27) (.tmp 32) 54 rfl (w.heap.size + 1) 3 Tryzx.underlying54 infoInt _ (pickL (safeB zs n cs) cs k) rfl (HO3.out.alloc _) _ _ (nth cs k) rfl (cell_new1 _ _ _) (by omega) (by have := HK3.out.lt; simp; omega) ?_; intro g' cap' w4 hown4 hgr4)
     have HK4 := Lib.hid (HK3.out.own HO3.out hgr4)
     have hv4 := hown4.toV
     rw [List.length_append, ← HU.out] at hv4
     go_wp2
     go_roundw
     case rel => exact ⟨k + 1, by go_num, by omega, Lib.hid hv4, HK4⟩
     case measure => simp [intOf]; omega
   ·obtain rfl : k = cs.length := by omega
    go_wp2
    go_ret
    exact ⟨_, rfl, by rw [HN.out]; exact HO.out.weakenN (Nat.le_succ _), HK.out.below⟩
set_option maxRecDepth 100000 in
set_option maxHeartbeats 3200000 in
theorem iSafe_any : Calls Tryzx.prog 51 #[.agg #[.slice A n c], .slice B cs.length d] w (NumsPost w (safeL zs n cs)) := by
 have HK0 : Hid (Kept w (.slice A n c) (w.alloc (.cells #[.slice A n c] 26))) := Lib.hid (Kept.new w (.slice A n c) 26)
 have HH := Lib.hid h
 have HI := Lib.hid hi
 have cx0 := HK0.out.box.1
 clear h hi
 cases hC : carriedB zs n cs cs.length
 ·have HN := Lib.hid (safeL_f hC)
  go_enter Tryzx.func51, Tryz.ntmps51
  go_wp2_with fail
  refine (iCarriedOk_any _ _ _ zs _ _ _ cs _ (by exact HH.out.after HK0.out.below) hn (by exact HI.out.after HK0.out.below) hq).mono ?_
  rw [hC]
  rintro e w1 ⟨rfl, hb1⟩
  have HK1 := Lib.hid (HK0.out.after hb1)
  clear hb1 cx0
  go_wp2
  go_ret
  exact ⟨_, rfl, by rw [HN.out]; exact OwnV.nil _ _ _, HK1.out.below⟩
 ·have HN := Lib.hid (safeL_t hC)
  go_enter Tryzx.func51, Tryz.ntmps51
  go_wp2_with fail
  refine (iCarriedOk_any _ _ _ zs _ _ _ cs _ (by exact HH.out.after HK0.out.below) hn (by exact HI.out.after HK0.out.below) hq).mono ?_
  rw [hC]
  rintro e w1 ⟨rfl, hb1⟩
  have HK1 := Lib.hid (HK0.out.after hb1)
  clear hb1 cx0 HK0
  go_wp2
  go_loopw [5, 14] (fun v5 v14 wr => ∃ k : Nat, v14 = .int .i64 k ∧ k ≤ cs.length ∧ Hid (OwnV wr (w.heap.size + 1) 3 v5 (pickL (safeB zs n cs) cs k)) ∧ Hid (Kept w (.slice A n c) wr)) (fun _ v14 _ => cs.length - (intOf v14).toNat)
  case atStart => exact ⟨0, rfl, Nat.zero_le _, Lib.hid (OwnV.nil _ _ _), HK1⟩
  case round =>
   clear HK1
   obtain ⟨k, rfl, hk, HO, HK⟩ := hrel
   by_cases hlt : k < cs.length
   ·have i1 : IntKind.i64.wrap ((k : Int) + 1) = (k : Int) + 1 := IntWalk.i64_in _ (by omega)
    have i3 : (k : Int) < (cs.length : Int) := by omega
    have hpl := pickL_len (safeB zs n cs) cs k
    have HE : Hid ((cs.eraseIdx k).length = cs.length - 1) := Lib.hid (List.length_eraseIdx_of_lt hlt)
    have hbox := HK.out.box.1
    have HIA := Lib.hid (HI.out.after HK.out.below)
    obtain ⟨b, off, rfl, hbB, hc⟩ := HIA.out.2 (by omega)
    have HC := Lib.hid hc
    have hck := hc k hlt
    clear hc
    go_wp2_with fail
    go_region_held3 (fun w' => w'.cell? ⟨w.heap.size, 0, none⟩ = some (.slice A n c)) (first | exact hbox | exact HK2.out.box.1 | exact HK3.out.box.1 | exact HK4.out.box.1) ((first | (go_at_call 103; refine (cloneI_any b off cs.length d cs _ (by exact hbB) (by exact HC.out) rfl hq).mono ?_; rintro e w2 ⟨A2, q2, d2, rfl, ho2, hbx⟩; have hb2 := below_undrew hbx; have HK2 := Lib.hid (HK.out.after hb2); have HO2 := Lib.hid (HO.out.afterN hb2); obtain ⟨g2, hg2, HG2⟩ : ∃ g2, (.slice A2 q2 d2 : Value) = .slice (some ⟨g2, 0, none⟩) cs.length d2 ∧ Hid (OwnI w2 wr.heap.size 3 g2 d2 cs) := ownI_of ho2 (by omega); cases hg2) | (go_at_call 102; refine (deleteI_at g2 d2 wr.heap.size k cs.length (cs.length - 1 - k) cs _ (by exact HG2.out) (by omega) rfl (by exact HG2.out.toV.capN) hq).mono ?_; rintro e w3 ⟨rfl, ho3, hb3⟩; have hbb := hb2.trans hb3; have HK3 := Lib.hid (HK.out.after hbb); have HO3 := Lib.hid (HO.out.afterN hbb); have l3 := ho3.intsAt) | (go_at_call 33; refine (iStageStands_any _ _ _ zs _ _ _ (cs.eraseIdx k) _ (by exact HH.out.after HK3.out.below) hn (by exact l3) (by omega)).mono ?_; rintro e w4 ⟨rfl, hb4⟩; have HK4 := Lib.hid (HK3.out.after hb4); have HO4 := Lib.hid (HO3.out.afterN hb4))))
    have hs : stgB zs n (cs.eraseIdx k) (k + (cs.length - 1 - k)) = safeB zs n cs k := by rw [show k + (cs.length - 1 - k) = cs.length - 1 by omega]; rfl
    rw [hs]
    clear hb2 hbx hb3 hbb hb4 ho2 ho3 hbox hck l3 HO2 HO3 hs HIA HK2 HK3 HG2 HC HO HK
    cases hb : safeB zs n cs k
    ·have HU := Lib.hid (pickL_no hb (cs := cs))
     go_wp2
     go_roundw
     case rel => exact ⟨k + 1, by go_num, by omega, by rw [HU.out]; exact HO4, HK4⟩
     case measure => simp [intOf]; omega
    ·have HU := Lib.hid (pickL_yes hb (cs := cs))
     go_wp2_with (at_builtin; refine wpList_append_int _ rfl (.tmp 27) (.tmp 29) 54 rfl (w.heap.size + 1) 3 Tryzx.underlying54 infoInt _ (pickL (safeB zs n cs) cs k) rfl (HO4.out.alloc _) _ _ (nth cs k) rfl (cell_new1 _ _ _) (by omega) (by have := HK4.out.lt; simp; omega) ?_; intro g' cap' w5 hown5 hgr5)
     have HK5 := Lib.hid (HK4.out.own HO4.out hgr5)
     have hv5 := hown5.toV
     rw [List.length_append, ← HU.out] at hv5
     go_wp2
     go_roundw
     case rel => exact ⟨k + 1, by go_num, by omega, Lib.hid hv5, HK5⟩
     case measure => simp [intOf]; omega
   ·obtain rfl : k = cs.length := by omega
    go_wp2
    go_ret
    exact ⟨_, rfl, by rw [HN.out]; exact HO.out.weakenN (Nat.le_succ _), HK.out.below⟩
end
section
variable (A : Option Addr) (n c : Nat) (zs : List Int) (B : Option Addr) (q d : Nat) (cs : List Int) (w : World) (h : RecsAt w w.heap.size 4 A n zs) (hn : n ≤ 1048576) (hi : IntsAt w w.heap.size B q cs) (hq : q ≤ 1048576)
include h hn hi hq
theorem sSafe_at : Calls Tryzx.prog 50 #[.agg #[.slice A n c], .slice B q d] w (NumsPost w (safeL zs n cs)) := by
 obtain rfl := hi.1
 exact sSafe_any A n c zs B d cs w h hn hi hq
theorem iSafe_at : Calls Tryzx.prog 51 #[.agg #[.slice A n c], .slice B q d] w (NumsPost w (safeL zs n cs)) := by
 obtain rfl := hi.1
 exact iSafe_any A n c zs B d cs w h hn hi hq
end
theorem safeL_len (zs : List Int) (n : Nat) (cs : List Int) : (safeL zs n cs).length ≤ cs.length := by
 cases h : carriedB zs n cs cs.length
 ·rw [safeL_f h]; simp
 ·rw [safeL_t h]; exact pickL_len _ _ _
def SafePost (w : World) (L : List Int) (e : Ending) (w' : World) : Prop :=
 ∃ A l c, e = .returned (.slice A l c) ∧ OwnV w' w.heap.size 3 (.slice A l c) L ∧ Below w.heap.size w w'
theorem safePost {w w' : World} {L : List Int} {e : Ending} (h : NumsPost w L e w') : SafePost w L e w' := by
 obtain ⟨v, rfl, ho, hb⟩ := h
 obtain ⟨A, l, c, rfl⟩ := ho.sliceN
 exact ⟨A, l, c, rfl, ho, hb⟩
end X
namespace X
open Go.RowKit
set_option maxHeartbeats 800000 in
theorem markJointS_any (g n c : Nat) (f : Nat → Value) (k0 : Int) (w : World) (h : w.rowIs g 45 (n * 4) f) (hf : IntRow f) (hn : n ≤ 1048576) (h0 : 0 ≤ k0) (h1 : k0 ≤ 1000000000) :
  Calls Tryzx.prog 104 #[.slice (some ⟨g, 0, none⟩) n c, .int .i64 k0] w fun e w' => e = .returned (.int .i64 (k0 + (n * 4 : Nat))) ∧ w'.rowIs g 45 (n * 4) (marks f k0 (n * 4)) ∧ Only g w w' := by
 have H := Lib.hid h
 have HFI := Lib.hid hf
 clear h hf
 go_enter Tryzx.func104, Tryz.ntmps104
 go_wp2
 go_loopw [1, 5] (fun m i wr => ∃ k : Nat, k ≤ n ∧ i = .int .i64 k ∧ m = .int .i64 (k0 + (k * 4 : Nat)) ∧ wr.rowIs g 45 (n * 4) (marks f k0 (k * 4)) ∧ Only g w wr) (fun _ i _ => n - (intOf i).toNat)
 case atStart => exact ⟨0, Nat.zero_le _, rfl, by simp, by rw [Nat.zero_mul]; exact H.out.congr (fun j _ => (marks_0 f k0 j).symm), Only.refl _ _⟩
 case round =>
  obtain ⟨k, hk, rfl, rfl, hrow, ho⟩ := hrel
  have HR := Lib.hid hrow
  have HO := Lib.hid ho
  by_cases hlt : k < n
  ·
   obtain ⟨v0, e0⟩ : ∃ z : Int, marks f k0 (k * 4) (k * 4) = .int .i64 z := by
    obtain ⟨z, e⟩ := HFI.out (k * 4)
    exact ⟨z, by rw [marks, if_neg (by omega)]; exact e⟩
   have hc0 : wr.cell? ⟨g, k * 4, none⟩ = some (.int .i64 v0) := by rw [HR.out.cell (by omega), e0]
   have hf0 : wr.frozen? ⟨g, k * 4, none⟩ = false := HR.out.frozen _
   clear e0
   obtain ⟨v1, e1⟩ : ∃ z : Int, marks f k0 (k * 4) (k * 4 + 1) = .int .i64 z := by
    obtain ⟨z, e⟩ := HFI.out (k * 4 + 1)
    exact ⟨z, by rw [marks, if_neg (by omega)]; exact e⟩
   have hc1 : wr.cell? ⟨g, k * 4 + 1, none⟩ = some (.int .i64 v1) := by rw [HR.out.cell (by omega), e1]
   have hf1 : wr.frozen? ⟨g, k * 4 + 1, none⟩ = false := HR.out.frozen _
   clear e1
   obtain ⟨v2, e2⟩ : ∃ z : Int, marks f k0 (k * 4) (k * 4 + 2) = .int .i64 z := by
    obtain ⟨z, e⟩ := HFI.out (k * 4 + 2)
    exact ⟨z, by rw [marks, if_neg (by omega)]; exact e⟩
   have hc2 : wr.cell? ⟨g, k * 4 + 2, none⟩ = some (.int .i64 v2) := by rw [HR.out.cell (by omega), e2]
   have hf2 : wr.frozen? ⟨g, k * 4 + 2, none⟩ = false := HR.out.frozen _
   clear e2
   obtain ⟨v3, e3⟩ : ∃ z : Int, marks f k0 (k * 4) (k * 4 + 3) = .int .i64 z := by
    obtain ⟨z, e⟩ := HFI.out (k * 4 + 3)
    exact ⟨z, by rw [marks, if_neg (by omega)]; exact e⟩
   have hc3 : wr.cell? ⟨g, k * 4 + 3, none⟩ = some (.int .i64 v3) := by rw [HR.out.cell (by omega), e3]
   have hf3 : wr.frozen? ⟨g, k * 4 + 3, none⟩ = false := HR.out.frozen _
   clear e3
   clear hrow ho
   have hkk : (((k * 4 : Nat) : Nat) : Int) ≤ 1073741824 := by omega
   go_wp2
   go_roundw
   case rel =>
    refine ⟨k + 1, by omega, by go_num, by go_num, ?_, ((((HO.out.setCell _ _).setCell _ _).setCell _ _).setCell _ _)⟩
    have hs := (World.rowIs.congr (World.rowIs.set (World.rowIs.congr (World.rowIs.set (World.rowIs.congr (World.rowIs.set (World.rowIs.congr (World.rowIs.set HR.out (k * 4) (.int .i64 (k0 + ((k * 4 : Nat) : Int)))) (fun j _ => marks_step f k0 (k * 4) j)) (k * 4 + 1) (.int .i64 (k0 + ((k * 4 + 1 : Nat) : Int)))) (fun j _ => marks_step f k0 (k * 4 + 1) j)) (k * 4 + 2) (.int .i64 (k0 + ((k * 4 + 2 : Nat) : Int)))) (fun j _ => marks_step f k0 (k * 4 + 2) j)) (k * 4 + 3) (.int .i64 (k0 + ((k * 4 + 3 : Nat) : Int)))) (fun j _ => marks_step f k0 (k * 4 + 3) j))
    rw [Nat.add_mul, Nat.one_mul]
    simpa [Int.add_assoc] using hs
   case measure => simp [intOf]; omega
  ·have hkn : k = n := by omega
   subst hkn
   clear hrow ho
   go_wp2
   go_ret
   exact ⟨rfl, HR.out, HO.out⟩
end X
section
open Go.RowKit
def filled (w : World) (g : Nat) (E : TypeId) (K : Nat) (f : Nat → Value) (L : List (Nat × List Int)) (i : Nat) : Prop :=
 ∃ gi, f i = .slice (some ⟨gi, 0, none⟩) (rowN L i) (rowN L i) ∧ g < gi ∧ w.rowIs gi E (rowN L i * K) (ints (rowZ L i))
def NestRow (w : World) (g : Nat) (T E : TypeId) (K n : Nat) (L : List (Nat × List Int)) : Prop := ∃ f, w.rowIs g T n f ∧ ∀ i, i < n → filled w g E K f L i
def NestTo (w : World) (g : Nat) (T E : TypeId) (K n : Nat) (L : List (Nat × List Int)) (k : Nat) : Prop := ∃ f, w.rowIs g T n f ∧ (∀ i, i < k → filled w g E K f L i) ∧ ∀ i, k ≤ i → f i = .slice none 0 0
section
variable {w w' : World} {g : Nat} {T E : TypeId} {K n k : Nat} {L : List (Nat × List Int)} {f f' : Nat → Value} {i : Nat}
theorem filled.after (h : filled w g E K f L i) (hb : Below w.heap.size w w') : filled w' g E K f L i := by
 obtain ⟨gi, h1, h2, h3⟩ := h
 exact ⟨gi, h1, h2, h3.of_block (hb.block gi h3.lt)⟩
theorem NestTo.after (h : NestTo w g T E K n L k) (hb : Below w.heap.size w w') : NestTo w' g T E K n L k := by
 obtain ⟨f, h1, h2, h3⟩ := h
 exact ⟨f, h1.of_block (hb.block g h1.lt), fun i hi => (h2 i hi).after hb, h3⟩
theorem NestRow.after (h : NestRow w g T E K n L) (hb : Below w.heap.size w w') : NestRow w' g T E K n L := by
 obtain ⟨f, h1, h2⟩ := h
 exact ⟨f, h1.of_block (hb.block g h1.lt), fun i hi => (h2 i hi).after hb⟩
theorem NestRow.lt (h : NestRow w g T E K n L) : g < w.heap.size := by
 obtain ⟨f, h1, _⟩ := h
 exact h1.lt
theorem NestTo.cell (h : NestTo w g T E K n L k) (hk : k < n) : w.cell? ⟨g, k, none⟩ = some (.slice none 0 0) := by
 obtain ⟨f, h1, _, h3⟩ := h
 rw [h1.cell hk, h3 k (Nat.le_refl _)]
theorem NestTo.frozen (h : NestTo w g T E K n L k) (j : Nat) : w.frozen? ⟨g, j, none⟩ = false := by
 obtain ⟨f, h1, _, _⟩ := h
 exact h1.frozen j
theorem NestTo.start (w : World) (T E : TypeId) (K n : Nat) (L : List (Nat × List Int)) : NestTo (w.alloc (.cells (madeCells #[.slice none 0 0] n) T)) w.heap.size T E K n L 0 :=
 ⟨_, World.rowIs_made w (.slice none 0 0) n T, fun i hi => absurd hi (by omega), fun _ _ => rfl⟩
end
end
section
open Go.RowKit
structure Within (lo hi : Nat) (w w' : World) : Prop where
 os : w'.os = w.os
 tape : w'.tape = w.tape
 output : w'.output = w.output
 size : w'.heap.size = w.heap.size
 block : ∀ k, k < lo ∨ hi ≤ k → w'.heap[k]? = w.heap[k]?
section
variable {lo hi : Nat} {w w' w'' : World}
theorem Within.refl (lo hi : Nat) (w : World) : Within lo hi w w := ⟨rfl, rfl, rfl, rfl, fun _ _ => rfl⟩
theorem Within.trans (h : Within lo hi w w') (h' : Within lo hi w' w'') : Within lo hi w w'' := ⟨h'.os.trans h.os, h'.tape.trans h.tape, h'.output.trans h.output, h'.size.trans h.size, fun k hk => (h'.block k hk).trans (h.block k hk)⟩
theorem Within.of_only {g : Nat} (h : Only g w w') (h1 : lo ≤ g) (h2 : g < hi) : Within lo hi w w' := ⟨h.os, h.tape, h.output, h.size, fun k hk => h.block k (by omega)⟩
theorem Within.below (h : Within lo hi w w') : Below lo w w' := ⟨h.os, h.tape, h.output, Nat.le_of_eq h.size.symm, fun k hk => h.block k (.inl hk)⟩
theorem Within.row {g : Nat} {t : TypeId} {n : Nat} {f : Nat → Value} (h : Within lo hi w w') (hr : w.rowIs g t n f) (hg : g < lo ∨ hi ≤ g) : w'.rowIs g t n f := hr.of_block (h.block g hg)
theorem Within.own {base : Nat} {E : TypeId} {v : Value} {xs : List Int} (h : Within lo hi w w') (ho : OwnV w base E v xs) (hb : hi ≤ base) : OwnV w' base E v xs := by
 rcases ho.form with ⟨rfl, rfl⟩ | ⟨g', cap, rfl, hi'⟩
 ·exact OwnV.nil _ _ _
 ·refine ⟨hi'.1, ?_⟩
  rcases hi'.2 with h2 | ⟨g'', cap', cur, h1, h2, h3, hr⟩
  ·exact .inl h2
  ·simp at h1
   obtain ⟨rfl, rfl⟩ := h1
   exact .inr ⟨g', cap, cur, rfl, h2, (h.block g' (.inr (by omega))).trans h3, hr⟩
theorem Within.cell (h : Within lo hi w w') {p : Addr} (hp : p.block < lo ∨ hi ≤ p.block) : w'.cell? p = w.cell? p := World.cell?_of_block (w := w) (h.block _ hp)
end
def RowI (w : World) (lo hi g : Nat) (E : TypeId) (m : Nat) : Prop := ∃ f, w.rowIs g E m f ∧ IntRow f ∧ lo ≤ g ∧ g < hi
section
variable {w w' : World} {lo hi g : Nat} {E : TypeId} {m : Nat}
theorem RowI.of_row {f : Nat → Value} (h : w.rowIs g E m f) (hi' : IntRow f) (h1 : lo ≤ g) (h2 : w.heap.size ≤ hi) : RowI w lo hi g E m := ⟨f, h, hi', h1, Nat.lt_of_lt_of_le h.lt h2⟩
theorem RowI.after (h : RowI w lo hi g E m) (hb : Below w.heap.size w w') : RowI w' lo hi g E m := by
 obtain ⟨f, h1, h2⟩ := h
 exact ⟨f, h1.of_block (hb.block g h1.lt), h2⟩
end
def NestInts (w : World) (lo hi g : Nat) (T E : TypeId) (K n : Nat) (L : List (Nat × List Int)) : Prop :=
 lo ≤ g ∧ ∃ f, w.rowIs g T n f ∧ ∀ i, i < n → ∃ gi fi, f i = .slice (some ⟨gi, 0, none⟩) (rowN L i) (rowN L i) ∧ g < gi ∧ gi < hi ∧ w.rowIs gi E (rowN L i * K) fi ∧ IntRow fi
section
variable {w w' : World} {lo hi g : Nat} {T E : TypeId} {K n : Nat} {L : List (Nat × List Int)}
theorem NestInts.of_row (h : NestRow w g T E K n L) (h1 : lo ≤ g) (h2 : w.heap.size ≤ hi) : NestInts w lo hi g T E K n L := by
 obtain ⟨f, hr, hf⟩ := h
 refine ⟨h1, f, hr, fun i hi' => ?_⟩
 obtain ⟨gi, e1, e2, e3⟩ := hf i hi'
 exact ⟨gi, _, e1, e2, Nat.lt_of_lt_of_le e3.lt h2, e3, intRow_ints _⟩
theorem NestInts.after (h : NestInts w lo hi g T E K n L) (hb : Below w.heap.size w w') : NestInts w' lo hi g T E K n L := by
 obtain ⟨h1, f, hr, hf⟩ := h
 refine ⟨h1, f, hr.of_block (hb.block g hr.lt), fun i hi' => ?_⟩
 obtain ⟨gi, fi, e1, e2, e3, e4, e5⟩ := hf i hi'
 exact ⟨gi, fi, e1, e2, e3, e4.of_block (hb.block gi e4.lt), e5⟩
theorem NestInts.get (h : NestInts w lo hi g T E K n L) {i : Nat} (hi' : i < n) : ∃ gi fi, w.cell? ⟨g, i, none⟩ = some (.slice (some ⟨gi, 0, none⟩) (rowN L i) (rowN L i)) ∧ g < gi ∧ gi < hi ∧ w.rowIs gi E (rowN L i * K) fi ∧ IntRow fi := by
 obtain ⟨_, f, hr, hf⟩ := h
 obtain ⟨gi, fi, e1, e2⟩ := hf i hi'
 exact ⟨gi, fi, by rw [hr.cell hi', e1], e2⟩
theorem rowIs_size {t : TypeId} {m m' : Nat} {f f' : Nat → Value} (h : w.rowIs g t m f) (h' : w.rowIs g t m' f') : m = m' := by
 obtain ⟨c, hb, hn, _⟩ := h
 obtain ⟨c', hb', hn', _⟩ := h'
 rw [hb] at hb'
 simp at hb'
 rw [← hn, ← hn', hb']
theorem NestInts.only {gk m : Nat} {fk fk' : Nat → Value} (h : NestInts w lo hi g T E K n L) (hg : g < gk) (ho : Only gk w w') (hr0 : w.rowIs gk E m fk) (hr : w'.rowIs gk E m fk') (hk : IntRow fk') : NestInts w' lo hi g T E K n L := by
 obtain ⟨h1, f, hrow, hf⟩ := h
 refine ⟨h1, f, ho.row hrow (by omega), fun i hi' => ?_⟩
 obtain ⟨gi, fi, e1, e2, e3, e4, e5⟩ := hf i hi'
 by_cases e : gi = gk
 ·subst e
  have := rowIs_size e4 hr0
  exact ⟨gi, fk', e1, e2, e3, by rw [this]; exact hr, hk⟩
 ·exact ⟨gi, fi, e1, e2, e3, ho.row e4 e, e5⟩
end
end
section
open Go.RowKit
theorem RowI.set {w : World} {lo hi g : Nat} {E : TypeId} {m : Nat} (h : RowI w lo hi g E m) (j : Nat) (z : Int) : RowI (w.setCell ⟨g, j, none⟩ (.int .i64 z)) lo hi g E m := by
 obtain ⟨f, h1, h2, h3⟩ := h
 refine ⟨_, h1.set j _, fun i => ?_, h3⟩
 by_cases e : i = j
 ·exact ⟨z, by simp [e]⟩
 ·obtain ⟨y, hy⟩ := h2 i
  exact ⟨y, by simp [e, hy]⟩
theorem RowI.get {w : World} {lo hi g : Nat} {E : TypeId} {m : Nat} (h : RowI w lo hi g E m) {j : Nat} (hj : j < m) : ∃ z, w.cell? ⟨g, j, none⟩ = some (.int .i64 z) := by
 obtain ⟨f, h1, h2, h3⟩ := h
 obtain ⟨z, hz⟩ := h2 j
 exact ⟨z, by rw [h1.cell hj, hz]⟩
theorem RowI.frozen {w : World} {lo hi g : Nat} {E : TypeId} {m : Nat} (h : RowI w lo hi g E m) (j : Nat) : w.frozen? ⟨g, j, none⟩ = false := by
 obtain ⟨f, h1, _⟩ := h
 exact h1.frozen j
theorem RowI.in {w : World} {lo hi g : Nat} {E : TypeId} {m : Nat} (h : RowI w lo hi g E m) : lo ≤ g ∧ g < hi := by
 obtain ⟨f, _, _, h3⟩ := h
 exact h3
theorem Within.setCell {lo hi g j : Nat} {w w' : World} {v : Value} (h : Within lo hi w w') (hg : lo ≤ g ∧ g < hi) : Within lo hi w (w'.setCell ⟨g, j, none⟩ v) :=
 h.trans ⟨rfl, rfl, rfl, by simp [World.setCell], fun k hk => Below.heap_setCell w' ⟨g, j, none⟩ v k (by simp; omega)⟩
end
namespace X
open Go.RowKit
set_option maxHeartbeats 400000 in
theorem toIntS_row (A : Option Addr) (n c : Nat) (zs : List Int) (w : World) (h : IntsAt w w.heap.size A n zs) (hn : n ≤ 1048576) :
  Calls Tryzx.prog 32 #[.slice A n c] w fun e w' => ∃ g, e = .returned (.slice (some ⟨g, 0, none⟩) n n) ∧ w.heap.size ≤ g ∧ w'.rowIs g 3 n (ints zs) ∧ Below w.heap.size w w' := by
 have H := Lib.hid h
 clear h
 have hmk := run_make_row' (P := Tryzx.prog) 54 3 (.int .i64 0) 8 Tryzx.underlying54 infoInt rfl .i64 .i64 n (by omega) (by omega)
 go_enter Tryzx.func32, Tryz.ntmps32
 go_wp2
 clear hmk
 go_loopw [4] (fun i wr => ∃ k : Nat, k ≤ n ∧ i = .int .i64 k ∧ wr.rowIs w.heap.size 3 n (upto zs k) ∧ Below w.heap.size w wr) (fun i _ => n - (intOf i).toNat)
 case atStart => exact ⟨0, Nat.zero_le _, rfl, (World.rowIs_made _ _ _ _).congr (fun i _ => by simp [upto]), (Below.refl _ _).alloc (Nat.le_refl _) _⟩
 case round =>
  obtain ⟨k, hk, rfl, hrow, hb⟩ := hrel
  by_cases hlt : k < n
  ·obtain ⟨b, off, rfl, hbB, hc⟩ := H.out.2 (by omega)
   have hcx : wr.cell? ⟨b, off + k, none⟩ = some (.int .i64 (nth zs k)) := (hb.cell (by exact hbB)).trans (hc k hlt)
   have hcy : wr.cell? ⟨w.heap.size, k, none⟩ = some (.int .i64 0) := by rw [hrow.cell hlt, upto_at]
   have hfy : wr.frozen? ⟨w.heap.size, k, none⟩ = false := hrow.frozen k
   have HR := Lib.hid hrow
   have HB := Lib.hid hb
   clear hrow hb hc
   go_wp2
   go_roundw
   case rel => exact ⟨k + 1, by omega, by go_num, (HR.out.set k _).congr (fun j _ => upto_step zs k j), HB.out.setCell (Nat.le_refl _) _⟩
   case measure => simp [intOf]; omega
  ·have hkn : k = n := by omega
   subst hkn
   have HR := Lib.hid hrow
   have HB := Lib.hid hb
   clear hrow hb
   go_wp2
   go_ret
   exact ⟨_, rfl, Nat.le_refl _, HR.out.congr (fun j hj => upto_end zs k j hj), HB.out⟩
set_option maxHeartbeats 400000 in
theorem markIntS_row (lo hi g n c : Nat) (k0 : Int) (w : World) (h : RowI w lo hi g 3 n) (hn : n ≤ 1048576) (h0 : 0 ≤ k0) (h1 : k0 ≤ 1000000000) :
  Calls Tryzx.prog 53 #[.slice (some ⟨g, 0, none⟩) n c, .int .i64 k0] w fun e w' => e = .returned (.int .i64 (k0 + n)) ∧ Within lo hi w w' := by
 have H := Lib.hid h
 clear h
 go_enter Tryzx.func53, Tryz.ntmps53
 go_wp2
 go_loopw [1, 5] (fun m i wr => ∃ k : Nat, k ≤ n ∧ i = .int .i64 k ∧ m = .int .i64 (k0 + (k : Int)) ∧ RowI wr lo hi g 3 n ∧ Within lo hi w wr) (fun _ i _ => n - (intOf i).toNat)
 case atStart => exact ⟨0, Nat.zero_le _, rfl, by simp, H.out, Within.refl _ _ _⟩
 case round =>
  obtain ⟨k, hk, rfl, rfl, hrow, hw⟩ := hrel
  have HR := Lib.hid hrow
  have HW := Lib.hid hw
  by_cases hlt : k < n
  ·obtain ⟨z, hc⟩ := hrow.get hlt
   have hf := hrow.frozen k
   have HN := Lib.hid (hrow.set k (k0 + (k : Int)))
   have HN2 := Lib.hid (hw.setCell (j := k) (v := .int .i64 (k0 + (k : Int))) hrow.in)
   clear hrow hw
   go_wp2
   go_roundw
   case rel => exact ⟨k + 1, by omega, by go_num, by go_num, HN.out, HN2.out⟩
   case measure => simp [intOf]; omega
  ·obtain rfl : k = n := by omega
   clear hrow hw
   go_wp2
   go_ret
   exact ⟨rfl, HW.out⟩
end X
section
open Go.RowKit
structure Inside (lo hi : Nat) (w w' : World) : Prop where
 os : w'.os = w.os
 tape : w'.tape = w.tape
 output : w'.output = w.output
 size : w.heap.size ≤ w'.heap.size
 block : ∀ k, k < w.heap.size → k < lo ∨ hi ≤ k → w'.heap[k]? = w.heap[k]?
section
variable {lo hi : Nat} {w w' w'' : World}
theorem Within.inside (h : Within lo hi w w') : Inside lo hi w w' := ⟨h.os, h.tape, h.output, Nat.le_of_eq h.size.symm, fun k _ hk => h.block k hk⟩
theorem Inside.trans (h : Inside lo hi w w') (h' : Inside lo hi w' w'') : Inside lo hi w w'' := ⟨h'.os.trans h.os, h'.tape.trans h.tape, h'.output.trans h.output, Nat.le_trans h.size h'.size, fun k hk hh => (h'.block k (Nat.lt_of_lt_of_le hk h.size) hh).trans (h.block k hk hh)⟩
theorem Inside.of_below (h : Below w.heap.size w w') : Inside lo hi w w' := ⟨h.os, h.tape, h.output, h.size, fun k hk _ => h.block k hk⟩
theorem Inside.below (h : Inside lo hi w w') (hlo : lo ≤ w.heap.size) : Below lo w w' := ⟨h.os, h.tape, h.output, h.size, fun k hk => h.block k (by omega) (.inl hk)⟩
theorem Inside.own {base : Nat} {E : TypeId} {v : Value} {xs : List Int} (h : Inside lo hi w w') (ho : OwnV w base E v xs) (hb : hi ≤ base) : OwnV w' base E v xs := by
 rcases ho.form with ⟨rfl, rfl⟩ | ⟨g', cap, rfl, hi'⟩
 ·exact OwnV.nil _ _ _
 ·refine ⟨hi'.1, ?_⟩
  rcases hi'.2 with h2 | ⟨g'', cap', cur, h1, h2, h3, hr⟩
  ·exact .inl h2
  ·simp at h1
   obtain ⟨rfl, rfl⟩ := h1
   exact .inr ⟨g', cap, cur, rfl, h2, (h.block g' (Array.getElem?_eq_some_iff.1 h3).1 (.inr (by omega))).trans h3, hr⟩
theorem Inside.row {g : Nat} {t : TypeId} {n : Nat} {f : Nat → Value} (h : Inside lo hi w w') (hr : w.rowIs g t n f) (hg : g < lo ∨ hi ≤ g) : w'.rowIs g t n f := hr.of_block (h.block g hr.lt hg)
theorem RowI.inside {lo' hi' g m : Nat} {E : TypeId} (h : RowI w lo hi g E m) (hw : Inside lo' hi' w w') (hd : hi ≤ lo' ∨ hi' ≤ lo) : RowI w' lo hi g E m := by
 obtain ⟨f, h1, h2, h3, h4⟩ := h
 exact ⟨f, hw.row h1 (by omega), h2, h3, h4⟩
end
end
namespace X
open Go.RowKit
theorem markIntS_rowI (lo hi g n c : Nat) (k0 : Int) (w : World) (h : RowI w lo hi g 3 n) (hn : n ≤ 1048576) (h0 : 0 ≤ k0) (h1 : k0 ≤ 1000000000) :
  Calls Tryzx.prog 53 #[.slice (some ⟨g, 0, none⟩) n c, .int .i64 k0] w fun e w' => e = .returned (.int .i64 (k0 + n)) ∧ Inside lo hi w w' :=
 (markIntS_row lo hi g n c k0 w h hn h0 h1).mono fun _ _ ⟨e1, ho⟩ => ⟨e1, ho.inside⟩
set_option maxHeartbeats 800000 in
theorem markArch_row (lo hi g n c : Nat) (k0 : Int) (w : World) (h : RowI w lo hi g 45 (n * 4)) (hn : n ≤ 1048576) (h0 : 0 ≤ k0) (h1 : k0 ≤ 1000000000) :
  Calls Tryzx.prog 52 #[.agg #[.slice (some ⟨g, 0, none⟩) n c], .int .i64 k0] w fun e w' => e = .returned (.int .i64 (k0 + (n * 4 : Nat))) ∧ Inside lo hi w w' := by
 obtain ⟨f, hr, hf, hl, hh⟩ := h
 have b0 : Below w.heap.size w (w.alloc (.cells #[.slice (some ⟨g, 0, none⟩) n c] 26)) := (Below.refl _ _).alloc (Nat.le_refl _) _
 have hr0 := hr.of_block (b0.block g hr.lt)
 go_enter Tryzx.func52, Tryz.ntmps52
 go_wp2_with fail
 refine (markJointS_any g n c f k0 _ hr0 hf hn h0 h1).mono ?_
 rintro e w1 ⟨rfl, _, ho⟩
 have HI := Lib.hid ((Inside.of_below b0 (lo := lo) (hi := hi)).trans (Within.of_only ho hl hh).inside)
 clear ho
 go_wp2
 go_ret
 exact ⟨rfl, HI.out⟩
end X
namespace X
open Go.RowKit
def markTo (xs : List Int) (k0 : Int) : Nat → List Int
 | 0 => xs
 | k + 1 => (markTo xs k0 k).set k (k0 + k)
theorem markTo_length (xs : List Int) (k0 : Int) : ∀ k, (markTo xs k0 k).length = xs.length
 | 0 => rfl
 | k + 1 => by rw [markTo, List.length_set, markTo_length xs k0 k]
def iota (k0 : Int) (n : Nat) : List Int := (List.range n).map (fun (i : Nat) => k0 + (i : Int))
theorem iota_length (k0 : Int) (n : Nat) : (iota k0 n).length = n := by simp [iota]
theorem nth_iota {k0 : Int} {n j : Nat} (hj : j < n) : nth (iota k0 n) j = k0 + j := by
 rw [nth_get _ _ (by rw [iota_length]; exact hj)]
 simp [iota]
theorem nth_markTo (xs : List Int) (k0 : Int) : ∀ k, k ≤ xs.length → ∀ j, j < k → nth (markTo xs k0 k) j = k0 + j
 | 0, _, j, hj => absurd hj (by omega)
 | k + 1, hk, j, hj => by
  have hl : j < (markTo xs k0 (k + 1)).length := by rw [markTo_length]; omega
  rw [nth_get _ _ hl]
  simp only [markTo, List.getElem_set]
  by_cases h : k = j
  ·subst h; simp
  ·rw [if_neg h, ← nth_get]
   exact nth_markTo xs k0 k (by omega) j (by omega)
theorem markTo_end (xs : List Int) (k0 : Int) : markTo xs k0 xs.length = iota k0 xs.length :=
 list_ext_nth (by rw [markTo_length, iota_length]) (fun j hj => by
  rw [markTo_length] at hj
  rw [nth_markTo xs k0 _ (Nat.le_refl _) j hj, nth_iota hj])
theorem markTo_step (xs : List Int) (k0 : Int) (k : Nat) : markTo xs k0 (k + 1) = (markTo xs k0 k).set k (k0 + k) := rfl
set_option maxHeartbeats 400000 in
theorem markIntS_any (A : Option Addr) (n c : Nat) (xs : List Int) (k0 : Int) (base : Nat) (w : World) (h : OwnV w base 3 (.slice A n c) xs) (hn : n ≤ 1048576) (h0 : 0 ≤ k0) (h1 : k0 ≤ 1000000000) :
  Calls Tryzx.prog 53 #[.slice A n c, .int .i64 k0] w fun e w' => e = .returned (.int .i64 (k0 + n)) ∧ OwnV w' base 3 (.slice A n c) (iota k0 n) ∧ Below base w w' ∧ w'.heap.size = w.heap.size := by
 have hln := h.len
 subst hln
 go_enter Tryzx.func53, Tryz.ntmps53
 go_wp2
 go_loopw [1, 5] (fun m i wr => ∃ k : Nat, k ≤ xs.length ∧ i = .int .i64 k ∧ m = .int .i64 (k0 + k) ∧ OwnV wr base 3 (.slice A xs.length c) (markTo xs k0 k) ∧ Below base w wr ∧ wr.heap.size = w.heap.size) (fun _ i _ => xs.length - (intOf i).toNat)
 case atStart => exact ⟨0, Nat.zero_le _, rfl, by simp, h, Below.refl _ _, rfl⟩
 case round =>
  obtain ⟨k, hk, rfl, rfl, hown, hb, hsz⟩ := hrel
  have HL := Lib.hid (markTo_length xs k0 k)
  have HS := Lib.hid (markTo_step xs k0 k)
  have HE := Lib.hid (markTo_end xs k0)
  by_cases hlt : k < xs.length
  ·rcases hown.form with ⟨e1, e2⟩ | ⟨g, cap, e1, hi⟩
   ·exfalso
    have := HL.out
    rw [e2] at this
    simp at this
    omega
   rw [HL.out] at e1
   simp only [Value.slice.injEq, true_and] at e1
   obtain ⟨rfl, rfl⟩ := e1
   have hcx := hi.cell (j := k) (by rw [HL.out]; exact hlt)
   have hfx := hi.frozen k
   have hg := hi.blk
   have HB := Lib.hid hb
   have HI := Lib.hid hi
   have HZ := Lib.hid hsz
   clear hown hi hb hsz h
   generalize nth (markTo xs k0 k) k = z at *
   generalize hmm : markTo xs k0 k = mm at *
   clear hmm
   go_wp2
   go_roundw
   case rel =>
    refine ⟨k + 1, by omega, by go_num, by go_num, ?_, HB.out.setCell hg.1 _, by simpa using HZ.out⟩
    rw [HS.out]
    have := HI.out.set k (k0 + k)
    unfold OwnI at this
    rw [List.length_set, HL.out] at this
    exact this
   case measure => simp [intOf]; omega
  ·have hkn : k = xs.length := by omega
   subst hkn
   have HO := Lib.hid hown
   have HB := Lib.hid hb
   have HZ := Lib.hid hsz
   clear hown hb hsz h
   go_wp2
   go_ret
   refine ⟨rfl, ?_, HB.out, HZ.out⟩
   rw [← HE.out]
   exact HO.out
set_option maxHeartbeats 400000 in
theorem heldIntS_any (A : Option Addr) (n c : Nat) (k0 : Int) (w : World) (h : IntsAt w w.heap.size A n (iota k0 n)) (hn : n ≤ 1048576) (h0 : 0 ≤ k0) (h1 : k0 ≤ 1000000000) :
  Calls Tryzx.prog 54 #[.slice A n c, .int .i64 k0] w fun e w' => e = .returned (.int .i64 (k0 + n)) ∧ w = w' := by
 have H := Lib.hid h
 clear h
 go_enter Tryzx.func54, Tryz.ntmps54
 go_wp2
 go_loop [1, 5] (fun m i => ∃ k : Nat, k ≤ n ∧ i = .int .i64 k ∧ m = .int .i64 (k0 + k)) (fun _ i => n - (intOf i).toNat)
 case atStart => exact ⟨0, Nat.zero_le _, rfl, by simp⟩
 case round =>
  obtain ⟨k, hk, rfl, rfl⟩ := hrel
  by_cases hlt : k < n
  ·obtain ⟨b, off, rfl, hbB, hc⟩ := H.out.2 (by omega)
   have hcx : w.cell? ⟨b, off + k, none⟩ = some (.int .i64 (k0 + k)) := by rw [hc k hlt, nth_iota hlt]
   have ht : (k0 + (k : Int) != k0 + (k : Int)) = false := by simp
   clear hc
   go_wp2
   go_round
   case rel => exact ⟨k + 1, by omega, by go_num, by go_num⟩
   case measure => simp [intOf]; omega
  ·have hkn : k = n := by omega
   subst hkn
   go_wp2
   go_ret
   exact ⟨rfl, rfl⟩
end X
end Go.Proofs.YtbpnbhemdbgmjaaGreat
