/-
  Texts that the law stands on, part 5.
-/
import Derived.Test.YtbpnbhemdbgmjaaGreatE1
import Derived.Test.YtbpnbhemdbgmjaaGreatC1
import Derived.Test.YtbpnbhemdbgmjaaGreatC11
import Derived.Test.YtbpnbhemdbgmjaaGreatC17
import Derived.Test.YtbpnbhemdbgmjaaGreatC22
import Derived.Deep.RegionHeld3
import Derived.Outline
set_option linter.unusedVariables false
set_option linter.unusedSimpArgs false
namespace Go.Proofs.YtbpnbhemdbgmjaaGreat
namespace X
open Go.RowKit
theorem infoLoad : (Tryzx.prog.info? 123).map (fun i => (i.zero, i.size, i.bytes)) = some (some (.agg #[.int .i64 0, .int .i64 0, .int .i64 0]), 3, 24) := by kernel_rfl
set_option maxHeartbeats 400000 in
theorem toLoad_any (x0 x1 x2 : Int) (w : World) : Calls Tryzx.prog 106 #[.agg #[.int .i64 x0, .int .i64 x1, .int .i64 x2]] w fun e w' => e = .returned (.agg #[.int .i64 x0, .int .i64 x1, .int .i64 x2]) ∧ Below w.heap.size w w' := by
 go_enter Tryzx.func106, Tryz.ntmps106
 go_wp2
 exact bodyPost_ret (v := .agg #[.int .i64 x0, .int .i64 x1, .int .i64 x2]) (by simp [results, Tryz.results106, go_sem]) rfl ⟨rfl, (((Below.refl _ _).alloc (Nat.le_refl _) _).alloc (by simp) _).alloc (by simp; omega) _⟩
set_option maxHeartbeats 800000 in
theorem toLoadS_any (A : Option Addr) (n c : Nat) (zs : List Int) (w : World) (h : RecsAt w w.heap.size 3 A n zs) (hn : n ≤ 1048576) :
  Calls Tryzx.prog 57 #[.slice A n c] w fun e w' => e = .returned (.slice (some ⟨w.heap.size, 0, none⟩) n n) ∧ w'.rowIs w.heap.size 123 (n * 3) (ints zs) ∧ Below w.heap.size w w' := by
 have H := Lib.hid h
 clear h
 have hmk := fun W => run_make_recs (P := Tryzx.prog) 27 123 3 24 #[.int .i64 0, .int .i64 0, .int .i64 0] Tryzx.underlying27 infoLoad n (by omega) hn W
 go_enter Tryzx.func57, Tryz.ntmps57
 go_wp2
 clear hmk
 go_loopw [4] (fun i wr => ∃ k : Nat, k ≤ n ∧ i = .int .i64 k ∧ wr.rowIs w.heap.size 123 (n * 3) (fill zs (k * 3)) ∧ Below w.heap.size w wr) (fun i _ => n - (intOf i).toNat)
 case atStart => exact ⟨0, Nat.zero_le _, rfl, by rw [Nat.zero_mul]; exact rowIs_made0 w _ _ _ (fun j hj => by simp at hj; match j, hj with | 0, _ => rfl | 1, _ => rfl | 2, _ => rfl) (by simp) zs, (Below.refl _ _).alloc (Nat.le_refl _) _⟩
 case round =>
  obtain ⟨k, hk, rfl, hrow, hb⟩ := hrel
  by_cases hlt : k < n
  ·obtain ⟨b, off, rfl, hbB, hc⟩ := H.out.2 (by omega)
   have hgl := hrow.lt
   have hx0 : wr.cell? ⟨b, off + k * 3, none⟩ = some (.int .i64 (nth zs (k * 3))) := (hb.cell (by exact hbB)).trans (hc (k * 3) (by omega))
   have hx1 : wr.cell? ⟨b, off + k * 3 + 1, none⟩ = some (.int .i64 (nth zs (k * 3 + 1))) := (hb.cell (by exact hbB)).trans (by have := hc (k * 3 + 1) (by omega); rwa [← Nat.add_assoc] at this)
   have hx2 : wr.cell? ⟨b, off + k * 3 + 2, none⟩ = some (.int .i64 (nth zs (k * 3 + 2))) := (hb.cell (by exact hbB)).trans (by have := hc (k * 3 + 2) (by omega); rwa [← Nat.add_assoc] at this)
   have HR := Lib.hid hrow
   have HB := Lib.hid hb
   clear hrow hb hc
   go_wp2_with fail
   refine (toLoad_any _ _ _ _).mono ?_
   rintro e w1 ⟨rfl, hb1⟩
   have HR1 := Lib.hid (below_row hb1 HR.out hgl)
   have HB1 := Lib.hid (HB.out.trans (hb1.mono HB.out.size))
   clear hb1
   have hy0 : w1.cell? ⟨w.heap.size, k * 3, none⟩ = some (.int .i64 0) := by rw [HR1.out.cell (by omega), fill_at zs (by omega)]
   have hf0 : w1.frozen? ⟨w.heap.size, k * 3, none⟩ = false := HR1.out.frozen _
   have hy1 : w1.cell? ⟨w.heap.size, k * 3 + 1, none⟩ = some (.int .i64 0) := by rw [HR1.out.cell (by omega), fill_at zs (by omega)]
   have hf1 : w1.frozen? ⟨w.heap.size, k * 3 + 1, none⟩ = false := HR1.out.frozen _
   have hy2 : w1.cell? ⟨w.heap.size, k * 3 + 2, none⟩ = some (.int .i64 0) := by rw [HR1.out.cell (by omega), fill_at zs (by omega)]
   have hf2 : w1.frozen? ⟨w.heap.size, k * 3 + 2, none⟩ = false := HR1.out.frozen _
   go_wp2
   go_roundw
   case rel => exact ⟨k + 1, by omega, by go_num, by rw [Nat.add_mul, Nat.one_mul]; exact World.rowIs.congr (World.rowIs.set (World.rowIs.set (World.rowIs.set HR1.out (k * 3) _) (k * 3 + 1) _) (k * 3 + 2) _) (fun j _ => fill_step3 zs (k * 3) j), (((HB1.out.setCell (Nat.le_refl _) _).setCell (Nat.le_refl _) _).setCell (Nat.le_refl _) _)⟩
   case measure => simp [intOf]; omega
  ·have hkn : k = n := by omega
   subst hkn
   have HR := Lib.hid hrow
   have HB := Lib.hid hb
   clear hrow hb
   go_wp2
   go_ret
   exact ⟨rfl, HR.out.congr (fun j hj => fill_end zs hj), HB.out⟩
theorem szLoadS_ok (A : Option Addr) (n c : Nat) (l : Int) (w : World) (h0 : 0 ≤ l) (h1 : l ≤ 1048576) (hn : n ≤ 9223372036854775807) (h : (n : Int) ≤ l) : Calls Tryzx.prog 55 #[.slice A n c, .int .i64 l] w fun e w' => e = .returned (.int .i64 (l - n)) ∧ w = w' := by
 have ht : ¬ l - (n : Int) < 0 := by omega
 go_enter Tryzx.func55, Tryz.ntmps55
 go_wp2
 go_ret
 exact ⟨rfl, rfl⟩
theorem szLoadS_no (A : Option Addr) (n c : Nat) (l : Int) (w : World) (h0 : 0 ≤ l) (h1 : l ≤ 1048576) (hn : n ≤ 9223372036854775807) (h : l < (n : Int)) : Calls Tryzx.prog 55 #[.slice A n c, .int .i64 l] w fun e w' => e = .returned (.int .i64 (-1)) ∧ w = w' := by
 have ht : l - (n : Int) < 0 := by omega
 go_enter Tryzx.func55, Tryz.ntmps55
 go_wp2
 go_ret
 exact ⟨rfl, rfl⟩
set_option maxHeartbeats 400000 in
theorem eqLoad_same (x0 x1 x2 : Int) (w : World) : Calls Tryzx.prog 107 #[.agg #[.int .i64 x0, .int .i64 x1, .int .i64 x2], .agg #[.int .i64 x0, .int .i64 x1, .int .i64 x2]] w fun e w' => e = .returned (.bool true) ∧ Below w.heap.size w w' := by
 have t0 : (x0 != x0) = false := by simp
 have t1 : (x1 != x1) = false := by simp
 have t2 : (x2 != x2) = false := by simp
 go_enter Tryzx.func107, Tryz.ntmps107
 go_wp2
 go_ret
 exact ⟨rfl, ((Below.refl _ _).alloc (Nat.le_refl _) _).alloc (by simp) _⟩
set_option maxHeartbeats 800000 in
theorem eqLoadS_same (A A' : Option Addr) (n c c' : Nat) (zs : List Int) (w : World) (hx : RecsAt w w.heap.size 3 A n zs) (hy : RecsAt w w.heap.size 3 A' n zs) (hn : n ≤ 1048576) :
  Calls Tryzx.prog 58 #[.slice A n c, .slice A' n c'] w fun e w' => e = .returned (.bool true) ∧ Below w.heap.size w w' := by
 have HX := Lib.hid hx
 have HY := Lib.hid hy
 clear hx hy
 have ht : ((n : Int) != (n : Int)) = false := by simp
 go_enter Tryzx.func58, Tryz.ntmps58
 go_wp2
 go_loopw [5] (fun i wr => ∃ k : Nat, k ≤ n ∧ i = .int .i64 k ∧ Below w.heap.size w wr) (fun i _ => n - (intOf i).toNat)
 case atStart => exact ⟨0, Nat.zero_le _, rfl, Below.refl _ _⟩
 case round =>
  obtain ⟨k, hk, rfl, hb⟩ := hrel
  have HB := Lib.hid hb
  by_cases hlt : k < n
  ·obtain ⟨b, off, rfl, hbB, hc⟩ := HX.out.2 (by omega)
   obtain ⟨b', off', rfl, hbB', hc'⟩ := HY.out.2 (by omega)
   have hz := hb.size
   have cx0 : wr.cell? ⟨b, off + k * 3, none⟩ = some (.int .i64 (nth zs (k * 3))) := (hb.cell (by exact hbB)).trans (hc (k * 3) (by omega))
   have cy0 : wr.cell? ⟨b', off' + k * 3, none⟩ = some (.int .i64 (nth zs (k * 3))) := (hb.cell (by exact hbB')).trans (hc' (k * 3) (by omega))
   have cx1 : wr.cell? ⟨b, off + k * 3 + 1, none⟩ = some (.int .i64 (nth zs (k * 3 + 1))) := (hb.cell (by exact hbB)).trans (by have := hc (k * 3 + 1) (by omega); rwa [← Nat.add_assoc] at this)
   have cy1 : wr.cell? ⟨b', off' + k * 3 + 1, none⟩ = some (.int .i64 (nth zs (k * 3 + 1))) := (hb.cell (by exact hbB')).trans (by have := hc' (k * 3 + 1) (by omega); rwa [← Nat.add_assoc] at this)
   have cx2 : wr.cell? ⟨b, off + k * 3 + 2, none⟩ = some (.int .i64 (nth zs (k * 3 + 2))) := (hb.cell (by exact hbB)).trans (by have := hc (k * 3 + 2) (by omega); rwa [← Nat.add_assoc] at this)
   have cy2 : wr.cell? ⟨b', off' + k * 3 + 2, none⟩ = some (.int .i64 (nth zs (k * 3 + 2))) := (hb.cell (by exact hbB')).trans (by have := hc' (k * 3 + 2) (by omega); rwa [← Nat.add_assoc] at this)
   generalize nth zs (k * 3) = u0 at *
   generalize nth zs (k * 3 + 1) = u1 at *
   generalize nth zs (k * 3 + 2) = u2 at *
   have ki : (k : Int) < (n : Int) := by omega
   have k0 : (0 : Int) ≤ (k : Int) := by omega
   clear hc hc' hb
   go_wp2
   go_region_held3 (fun w' => w'.cell? ⟨b, off + k * 3, none⟩ = some (.int .i64 u0) ∧ w'.cell? ⟨b, off + k * 3 + 1, none⟩ = some (.int .i64 u1) ∧ w'.cell? ⟨b, off + k * 3 + 2, none⟩ = some (.int .i64 u2) ∧ w'.cell? ⟨b', off' + k * 3, none⟩ = some (.int .i64 u0) ∧ w'.cell? ⟨b', off' + k * 3 + 1, none⟩ = some (.int .i64 u1) ∧ w'.cell? ⟨b', off' + k * 3 + 2, none⟩ = some (.int .i64 u2)) (first | (go_keep; done) | (refine ⟨?_, ?_, ?_, ?_, ?_, ?_⟩ <;> (rw [hcc _ _ (by simp <;> omega)]; go_keep))) ((go_at_call 107; refine (eqLoad_same _ _ _ _).mono ?_; rintro e w1 ⟨rfl, hb1⟩; obtain ⟨hcc, hff⟩ := bcell hb1))
   have HB1 := Lib.hid (HB.out.drew.trans (hb1.mono (by have := HB.out.size; simp; omega)))
   clear hcc hff hb1
   go_wp2
   go_roundw
   case rel => exact ⟨k + 1, by omega, by go_num, HB1.out⟩
   case measure => simp [intOf]; omega
  ·have hkn : k = n := by omega
   subst hkn
   clear hb
   go_wp2
   go_ret
   exact ⟨rfl, HB.out⟩
end X
section
open Go.RowKit
def filled (w : World) (g : Nat) (E : TypeId) (K : Nat) (f : Nat → Value) (L : List (Nat × List Int)) (i : Nat) : Prop :=
 ∃ gi, f i = .slice (some ⟨gi, 0, none⟩) (rowN L i) (rowN L i) ∧ g < gi ∧ w.rowIs gi E (rowN L i * K) (ints (rowZ L i))
def NestRow (w : World) (g : Nat) (T E : TypeId) (K n : Nat) (L : List (Nat × List Int)) : Prop := ∃ f, w.rowIs g T n f ∧ ∀ i, i < n → filled w g E K f L i
def NestTo (w : World) (g : Nat) (T E : TypeId) (K n : Nat) (L : List (Nat × List Int)) (k : Nat) : Prop := ∃ f, w.rowIs g T n f ∧ (∀ i, i < k → filled w g E K f L i) ∧ ∀ i, k ≤ i → f i = .slice none 0 0
section
variable {w w' : World} {g : Nat} {T E : TypeId} {K n k : Nat} {L : List (Nat × List Int)} {f f' : Nat → Value} {i : Nat}
theorem filled.after (h : filled w g E K f L i) (hb : Below w.heap.size w w') : filled w' g E K f L i := by
 obtain ⟨gi, h1, h2, h3⟩ := h
 exact ⟨gi, h1, h2, h3.of_block (hb.block gi h3.lt)⟩
theorem NestTo.after (h : NestTo w g T E K n L k) (hb : Below w.heap.size w w') : NestTo w' g T E K n L k := by
 obtain ⟨f, h1, h2, h3⟩ := h
 exact ⟨f, h1.of_block (hb.block g h1.lt), fun i hi => (h2 i hi).after hb, h3⟩
theorem NestRow.after (h : NestRow w g T E K n L) (hb : Below w.heap.size w w') : NestRow w' g T E K n L := by
 obtain ⟨f, h1, h2⟩ := h
 exact ⟨f, h1.of_block (hb.block g h1.lt), fun i hi => (h2 i hi).after hb⟩
theorem NestRow.lt (h : NestRow w g T E K n L) : g < w.heap.size := by
 obtain ⟨f, h1, _⟩ := h
 exact h1.lt
theorem NestTo.start (w : World) (T E : TypeId) (K n : Nat) (L : List (Nat × List Int)) : NestTo (w.alloc (.cells (madeCells #[.slice none 0 0] n) T)) w.heap.size T E K n L 0 :=
 ⟨_, World.rowIs_made w (.slice none 0 0) n T, fun i hi => absurd hi (by omega), fun _ _ => rfl⟩
end
end
section
open Go.RowKit
structure Within (lo hi : Nat) (w w' : World) : Prop where
 os : w'.os = w.os
 tape : w'.tape = w.tape
 output : w'.output = w.output
 size : w'.heap.size = w.heap.size
 block : ∀ k, k < lo ∨ hi ≤ k → w'.heap[k]? = w.heap[k]?
section
variable {lo hi : Nat} {w w' w'' : World}
theorem Within.refl (lo hi : Nat) (w : World) : Within lo hi w w := ⟨rfl, rfl, rfl, rfl, fun _ _ => rfl⟩
theorem Within.trans (h : Within lo hi w w') (h' : Within lo hi w' w'') : Within lo hi w w'' := ⟨h'.os.trans h.os, h'.tape.trans h.tape, h'.output.trans h.output, h'.size.trans h.size, fun k hk => (h'.block k hk).trans (h.block k hk)⟩
theorem Within.row {g : Nat} {t : TypeId} {n : Nat} {f : Nat → Value} (h : Within lo hi w w') (hr : w.rowIs g t n f) (hg : g < lo ∨ hi ≤ g) : w'.rowIs g t n f := hr.of_block (h.block g hg)
theorem Within.own {base : Nat} {E : TypeId} {v : Value} {xs : List Int} (h : Within lo hi w w') (ho : OwnV w base E v xs) (hb : hi ≤ base) : OwnV w' base E v xs := by
 rcases ho.form with ⟨rfl, rfl⟩ | ⟨g', cap, rfl, hi'⟩
 ·exact OwnV.nil _ _ _
 ·refine ⟨hi'.1, ?_⟩
  rcases hi'.2 with h2 | ⟨g'', cap', cur, h1, h2, h3, hr⟩
  ·exact .inl h2
  ·simp at h1
   obtain ⟨rfl, rfl⟩ := h1
   exact .inr ⟨g', cap, cur, rfl, h2, (h.block g' (.inr (by omega))).trans h3, hr⟩
end
def RowI (w : World) (lo hi g : Nat) (E : TypeId) (m : Nat) : Prop := ∃ f, w.rowIs g E m f ∧ IntRow f ∧ lo ≤ g ∧ g < hi
section
variable {w w' : World} {lo hi g : Nat} {E : TypeId} {m : Nat}
theorem RowI.after (h : RowI w lo hi g E m) (hb : Below w.heap.size w w') : RowI w' lo hi g E m := by
 obtain ⟨f, h1, h2⟩ := h
 exact ⟨f, h1.of_block (hb.block g h1.lt), h2⟩
end
def NestInts (w : World) (lo hi g : Nat) (T E : TypeId) (K n : Nat) (L : List (Nat × List Int)) : Prop :=
 lo ≤ g ∧ ∃ f, w.rowIs g T n f ∧ ∀ i, i < n → ∃ gi fi, f i = .slice (some ⟨gi, 0, none⟩) (rowN L i) (rowN L i) ∧ g < gi ∧ gi < hi ∧ w.rowIs gi E (rowN L i * K) fi ∧ IntRow fi
section
variable {w w' : World} {lo hi g : Nat} {T E : TypeId} {K n : Nat} {L : List (Nat × List Int)}
theorem NestInts.after (h : NestInts w lo hi g T E K n L) (hb : Below w.heap.size w w') : NestInts w' lo hi g T E K n L := by
 obtain ⟨h1, f, hr, hf⟩ := h
 refine ⟨h1, f, hr.of_block (hb.block g hr.lt), fun i hi' => ?_⟩
 obtain ⟨gi, fi, e1, e2, e3, e4, e5⟩ := hf i hi'
 exact ⟨gi, fi, e1, e2, e3, e4.of_block (hb.block gi e4.lt), e5⟩
theorem rowIs_size {t : TypeId} {m m' : Nat} {f f' : Nat → Value} (h : w.rowIs g t m f) (h' : w.rowIs g t m' f') : m = m' := by
 obtain ⟨c, hb, hn, _⟩ := h
 obtain ⟨c', hb', hn', _⟩ := h'
 rw [hb] at hb'
 simp at hb'
 rw [← hn, ← hn', hb']
theorem NestInts.only {gk m : Nat} {fk fk' : Nat → Value} (h : NestInts w lo hi g T E K n L) (hg : g < gk) (ho : Only gk w w') (hr0 : w.rowIs gk E m fk) (hr : w'.rowIs gk E m fk') (hk : IntRow fk') : NestInts w' lo hi g T E K n L := by
 obtain ⟨h1, f, hrow, hf⟩ := h
 refine ⟨h1, f, ho.row hrow (by omega), fun i hi' => ?_⟩
 obtain ⟨gi, fi, e1, e2, e3, e4, e5⟩ := hf i hi'
 by_cases e : gi = gk
 ·subst e
  have := rowIs_size e4 hr0
  exact ⟨gi, fk', e1, e2, e3, by rw [this]; exact hr, hk⟩
 ·exact ⟨gi, fi, e1, e2, e3, ho.row e4 e, e5⟩
end
end
end Go.Proofs.YtbpnbhemdbgmjaaGreat
