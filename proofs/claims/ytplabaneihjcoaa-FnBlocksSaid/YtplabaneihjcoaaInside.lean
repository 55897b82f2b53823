/-
  Words: only the blocks of a range have turned, and new blocks may have come; marks of loads and of an arch in such a range.
-/
import Derived.Test.YtplabaneihjcoaaRArch
import Derived.Test.YtplabaneihjcoaaWMarkI
namespace Go.Proofs.Ytplabaneihjcoaa
open Go.RowKit

/-- Of the blocks that were there only lo, .., hi - 1 may have turned. -/
structure Inside (lo hi : Nat) (w w' : World) : Prop where
  os : w'.os = w.os
  tape : w'.tape = w.tape
  output : w'.output = w.output
  size : w.heap.size ≤ w'.heap.size
  block : ∀ k, k < w.heap.size → k < lo ∨ hi ≤ k → w'.heap[k]? = w.heap[k]?
section
variable {lo hi : Nat} {w w' w'' : World}
theorem Within.inside (h : Within lo hi w w') : Inside lo hi w w' := ⟨h.os, h.tape, h.output, Nat.le_of_eq h.size.symm, fun k _ hk => h.block k hk⟩
theorem Inside.trans (h : Inside lo hi w w') (h' : Inside lo hi w' w'') : Inside lo hi w w'' := ⟨h'.os.trans h.os, h'.tape.trans h.tape, h'.output.trans h.output, Nat.le_trans h.size h'.size, fun k hk hh => (h'.block k (Nat.lt_of_lt_of_le hk h.size) hh).trans (h.block k hk hh)⟩
theorem Inside.of_below (h : Below w.heap.size w w') : Inside lo hi w w' := ⟨h.os, h.tape, h.output, h.size, fun k hk _ => h.block k hk⟩
theorem Inside.below (h : Inside lo hi w w') (hlo : lo ≤ w.heap.size) : Below lo w w' := ⟨h.os, h.tape, h.output, h.size, fun k hk => h.block k (by omega) (.inl hk)⟩
theorem Inside.own {base : Nat} {E : TypeId} {v : Value} {xs : List Int} (h : Inside lo hi w w') (ho : OwnV w base E v xs) (hb : hi ≤ base) : OwnV w' base E v xs := by
  rcases ho.form with ⟨rfl, rfl⟩ | ⟨g', cap, rfl, hi'⟩
  · exact OwnV.nil _ _ _
  · refine ⟨hi'.1, ?_⟩
    rcases hi'.2 with h2 | ⟨g'', cap', cur, h1, h2, h3, hr⟩
    · exact .inl h2
    · simp at h1
      obtain ⟨rfl, rfl⟩ := h1
      exact .inr ⟨g', cap, cur, rfl, h2, (h.block g' (Array.getElem?_eq_some_iff.1 h3).1 (.inr (by omega))).trans h3, hr⟩
theorem Inside.row {g : Nat} {t : TypeId} {n : Nat} {f : Nat → Value} (h : Inside lo hi w w') (hr : w.rowIs g t n f) (hg : g < lo ∨ hi ≤ g) : w'.rowIs g t n f := hr.of_block (h.block g hr.lt hg)
theorem RowI.inside {lo' hi' g m : Nat} {E : TypeId} (h : RowI w lo hi g E m) (hw : Inside lo' hi' w w') (hd : hi ≤ lo' ∨ hi' ≤ lo) : RowI w' lo hi g E m := by
  obtain ⟨f, h1, h2, h3, h4⟩ := h
  exact ⟨f, hw.row h1 (by omega), h2, h3, h4⟩
end
theorem markIntS_rowI (lo hi g n c : Nat) (k0 : Int) (w : World) (h : RowI w lo hi g 3 n) (hn : n ≤ 1048576) (h0 : 0 ≤ k0) (h1 : k0 ≤ 1000000000) :
    Calls Try.prog 55 #[.slice (some ⟨g, 0, none⟩) n c, .int .i64 k0] w fun e w' => e = .returned (.int .i64 (k0 + n)) ∧ Inside lo hi w w' :=
  (markIntS_row lo hi g n c k0 w h hn h0 h1).mono fun _ _ ⟨e1, ho⟩ => ⟨e1, ho.inside⟩
set_option maxHeartbeats 800000 in
theorem markArch_row (lo hi g n c : Nat) (k0 : Int) (w : World) (h : RowI w lo hi g 105 (n * 4)) (hn : n ≤ 1048576) (h0 : 0 ≤ k0) (h1 : k0 ≤ 1000000000) :
    Calls Try.prog 22 #[.agg #[.slice (some ⟨g, 0, none⟩) n c], .int .i64 k0] w fun e w' => e = .returned (.int .i64 (k0 + (n * 4 : Nat))) ∧ Inside lo hi w w' := by
  obtain ⟨f, hr, hf, hl, hh⟩ := h
  have b0 : Below w.heap.size w (w.alloc (.cells #[.slice (some ⟨g, 0, none⟩) n c] 48)) := (Below.refl _ _).alloc (Nat.le_refl _) _
  have hr0 := hr.of_block (b0.block g hr.lt)
  go_enter Try.func22, Try.ntmps22
  go_wp2_with fail
  refine (markJointS_any g n c f k0 _ hr0 hf hn h0 h1).mono ?_
  rintro e w1 ⟨rfl, _, ho⟩
  have HI := Lib.hid ((Inside.of_below b0 (lo := lo) (hi := hi)).trans (Within.of_only ho hl hh).inside)
  clear ho
  go_wp2
  go_ret
  exact ⟨rfl, HI.out⟩
end Go.Proofs.Ytplabaneihjcoaa
