/-
  Contracts: slices of slices of two ints: compared, marked, and the marks looked at.
-/
import Derived.Test.YtplabaneihjcoaaPairs
import Derived.Test.YtplabaneihjcoaaWMark
import Derived.Deep.RegionHeld3
namespace Go.Proofs.Ytplabaneihjcoaa
open Go.RowKit
set_option linter.unusedSimpArgs false
set_option linter.unusedVariables false

set_option maxHeartbeats 800000 in
theorem eqIntSS_same (A A' : Option Addr) (n c c' : Nat) (L : Nat → Int) (w : World) (hx : PrsAt w w.heap.size A n L) (hy : PrsAt w w.heap.size A' n L) (hn : n ≤ 1048576) :
    Calls Try.prog 20 #[.slice A n c, .slice A' n c'] w fun e w' => e = .returned (.bool true) ∧ Below w.heap.size w w' := by
  have HX := Lib.hid hx
  have HY := Lib.hid hy
  clear hx hy
  have ht : ((n : Int) != (n : Int)) = false := by simp
  go_enter Try.func20, Try.ntmps20
  go_wp2
  go_loopw [5] (fun i wr => ∃ k : Nat, k ≤ n ∧ i = .int .i64 k ∧ Below w.heap.size w wr) (fun i _ => n - (intOf i).toNat)
  case atStart => exact ⟨0, Nat.zero_le _, rfl, Below.refl _ _⟩
  case round =>
    obtain ⟨k, hk, rfl, hb⟩ := hrel
    have HB := Lib.hid hb
    by_cases hlt : k < n
    · obtain ⟨b, off, rfl, hbB, hc⟩ := HX.out (by omega)
      obtain ⟨b', off', rfl, hbB', hc'⟩ := HY.out (by omega)
      obtain ⟨g, hx, hg, h0, h1⟩ := hc k hlt
      obtain ⟨g', hx', hg', h0', h1'⟩ := hc' k hlt
      have cx0 : wr.cell? ⟨b, off + k, none⟩ = some (.slice (some ⟨g, 0, none⟩) 2 2) := (hb.cell (by exact hbB)).trans hx
      have cy0 : wr.cell? ⟨b', off' + k, none⟩ = some (.slice (some ⟨g', 0, none⟩) 2 2) := (hb.cell (by exact hbB')).trans hx'
      have hz := hb.size
      have r1 : IntsAt wr wr.heap.size (some ⟨g, 0, none⟩) 2 [L (k * 2), L (k * 2 + 1)] := ints2 ((hb.cell (p := ⟨g, 0, none⟩) hg).trans h0) ((hb.cell (p := ⟨g, 1, none⟩) hg).trans h1) (by omega)
      have r2 : IntsAt wr wr.heap.size (some ⟨g', 0, none⟩) 2 [L (k * 2), L (k * 2 + 1)] := ints2 ((hb.cell (p := ⟨g', 0, none⟩) hg').trans h0') ((hb.cell (p := ⟨g', 1, none⟩) hg').trans h1') (by omega)
      have ki : (k : Int) < (n : Int) := by omega
      have k0 : (0 : Int) ≤ (k : Int) := by omega
      clear hc hc' hb hx hx' h0 h1 h0' h1'
      go_wp2
      go_region_held3 (fun w' => w'.cell? ⟨b, off + k, none⟩ = some (.slice (some ⟨g, 0, none⟩) 2 2) ∧ w'.cell? ⟨b', off' + k, none⟩ = some (.slice (some ⟨g', 0, none⟩) 2 2)) (first | (go_keep; done) | (refine ⟨?_, ?_⟩ <;> (rw [hcc _ _ (by simp <;> omega)]; go_keep))) ((go_at_call 52; refine (eqIntS_any _ _ _ _ _ _ [L (k * 2), L (k * 2 + 1)] [L (k * 2), L (k * 2 + 1)] _ (by exact r1) (by exact r2) (by decide) (by decide)).mono ?_; rw [eqL_refl]; rintro e w1 ⟨rfl, hb1⟩; obtain ⟨hcc, hff⟩ := bcell hb1))
      have HB1 := Lib.hid (HB.out.drew.trans (hb1.mono (by have := HB.out.size; simp; omega)))
      clear hcc hff hb1
      go_wp2
      go_roundw
      case rel => exact ⟨k + 1, by omega, by go_num, HB1.out⟩
      case measure => simp [intOf]; omega
    · obtain rfl : k = n := by omega
      clear hb
      go_wp2
      go_ret
      exact ⟨rfl, HB.out⟩

set_option maxHeartbeats 800000 in
theorem markInts2 (g : Nat) (f : Nat → Value) (k0 : Int) (w : World) (h : RowF w g 3 2 f) (hf : ∀ j, ∃ z, f j = .int .i64 z) (h0 : 0 ≤ k0) (h1 : k0 ≤ 1000000000) :
    Calls Try.prog 55 #[.slice (some ⟨g, 0, none⟩) 2 2, .int .i64 k0] w fun e w' => e = .returned (.int .i64 (k0 + 2)) ∧ RowF w' g 3 2 (fun j => .int .i64 (k0 + j)) ∧ Only g w w' := by
  have H := Lib.hid h
  have HF := Lib.hid hf
  clear h hf
  go_enter Try.func55, Try.ntmps55
  go_wp2
  go_loopw [1, 5] (fun m i wr => ∃ k : Nat, k ≤ 2 ∧ i = .int .i64 k ∧ m = .int .i64 (k0 + (k : Int)) ∧ RowF wr g 3 2 (marks f k0 k) ∧ Only g w wr) (fun _ i _ => 2 - (intOf i).toNat)
  case atStart => exact ⟨0, Nat.zero_le _, rfl, by simp, H.out.congr (fun j _ => (marks_0 f k0 j).symm), Only.refl _ _⟩
  case round =>
    obtain ⟨k, hk, rfl, rfl, hrow, hw⟩ := hrel
    have HR := Lib.hid hrow
    have HW := Lib.hid hw
    by_cases hlt : k < 2
    · obtain ⟨z, hz⟩ : ∃ z, marks f k0 k k = .int .i64 z := by obtain ⟨z, hz⟩ := HF.out k; exact ⟨z, by simp [marks, hz]⟩
      have hc : wr.cell? ⟨g, k, none⟩ = some (.int .i64 z) := by rw [hrow.cell hlt, hz]
      have hfr := hrow.frozen k
      have HN := Lib.hid ((hrow.set k (.int .i64 (k0 + (k : Int)))).congr (fun j _ => marks_step f k0 k j))
      have HN2 := Lib.hid (hw.setCell k (.int .i64 (k0 + (k : Int))))
      have ki : (k : Int) < 2 := by omega
      clear hrow hw hz
      go_wp2
      go_roundw
      case rel => exact ⟨k + 1, by omega, by go_num, by go_num, HN.out, HN2.out⟩
      case measure => simp [intOf]; omega
    · obtain rfl : k = 2 := by omega
      clear hrow hw
      go_wp2
      go_ret
      exact ⟨rfl, HR.out.congr (fun j hj => by simp [marks, hj]), HW.out⟩

/-- The first k rows marked with k0, k0 + 1, .. -/
def mkd (L : Nat → Int) (k0 : Int) (k : Nat) (i : Nat) : Int := if i < k * 2 then k0 + i else L i
theorem mkd_0 (L : Nat → Int) (k0 : Int) (i : Nat) : mkd L k0 0 i = L i := by simp [mkd]
theorem Prs.congr {w : World} {base m : Nat} {cs : List Value} {G : Nat → Nat} {L L' : Nat → Int} (h : Prs w base cs m G L) (e : ∀ i, i < m * 2 → L i = L' i) : Prs w base cs m G L' :=
  ⟨fun i hi => by
    obtain ⟨h1, h2, h3⟩ := h.row i hi
    exact ⟨h1, h2, h3.congr (fun j hj => by rw [e (i * 2 + j) (by omega)])⟩, h.up⟩
theorem Prs.mark {w w' : World} {base m k : Nat} {cs : List Value} {G : Nat → Nat} {L : Nat → Int} {k0 : Int} (h : Prs w base cs m G (mkd L k0 k)) (hk : k < m) (ho : Only (G k) w w') (hr : RowF w' (G k) 3 2 (fun j => .int .i64 (k0 + ((k * 2 : Nat) : Int) + j))) : Prs w' base cs m G (mkd L k0 (k + 1)) :=
  ⟨fun i hi => by
    obtain ⟨h1, h2, h3⟩ := h.row i hi
    refine ⟨h1, h2, ?_⟩
    by_cases e : i = k
    · subst e
      exact hr.congr (fun j hj => by simp only [mkd]; rw [if_pos (by omega)]; congr 1; omega)
    · have hne : G i ≠ G k := by
        rcases Nat.lt_or_gt_of_ne e with hh | hh
        · have := h.up i k hh hk; omega
        · have := h.up k i hh hi; omega
      refine (h3.only ho hne).congr (fun j hj => ?_)
      simp only [mkd]
      by_cases e1 : i * 2 + j < k * 2
      · rw [if_pos e1, if_pos (by omega)]
      · rw [if_neg e1, if_neg (by omega)], h.up⟩
theorem Prs.type {w : World} {base m : Nat} {v : Value} {cs : List Value} {G : Nat → Nat} {L : Nat → Int} (ho : OwnC w base 25 v m cs) (h : Prs w base cs m G L) {i : Nat} (hi : i < m) : v.ownBlock ≠ some (G i) := fun e => by
  obtain ⟨h1, h2, h3⟩ := h.row i hi
  have := ho.typeOf (G i) e h3
  exact absurd this (by decide)
theorem Only.ownC {g base n : Nat} {w w' : World} {E : TypeId} {v : Value} {cs : List Value} (ho : Only g w w') (h : OwnC w base E v n cs) (hne : v.ownBlock ≠ some g) : OwnC w' base E v n cs := by
  refine ⟨⟨h.1.1, ?_⟩, h.2⟩
  rcases h.1.2 with h2 | ⟨g', cap, cur, h1, h2, h3, hr⟩
  · exact .inl h2
  · exact .inr ⟨g', cap, cur, h1, h2, (ho.block g' (fun e => hne (by rw [h1]; simp [Value.ownBlock, e]))).trans h3, hr⟩

set_option maxHeartbeats 800000 in
theorem markIntSS_own (A : Option Addr) (n c : Nat) (L : Nat → Int) (k0 : Int) (base : Nat) (w : World) (h : OwnSS w base (.slice A n c) n L) (hn : n ≤ 262144) (h0 : 0 ≤ k0) (h1 : k0 ≤ 1000) :
    Calls Try.prog 23 #[.slice A n c, .int .i64 k0] w fun e w' => e = .returned (.int .i64 (k0 + ((n * 2 : Nat) : Int))) ∧ OwnSS w' base (.slice A n c) n (fun i => k0 + i) ∧ Below base w w' ∧ w'.heap.size = w.heap.size := by
  obtain ⟨cs, G, hc, hp⟩ := h
  go_enter Try.func23, Try.ntmps23
  go_wp2
  go_loopw [1, 5] (fun m i wr => ∃ k : Nat, k ≤ n ∧ i = .int .i64 k ∧ m = .int .i64 (k0 + ((k * 2 : Nat) : Int)) ∧ OwnC wr base 25 (.slice A n c) n cs ∧ Prs wr base cs n G (mkd L k0 k) ∧ Below base w wr ∧ wr.heap.size = w.heap.size) (fun _ i _ => n - (intOf i).toNat)
  case atStart => exact ⟨0, Nat.zero_le _, rfl, by simp, hc, hp.congr (fun i _ => (mkd_0 L k0 i).symm), Below.refl _ _, rfl⟩
  case round =>
    clear hc hp
    obtain ⟨k, hk, rfl, rfl, hc, hp, hb, hz⟩ := hrel
    have HC := Lib.hid hc
    have HP := Lib.hid hp
    have HB := Lib.hid hb
    have HZ := Lib.hid hz
    clear hc hp hb hz
    by_cases hlt : k < n
    · rcases HC.out.form with ⟨_, e, _⟩ | ⟨g, cap, e, _, _, hgl, hcc⟩
      · omega
      simp only [Value.slice.injEq, true_and] at e
      obtain ⟨rfl, rfl⟩ := e
      obtain ⟨e1, e2, e3⟩ := HP.out.row k hlt
      have cx : wr.cell? ⟨g, k, none⟩ = some (.slice (some ⟨G k, 0, none⟩) 2 2) := (hcc k hlt).trans e1
      have HR := Lib.hid e3
      have HE := Lib.hid e2
      have ki : (k : Int) < (n : Int) := by omega
      have ki0 : (0 : Int) ≤ (k : Int) := by omega
      clear hcc e1 e2 e3
      go_wp2_with fail
      refine (markInts2 (G k) _ _ _ HR.out (fun j => ⟨_, rfl⟩) (by omega) (by omega)).mono ?_
      rintro e w1 ⟨rfl, hr1, ho1⟩
      have HC1 := Lib.hid (ho1.ownC HC.out (Prs.type HC.out HP.out hlt))
      have HP1 := Lib.hid (HP.out.mark hlt ho1 hr1)
      have HB1 := Lib.hid (HB.out.trans (ho1.below HE.out))
      have HZ1 := Lib.hid (ho1.size.trans HZ.out)
      clear hr1 ho1 cx
      go_wp2
      go_roundw
      case rel => exact ⟨k + 1, by omega, by go_num, by go_num, HC1.out, HP1.out, HB1.out, HZ1.out⟩
      case measure => simp [intOf]; omega
    · obtain rfl : k = n := by omega
      go_wp2
      go_ret
      exact ⟨rfl, ⟨cs, G, HC.out, HP.out.congr (fun i hi => by simp [mkd, hi])⟩, HB.out, HZ.out⟩

set_option maxHeartbeats 800000 in
theorem heldIntSS_any (A : Option Addr) (n c : Nat) (k0 : Int) {base : Nat} (w : World) (h : OwnSS w base (.slice A n c) n (fun i => k0 + i)) (hn : n ≤ 262144) (h0 : 0 ≤ k0) (h1 : k0 ≤ 1000) :
    Calls Try.prog 24 #[.slice A n c, .int .i64 k0] w fun e w' => e = .returned (.int .i64 (k0 + ((n * 2 : Nat) : Int))) ∧ w = w' := by
  have H := Lib.hid h.recs
  clear h
  go_enter Try.func24, Try.ntmps24
  go_wp2
  go_loop [1, 5] (fun m i => ∃ k : Nat, k ≤ n ∧ i = .int .i64 k ∧ m = .int .i64 (k0 + ((k * 2 : Nat) : Int))) (fun _ i => n - (intOf i).toNat)
  case atStart => exact ⟨0, Nat.zero_le _, rfl, by simp⟩
  case round =>
    obtain ⟨k, hk, rfl, rfl⟩ := hrel
    by_cases hlt : k < n
    · obtain ⟨b, off, rfl, hbB, hc⟩ := H.out (by omega)
      obtain ⟨g, hx, hg, c0, c1⟩ := hc k hlt
      have HI : Hid (IntsAt w w.heap.size (some ⟨g, 0, none⟩) 2 (iota (k0 + ((k * 2 : Nat) : Int)) 2)) := Lib.hid (by
        have e : iota (k0 + ((k * 2 : Nat) : Int)) 2 = [k0 + ((k * 2 : Nat) : Int), k0 + ((k * 2 + 1 : Nat) : Int)] := by simp [iota, List.range_succ]; omega
        rw [e]
        exact ints2 c0 c1 hg)
      have ki : (k : Int) < (n : Int) := by omega
      have ki0 : (0 : Int) ≤ (k : Int) := by omega
      have kn : ¬ (k0 + ((k * 2 : Nat) : Int) + 2 < 0) := by omega
      clear hc c0 c1
      go_wp2_with fail
      refine (heldIntS_any _ 2 2 _ _ HI.out (by decide) (by omega) (by omega)).mono ?_
      rintro e w1 ⟨rfl, rfl⟩
      go_wp2
      go_round
      case rel => exact ⟨k + 1, by omega, by go_num, by go_num⟩
      case measure => simp [intOf]; omega
    · obtain rfl : k = n := by omega
      go_wp2
      go_ret
      exact ⟨rfl, rfl⟩
end Go.Proofs.Ytplabaneihjcoaa
