/-
  Contracts: whether a bridge stands, and with one force of the first span, in the reference and in the program.
-/
import Derived.Test.YtdphndjohhfgoaaWBack
import Derived.Test.YtdphndjohhfgoaaWFrom






import Derived.Deep.RegionHeld3
import Derived.IntWalk
namespace Go.Proofs.Ytdphndjohhfgoaa
open Go.RowKit
set_option linter.unusedSimpArgs false


section
variable {P : Program} {ops : Array Oper} {Q : Exit → Act → World → Prop} {md : Region.Mode}
/-- A plain operation of a drawing region, taken first. -/
theorem take_held {i d : Nat} {oi : Oper} {v : Value} {fuel : Nat} {listed : Array Bool} {a : Act} {w : World} (hi : ops[i]? = some oi) (hd : oi.dst = some d)
    (hs : Region.noSelect ops = true) (hf : Region.free md ops listed i = true) (hr : (Region.ready md ops listed).contains i = true) (hQ : ∀ c a w, Q (.panic c) (a.put (some d) v) w → Q (.panic c) a w)
    (hw : Region.wanted oi (yielded ops a.tmps) = true) (hy : ∀ w, True → (execOp a.eval oi).run P w = .ok (.value v) w)
    (h : wpAnyH P md ops Q (fun _ => True) fuel (listed.setIfInBounds i true) (a.put (some d) v) w) : wpAnyH P md ops Q (fun _ => True) (fuel + 1) listed a w :=
  wpAnyH_take (v := v) hi hs hf hr (by rw [hd]; exact hQ) (Or.inl ⟨hw, hy⟩) trivial (by rw [hd]; exact h)
/-- An operation of a drawing region that its guard strikes out. -/
theorem skip_held {i d : Nat} {oi : Oper} {fuel : Nat} {listed : Array Bool} {a : Act} {w : World} (hi : ops[i]? = some oi) (hd : oi.dst = some d)
    (hs : Region.noSelect ops = true) (hf : Region.free md ops listed i = true) (hr : (Region.ready md ops listed).contains i = true) (hQ : ∀ c a w, Q (.panic c) (a.put (some d) undef) w → Q (.panic c) a w)
    (hw : Region.wanted oi (yielded ops a.tmps) = false)
    (h : wpAnyH P md ops Q (fun _ => True) fuel (listed.setIfInBounds i true) (a.put (some d) undef) w) : wpAnyH P md ops Q (fun _ => True) (fuel + 1) listed a w :=
  wpAnyH_take (v := undef) hi hs hf hr (by rw [hd]; exact hQ) (Or.inr ⟨hw, rfl⟩) trivial (by rw [hd]; exact h)
end
theorem sBridgeStands_any (A : Option Addr) (n c : Nat) (zs : List Int) (w : World) (h : RecsAt w w.heap.size 3 A n zs) (hn : n ≤ 1048576) :
    Calls Try.prog 48 #[.slice A n c] w fun e w' => e = .returned (.bool (standB zs n)) ∧ Below w.heap.size w w' := by
  cases hB : spansB zs n
  · have HF := Lib.hid (standB_f hB)
    go_enter Try.func48, Try.ntmps48
    go_wp2_with (go_at_call 46; refine (sSpansOk_any _ _ _ zs _ h hn).mono ?_; rw [hB]; rintro e w1 ⟨rfl, hb1⟩)
    go_ret
    exact ⟨ret_bool HF.out.symm, hb1⟩
  · have HF := Lib.hid (standB_t hB)
    go_enter Try.func48, Try.ntmps48
    go_wp2_with fail
    refine (sSpansOk_any _ _ _ zs _ h hn).mono ?_
    rw [hB]
    rintro e w1 ⟨rfl, hb1⟩
    have h1 := h.after hb1
    go_wp2_with fail
    refine (l23Back_any _ _ _ zs _ h1 hB).mono ?_
    rintro e w2 ⟨g, cap, rfl, _, hb2⟩
    generalize okB2 zs n = ob at *
    go_wp2
    go_ret
    exact ⟨ret_bool HF.out.symm, hb1.trans (hb2.mono hb1.size)⟩

theorem iBridgeStands_any (A : Option Addr) (n c : Nat) (zs : List Int) (w : World) (h : RecsAt w w.heap.size 3 A n zs) (hn : n ≤ 1048576) :
    Calls Try.prog 52 #[.slice A n c] w fun e w' => e = .returned (.bool (standB zs n)) ∧ Below w.heap.size w w' := by
  cases hB : spansB zs n
  · have HF := Lib.hid (standB_f hB)
    go_enter Try.func52, Try.ntmps52
    go_wp2_with (go_at_call 50; refine (iSpansOk_any _ _ _ zs _ h hn).mono ?_; rw [hB]; rintro e w1 ⟨rfl, hb1⟩)
    go_ret
    exact ⟨ret_bool HF.out.symm, hb1⟩
  · have HF := Lib.hid (standB_t hB)
    go_enter Try.func52, Try.ntmps52
    go_wp2_with fail
    refine (iSpansOk_any _ _ _ zs _ h hn).mono ?_
    rw [hB]
    rintro e w1 ⟨rfl, hb1⟩
    have h1 := h.after hb1
    go_wp2_with fail
    refine (forcesFrom_any _ _ _ zs _ h1 hB).mono ?_
    rintro e w2 ⟨rfl, _, hb2⟩
    generalize okB2 zs n = ob at *
    go_wp2
    go_ret
    exact ⟨ret_bool HF.out.symm, hb1.trans (hb2.mono hb1.size)⟩

/-- The list with one force of the first span. -/
def loneL (zs : List Int) (f : Int) : List Int := f :: f :: zs.drop 2
theorem loneL_len {zs : List Int} {m : Nat} (f : Int) (h : zs.length = m) (hm : 2 ≤ m) : (loneL zs f).length = m := by simp [loneL]; omega
theorem loneL_nth {zs : List Int} (f : Int) (j : Nat) : (if j = 1 then Value.int .i64 f else if j = 0 then Value.int .i64 f else ints zs j) = ints (loneL zs f) j := by
  rcases j with _ | _ | j
  · rfl
  · rfl
  · rw [if_neg (by omega), if_neg (by omega)]
    simp [ints, nth, loneL, Nat.add_comm 2 j]
def loneB (zs : List Int) (n : Nat) (f : Int) : Bool := spansB zs n && (inB f (nth zs 0) (nth zs 1) && standB (loneL zs f) n)
theorem loneB_1 {zs : List Int} {n : Nat} (f : Int) (h : spansB zs n = false) : loneB zs n f = false := by simp [loneB, h]
theorem loneB_2 {zs : List Int} {n : Nat} {f : Int} (h : inB f (nth zs 0) (nth zs 1) = false) : loneB zs n f = false := by simp [loneB, h]
theorem loneB_t {zs : List Int} {n : Nat} {f : Int} (h1 : spansB zs n = true) (h : inB f (nth zs 0) (nth zs 1) = true) : loneB zs n f = standB (loneL zs f) n := by simp [loneB, h, h1]

set_option maxHeartbeats 800000 in
theorem sLoneSpans_any (A : Option Addr) (n c : Nat) (zs : List Int) (f : Int) (w : World) (h : RecsAt w w.heap.size 3 A n zs) (hn : n ≤ 1048576) :
    Calls Try.prog 15 #[.slice A n c, .int .i64 f] w fun e w' => e = .returned (.bool (loneB zs n f)) ∧ Below w.heap.size w w' := by
  cases hB : spansB zs n
  · have HF := Lib.hid (loneB_1 f hB)
    go_enter Try.func15, Try.ntmps15
    go_wp2
    refine wp_region_held_drew (S := fun _ => True) (by kernel_rfl) trivial (fun _ => ?_)
    refine take_held (i := 0) (d := 6) rfl rfl (by kernel_rfl) (by kernel_rfl) (by kernel_rfl) (fun _ _ _ h => h) (by kernel_rfl) (fun w _ => by go_simp; try rfl) ?_
    try simp only [Act.put, List.setIfInBounds_toArray, List.set_cons_zero, List.set_cons_succ]
    refine wpAnyH_ready (rs := [1]) (by kernel_rfl) (by simp) ?_
    refine AllReadyH.cons rfl (fun K hK => ?_) AllReadyH.nil
    go_simp
    refine (sSpansOk_any _ _ _ zs _ (by exact h) hn).mono ?_
    rw [hB]
    rintro e w1 ⟨rfl, hb1⟩
    go_wp2_with fail
    refine hK.out _ _ trivial (fun _ => ?_)
    clear hK K
    try simp only [Act.put, List.setIfInBounds_toArray, List.set_cons_zero, List.set_cons_succ]
    refine take_held (i := 2) (d := 8) rfl rfl (by kernel_rfl) (by kernel_rfl) (by kernel_rfl) (fun _ _ _ h => h) (by kernel_rfl) (fun w _ => by go_simp; try rfl) ?_
    try simp only [Act.put, List.setIfInBounds_toArray, List.set_cons_zero, List.set_cons_succ]
    refine take_held (i := 3) (d := 9) rfl rfl (by kernel_rfl) (by kernel_rfl) (by kernel_rfl) (fun _ _ _ h => h) (by kernel_rfl) (fun w _ => by go_simp; try rfl) ?_
    try simp only [Act.put, List.setIfInBounds_toArray, List.set_cons_zero, List.set_cons_succ]
    refine skip_held (i := 4) (d := 10) rfl rfl (by kernel_rfl) (by kernel_rfl) (by kernel_rfl) (fun _ _ _ h => h) (by kernel_rfl) ?_
    try simp only [Act.put, List.setIfInBounds_toArray, List.set_cons_zero, List.set_cons_succ]
    refine skip_held (i := 5) (d := 11) rfl rfl (by kernel_rfl) (by kernel_rfl) (by kernel_rfl) (fun _ _ _ h => h) (by kernel_rfl) ?_
    try simp only [Act.put, List.setIfInBounds_toArray, List.set_cons_zero, List.set_cons_succ]
    refine skip_held (i := 6) (d := 12) rfl rfl (by kernel_rfl) (by kernel_rfl) (by kernel_rfl) (fun _ _ _ h => h) (by kernel_rfl) ?_
    try simp only [Act.put, List.setIfInBounds_toArray, List.set_cons_zero, List.set_cons_succ]
    refine skip_held (i := 7) (d := 13) rfl rfl (by kernel_rfl) (by kernel_rfl) (by kernel_rfl) (fun _ _ _ h => h) (by kernel_rfl) ?_
    try simp only [Act.put, List.setIfInBounds_toArray, List.set_cons_zero, List.set_cons_succ]
    refine skip_held (i := 8) (d := 14) rfl rfl (by kernel_rfl) (by kernel_rfl) (by kernel_rfl) (fun _ _ _ h => h) (by kernel_rfl) ?_
    try simp only [Act.put, List.setIfInBounds_toArray, List.set_cons_zero, List.set_cons_succ]
    refine skip_held (i := 9) (d := 15) rfl rfl (by kernel_rfl) (by kernel_rfl) (by kernel_rfl) (fun _ _ _ h => h) (by kernel_rfl) ?_
    try simp only [Act.put, List.setIfInBounds_toArray, List.set_cons_zero, List.set_cons_succ]
    refine skip_held (i := 10) (d := 16) rfl rfl (by kernel_rfl) (by kernel_rfl) (by kernel_rfl) (fun _ _ _ h => h) (by kernel_rfl) ?_
    try simp only [Act.put, List.setIfInBounds_toArray, List.set_cons_zero, List.set_cons_succ]
    refine skip_held (i := 11) (d := 17) rfl rfl (by kernel_rfl) (by kernel_rfl) (by kernel_rfl) (fun _ _ _ h => h) (by kernel_rfl) ?_
    try simp only [Act.put, List.setIfInBounds_toArray, List.set_cons_zero, List.set_cons_succ]
    refine skip_held (i := 12) (d := 18) rfl rfl (by kernel_rfl) (by kernel_rfl) (by kernel_rfl) (fun _ _ _ h => h) (by kernel_rfl) ?_
    try simp only [Act.put, List.setIfInBounds_toArray, List.set_cons_zero, List.set_cons_succ]
    refine skip_held (i := 13) (d := 19) rfl rfl (by kernel_rfl) (by kernel_rfl) (by kernel_rfl) (fun _ _ _ h => h) (by kernel_rfl) ?_
    try simp only [Act.put, List.setIfInBounds_toArray, List.set_cons_zero, List.set_cons_succ]
    refine skip_held (i := 14) (d := 20) rfl rfl (by kernel_rfl) (by kernel_rfl) (by kernel_rfl) (fun _ _ _ h => h) (by kernel_rfl) ?_
    try simp only [Act.put, List.setIfInBounds_toArray, List.set_cons_zero, List.set_cons_succ]
    refine take_held (i := 15) (d := 21) rfl rfl (by kernel_rfl) (by kernel_rfl) (by kernel_rfl) (fun _ _ _ h => h) (by kernel_rfl) (fun w _ => by go_simp; try rfl) ?_
    try simp only [Act.put, List.setIfInBounds_toArray, List.set_cons_zero, List.set_cons_succ]
    refine wpAnyH_done (by kernel_rfl) ?_ _
    go_wp2
    go_ret
    exact ⟨ret_bool HF.out.symm, (Below.refl _ w).drew.trans hb1⟩
  · obtain ⟨⟨hn1, hn2⟩, hsp⟩ := spansB_out hB
    clear hsp
    obtain ⟨b, off, rfl, hbB, hc⟩ := h.2 (by omega)
    have x0 : w.cell? ⟨b, off, none⟩ = some (.int .i64 (nth zs 0)) := hc 0 (by omega)
    have x1 : w.cell? ⟨b, off + 1, none⟩ = some (.int .i64 (nth zs 1)) := hc 1 (by omega)
    have H := Lib.hid h
    clear hc h
    have hnn : 0 < n := hn1
    have hni : (0 : Int) < (n : Int) := by omega
    cases hI : inB f (nth zs 0) (nth zs 1)
    · have HF := Lib.hid (loneB_2 (n := n) hI)
      generalize nth zs 0 = L0 at *
      generalize nth zs 1 = L1 at *
      go_enter Try.func15, Try.ntmps15
      go_wp2
      go_region_held3 (fun w' => w'.cell? ⟨b, off, none⟩ = some (.int .i64 L0) ∧ w'.cell? ⟨b, off + 1, none⟩ = some (.int .i64 L1)) (first | (simp [*]; done) | (go_keep; done) | (refine ⟨?_, ?_⟩ <;> (rw [hcc _ _ (by simp <;> omega)]; go_keep))) ((first | (go_at_call 46; refine (sSpansOk_any _ _ _ zs _ (by exact H.out) hn).mono ?_; rw [hB]; rintro e w1 ⟨rfl, hb1⟩; obtain ⟨hcc, hff⟩ := bcell hb1) | (go_at_call 47; refine (l01In_any _ _ _ _).mono ?_; rw [hI]; rintro e w' ⟨rfl, rfl⟩)))
      go_wp2
      go_ret
      exact ⟨ret_bool HF.out.symm, (Below.refl _ w).drew.trans hb1⟩
    · have HF := Lib.hid (loneB_t hB hI)
      generalize nth zs 0 = L0 at *
      generalize nth zs 1 = L1 at *
      go_enter Try.func15, Try.ntmps15
      go_wp2
      go_region_held3 (fun w' => w'.cell? ⟨b, off, none⟩ = some (.int .i64 L0) ∧ w'.cell? ⟨b, off + 1, none⟩ = some (.int .i64 L1)) (first | (simp [*]; done) | (go_keep; done) | (refine ⟨?_, ?_⟩ <;> (rw [hcc _ _ (by simp <;> omega)]; go_keep))) ((first | (go_at_call 46; refine (sSpansOk_any _ _ _ zs _ (by exact H.out) hn).mono ?_; rw [hB]; rintro e w1 ⟨rfl, hb1⟩; obtain ⟨hcc, hff⟩ := bcell hb1) | (go_at_call 47; refine (l01In_any _ _ _ _).mono ?_; rw [hI]; rintro e w' ⟨rfl, rfl⟩)))
      rename_i hHeld
      have hb1' : Below w.heap.size w w1 := (Below.refl _ w).drew.trans hb1
      have h1 := H.out.after hb1'
      clear hHeld hcc hff hb1 x0 x1
      have HN := Lib.hid hn1
      go_wp2_with (at_builtin; refine wpList_append_recs _ rfl _ _ 30 rfl w1.heap.size 67 3 24 #[.int .i64 0, .int .i64 0, .int .i64 0] Try.underlying30 infoSpan rfl (by decide) (by decide) _ rfl (World.ownsRow_lit (base := w1.heap.size) (e := 67) (size := 3) w1 #[] 0 (Nat.le_refl _) (by simp [maxLen]) (by simp)) w1.heap.size _ n c zs rfl (h1.alloc (Nat.le_refl _) _) hn1 (by omega) ?hc3 ?_)
      case hc3 => simp
      intro g cap w2 hrow hg hgr
      have hb2 : Below w1.heap.size w1 w2 := ((Below.refl _ _).alloc (Nat.le_refl _) _).grown hgr (by simp) (fun k hk => by simp [Value.ownBlock] at hk; omega)
      have hr3 : RowF ((w2.setCell ⟨g, 0, none⟩ (.int .i64 f)).setCell ⟨g, 1, none⟩ (.int .i64 f)) g 67 (n * 3) (ints (loneL zs f)) := ((hrow.set 0 _).set 1 _).congr (fun j _ => loneL_nth f j)
      have h3 := hr3.recs (loneL_len f h1.1 (by omega))
      have z1 := hb1'.size
      have hb3 : Below w.heap.size w ((w2.setCell ⟨g, 0, none⟩ (.int .i64 f)).setCell ⟨g, 1, none⟩ (.int .i64 f)) := ((hb1'.trans (hb2.mono z1)).setCell (p := ⟨g, 0, none⟩) (by simp; omega) _).setCell (p := ⟨g, 1, none⟩) (by simp; omega) _
      have c0 := hrow.cell (i := 0) (by omega)
      have c1 := hrow.cell (i := 1) (by omega)
      have f0 := hrow.frozen 0
      have f1 := hrow.frozen 1
      have hgl := hrow.lt
      rw [ints_def] at c0 c1
      have H3 := Lib.hid h3
      have HB3 := Lib.hid hb3
      clear hgr h3 hr3 hrow hb2 hb3 h1 hb1'
      go_wp2_with fail
      refine (sBridgeStands_any _ _ _ (loneL zs f) _ (by exact H3.out) hn).mono ?_
      rintro e w4 ⟨rfl, hb4⟩
      go_wp2
      go_ret
      exact ⟨ret_bool HF.out.symm, HB3.out.trans (hb4.mono HB3.out.size)⟩

set_option maxHeartbeats 800000 in
theorem iLoneSpans_any (A : Option Addr) (n c : Nat) (zs : List Int) (f : Int) (w : World) (h : RecsAt w w.heap.size 3 A n zs) (hn : n ≤ 1048576) :
    Calls Try.prog 17 #[.slice A n c, .int .i64 f] w fun e w' => e = .returned (.bool (loneB zs n f)) ∧ Below w.heap.size w w' := by
  cases hB : spansB zs n
  · have HF := Lib.hid (loneB_1 f hB)
    go_enter Try.func17, Try.ntmps17
    go_wp2
    refine wp_region_held_drew (S := fun _ => True) (by kernel_rfl) trivial (fun _ => ?_)
    refine take_held (i := 0) (d := 6) rfl rfl (by kernel_rfl) (by kernel_rfl) (by kernel_rfl) (fun _ _ _ h => h) (by kernel_rfl) (fun w _ => by go_simp; try rfl) ?_
    try simp only [Act.put, List.setIfInBounds_toArray, List.set_cons_zero, List.set_cons_succ]
    refine wpAnyH_ready (rs := [1]) (by kernel_rfl) (by simp) ?_
    refine AllReadyH.cons rfl (fun K hK => ?_) AllReadyH.nil
    go_simp
    refine (iSpansOk_any _ _ _ zs _ (by exact h) hn).mono ?_
    rw [hB]
    rintro e w1 ⟨rfl, hb1⟩
    go_wp2_with fail
    refine hK.out _ _ trivial (fun _ => ?_)
    clear hK K
    try simp only [Act.put, List.setIfInBounds_toArray, List.set_cons_zero, List.set_cons_succ]
    refine take_held (i := 2) (d := 8) rfl rfl (by kernel_rfl) (by kernel_rfl) (by kernel_rfl) (fun _ _ _ h => h) (by kernel_rfl) (fun w _ => by go_simp; try rfl) ?_
    try simp only [Act.put, List.setIfInBounds_toArray, List.set_cons_zero, List.set_cons_succ]
    refine take_held (i := 3) (d := 9) rfl rfl (by kernel_rfl) (by kernel_rfl) (by kernel_rfl) (fun _ _ _ h => h) (by kernel_rfl) (fun w _ => by go_simp; try rfl) ?_
    try simp only [Act.put, List.setIfInBounds_toArray, List.set_cons_zero, List.set_cons_succ]
    refine skip_held (i := 4) (d := 10) rfl rfl (by kernel_rfl) (by kernel_rfl) (by kernel_rfl) (fun _ _ _ h => h) (by kernel_rfl) ?_
    try simp only [Act.put, List.setIfInBounds_toArray, List.set_cons_zero, List.set_cons_succ]
    refine skip_held (i := 5) (d := 11) rfl rfl (by kernel_rfl) (by kernel_rfl) (by kernel_rfl) (fun _ _ _ h => h) (by kernel_rfl) ?_
    try simp only [Act.put, List.setIfInBounds_toArray, List.set_cons_zero, List.set_cons_succ]
    refine skip_held (i := 6) (d := 12) rfl rfl (by kernel_rfl) (by kernel_rfl) (by kernel_rfl) (fun _ _ _ h => h) (by kernel_rfl) ?_
    try simp only [Act.put, List.setIfInBounds_toArray, List.set_cons_zero, List.set_cons_succ]
    refine skip_held (i := 7) (d := 13) rfl rfl (by kernel_rfl) (by kernel_rfl) (by kernel_rfl) (fun _ _ _ h => h) (by kernel_rfl) ?_
    try simp only [Act.put, List.setIfInBounds_toArray, List.set_cons_zero, List.set_cons_succ]
    refine skip_held (i := 8) (d := 14) rfl rfl (by kernel_rfl) (by kernel_rfl) (by kernel_rfl) (fun _ _ _ h => h) (by kernel_rfl) ?_
    try simp only [Act.put, List.setIfInBounds_toArray, List.set_cons_zero, List.set_cons_succ]
    refine skip_held (i := 9) (d := 15) rfl rfl (by kernel_rfl) (by kernel_rfl) (by kernel_rfl) (fun _ _ _ h => h) (by kernel_rfl) ?_
    try simp only [Act.put, List.setIfInBounds_toArray, List.set_cons_zero, List.set_cons_succ]
    refine skip_held (i := 10) (d := 16) rfl rfl (by kernel_rfl) (by kernel_rfl) (by kernel_rfl) (fun _ _ _ h => h) (by kernel_rfl) ?_
    try simp only [Act.put, List.setIfInBounds_toArray, List.set_cons_zero, List.set_cons_succ]
    refine skip_held (i := 11) (d := 17) rfl rfl (by kernel_rfl) (by kernel_rfl) (by kernel_rfl) (fun _ _ _ h => h) (by kernel_rfl) ?_
    try simp only [Act.put, List.setIfInBounds_toArray, List.set_cons_zero, List.set_cons_succ]
    refine skip_held (i := 12) (d := 18) rfl rfl (by kernel_rfl) (by kernel_rfl) (by kernel_rfl) (fun _ _ _ h => h) (by kernel_rfl) ?_
    try simp only [Act.put, List.setIfInBounds_toArray, List.set_cons_zero, List.set_cons_succ]
    refine skip_held (i := 13) (d := 19) rfl rfl (by kernel_rfl) (by kernel_rfl) (by kernel_rfl) (fun _ _ _ h => h) (by kernel_rfl) ?_
    try simp only [Act.put, List.setIfInBounds_toArray, List.set_cons_zero, List.set_cons_succ]
    refine skip_held (i := 14) (d := 20) rfl rfl (by kernel_rfl) (by kernel_rfl) (by kernel_rfl) (fun _ _ _ h => h) (by kernel_rfl) ?_
    try simp only [Act.put, List.setIfInBounds_toArray, List.set_cons_zero, List.set_cons_succ]
    refine take_held (i := 15) (d := 21) rfl rfl (by kernel_rfl) (by kernel_rfl) (by kernel_rfl) (fun _ _ _ h => h) (by kernel_rfl) (fun w _ => by go_simp; try rfl) ?_
    try simp only [Act.put, List.setIfInBounds_toArray, List.set_cons_zero, List.set_cons_succ]
    refine wpAnyH_done (by kernel_rfl) ?_ _
    go_wp2
    go_ret
    exact ⟨ret_bool HF.out.symm, (Below.refl _ w).drew.trans hb1⟩
  · obtain ⟨⟨hn1, hn2⟩, hsp⟩ := spansB_out hB
    clear hsp
    obtain ⟨b, off, rfl, hbB, hc⟩ := h.2 (by omega)
    have x0 : w.cell? ⟨b, off, none⟩ = some (.int .i64 (nth zs 0)) := hc 0 (by omega)
    have x1 : w.cell? ⟨b, off + 1, none⟩ = some (.int .i64 (nth zs 1)) := hc 1 (by omega)
    have H := Lib.hid h
    clear hc h
    have hnn : 0 < n := hn1
    have hni : (0 : Int) < (n : Int) := by omega
    cases hI : inB f (nth zs 0) (nth zs 1)
    · have HF := Lib.hid (loneB_2 (n := n) hI)
      generalize nth zs 0 = L0 at *
      generalize nth zs 1 = L1 at *
      go_enter Try.func17, Try.ntmps17
      go_wp2
      go_region_held3 (fun w' => w'.cell? ⟨b, off, none⟩ = some (.int .i64 L0) ∧ w'.cell? ⟨b, off + 1, none⟩ = some (.int .i64 L1)) (first | (simp [*]; done) | (go_keep; done) | (refine ⟨?_, ?_⟩ <;> (rw [hcc _ _ (by simp <;> omega)]; go_keep))) ((first | (go_at_call 50; refine (iSpansOk_any _ _ _ zs _ (by exact H.out) hn).mono ?_; rw [hB]; rintro e w1 ⟨rfl, hb1⟩; obtain ⟨hcc, hff⟩ := bcell hb1) | (go_at_call 51; refine (within_any _ _ _ _).mono ?_; rw [hI]; rintro e w' ⟨rfl, rfl⟩)))
      go_wp2
      go_ret
      exact ⟨ret_bool HF.out.symm, (Below.refl _ w).drew.trans hb1⟩
    · have HF := Lib.hid (loneB_t hB hI)
      generalize nth zs 0 = L0 at *
      generalize nth zs 1 = L1 at *
      go_enter Try.func17, Try.ntmps17
      go_wp2
      go_region_held3 (fun w' => w'.cell? ⟨b, off, none⟩ = some (.int .i64 L0) ∧ w'.cell? ⟨b, off + 1, none⟩ = some (.int .i64 L1)) (first | (simp [*]; done) | (go_keep; done) | (refine ⟨?_, ?_⟩ <;> (rw [hcc _ _ (by simp <;> omega)]; go_keep))) ((first | (go_at_call 50; refine (iSpansOk_any _ _ _ zs _ (by exact H.out) hn).mono ?_; rw [hB]; rintro e w1 ⟨rfl, hb1⟩; obtain ⟨hcc, hff⟩ := bcell hb1) | (go_at_call 51; refine (within_any _ _ _ _).mono ?_; rw [hI]; rintro e w' ⟨rfl, rfl⟩)))
      rename_i hHeld
      have hb1' : Below w.heap.size w w1 := (Below.refl _ w).drew.trans hb1
      have h1 := H.out.after hb1'
      clear hHeld hcc hff hb1 x0 x1
      have HN := Lib.hid hn1
      go_wp2_with (at_builtin; refine wpList_append_recs _ rfl _ _ 30 rfl w1.heap.size 67 3 24 #[.int .i64 0, .int .i64 0, .int .i64 0] Try.underlying30 infoSpan rfl (by decide) (by decide) _ rfl (World.ownsRow_nil _ _ _ _) w1.heap.size _ n c zs rfl h1 hn1 (by omega) ?hc3 ?_)
      case hc3 => simp
      intro g cap w2 hrow hg hgr
      have hb2 : Below w1.heap.size w1 w2 := (Below.refl _ _).grown hgr (Nat.le_refl _) (fun k hk => by simp [Value.ownBlock] at hk)
      have hr3 : RowF ((w2.setCell ⟨g, 0, none⟩ (.int .i64 f)).setCell ⟨g, 1, none⟩ (.int .i64 f)) g 67 (n * 3) (ints (loneL zs f)) := ((hrow.set 0 _).set 1 _).congr (fun j _ => loneL_nth f j)
      have h3 := hr3.recs (loneL_len f h1.1 (by omega))
      have z1 := hb1'.size
      have hb3 : Below w.heap.size w ((w2.setCell ⟨g, 0, none⟩ (.int .i64 f)).setCell ⟨g, 1, none⟩ (.int .i64 f)) := ((hb1'.trans (hb2.mono z1)).setCell (p := ⟨g, 0, none⟩) (by simp; omega) _).setCell (p := ⟨g, 1, none⟩) (by simp; omega) _
      have c0 := hrow.cell (i := 0) (by omega)
      have c1 := hrow.cell (i := 1) (by omega)
      have f0 := hrow.frozen 0
      have f1 := hrow.frozen 1
      have hgl := hrow.lt
      rw [ints_def] at c0 c1
      have H3 := Lib.hid h3
      have HB3 := Lib.hid hb3
      clear hgr h3 hr3 hrow hb2 hb3 h1 hb1'
      go_wp2_with fail
      refine (iBridgeStands_any _ _ _ (loneL zs f) _ (by exact H3.out) hn).mono ?_
      rintro e w4 ⟨rfl, hb4⟩
      go_wp2
      go_ret
      exact ⟨ret_bool HF.out.symm, HB3.out.trans (hb4.mono HB3.out.size)⟩
end Go.Proofs.Ytdphndjohhfgoaa
