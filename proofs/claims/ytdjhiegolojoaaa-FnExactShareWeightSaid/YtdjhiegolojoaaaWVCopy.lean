/-
  Contracts: copies of slices of records, of arches, of vaults.
-/
import Derived.Test.YtdjhiegolojoaaaGN
import Derived.Test.YtdjhiegolojoaaaNestRow
import Derived.Test.YtdjhiegolojoaaaRJoint
import Derived.Test.YtdjhiegolojoaaaRLoad
import Derived.Test.YtdjhiegolojoaaaNArch
import Derived.Test.YtdjhiegolojoaaaNLLoad
import Derived.Test.YtdjhiegolojoaaaRVault
import Derived.Test.YtdjhiegolojoaaaBoxS
import Derived.Test.YtdjhiegolojoaaaHeld
import Derived.Lib.SliceRun
namespace Go.Proofs.Ytdjhiegolojoaaa
open Go.RowKit
set_option linter.unusedSimpArgs false
set_option linter.unusedVariables false

/-- Records in a row of the call's own. -/
def OwnPost (w : World) (E : TypeId) (K n : Nat) (zs : List Int) (e : Ending) (w' : World) : Prop :=
  ∃ g c, e = .returned (.slice (some ⟨g, 0, none⟩) n c) ∧ OwnR w' w.heap.size E K (.slice (some ⟨g, 0, none⟩) n c) n zs ∧ Below w.heap.size w w'
/-- .. in a struct of one field. -/
def OwnPost1 (w : World) (E : TypeId) (K n : Nat) (zs : List Int) (e : Ending) (w' : World) : Prop :=
  ∃ g c, e = .returned (.agg #[.slice (some ⟨g, 0, none⟩) n c]) ∧ OwnR w' w.heap.size E K (.slice (some ⟨g, 0, none⟩) n c) n zs ∧ Below w.heap.size w w'

set_option maxRecDepth 100000 in
set_option maxHeartbeats 800000 in
theorem cloneJ_any (g n c : Nat) (zs : List Int) (w : World) (hg : g < w.heap.size) (hc : ∀ j, j < n * 4 → w.cell? ⟨g, j, none⟩ = some (.int .i64 (nth zs j))) (hl : zs.length = n * 4) (hn : n ≤ 1048576) :
    Calls Try.prog 79 #[.slice (some ⟨g, 0, none⟩) n c] w (OwnPost w 67 4 n zs) := by
  have HC := Lib.hid (fun j hj => (World.cell?_alloc_lt w (.cells #[] 67) ⟨g, j, none⟩ hg).trans (hc j hj))
  clear hc
  have hnil := Lib.run_eql_slice_nil (P := Try.prog) w 39 67 (some ⟨g, 0, none⟩) n c 0 0 Try.underlying39
  go_enter Try.func79, Try.ntmps79
  go_wp2_with (at_builtin; refine wpList_appRX rfl (.tmp 5) (.tmp 6) 39 rfl w.heap.size 67 4 32 #[.int .i64 0, .int .i64 0, .int .i64 0, .int .i64 0] Try.underlying39 infoJoint  rfl (by decide) (by decide) (.slice (some ⟨w.heap.size, 0, none⟩) 0 0) 0 [] rfl (by exact OwnR.new w 67 4) g n c zs rfl hl (by exact HC.out) (by omega) (by simp) (by simp) ?_; intro g' cap' w3 hown3 har3)
  simp only [Nat.zero_add, List.nil_append] at hown3
  have HO3 := Lib.hid hown3
  have HB3 := Lib.hid (Below.trans ((Below.refl w.heap.size w).alloc (Nat.le_refl _) _) har3.below)
  go_ret
  exact ⟨g', cap', by simp, by simpa using HO3.out, HB3.out⟩

set_option maxRecDepth 100000 in
set_option maxHeartbeats 800000 in
theorem cloneL_any (g n c : Nat) (zs : List Int) (w : World) (hg : g < w.heap.size) (hc : ∀ j, j < n * 3 → w.cell? ⟨g, j, none⟩ = some (.int .i64 (nth zs j))) (hl : zs.length = n * 3) (hn : n ≤ 1048576) :
    Calls Try.prog 55 #[.slice (some ⟨g, 0, none⟩) n c] w (OwnPost w 69 3 n zs) := by
  have HC := Lib.hid (fun j hj => (World.cell?_alloc_lt w (.cells #[] 69) ⟨g, j, none⟩ hg).trans (hc j hj))
  clear hc
  have hnil := Lib.run_eql_slice_nil (P := Try.prog) w 42 69 (some ⟨g, 0, none⟩) n c 0 0 Try.underlying42
  go_enter Try.func55, Try.ntmps55
  go_wp2_with (at_builtin; refine wpList_appRX rfl (.tmp 5) (.tmp 6) 42 rfl w.heap.size 69 3 24 #[.int .i64 0, .int .i64 0, .int .i64 0] Try.underlying42 infoLoad  rfl (by decide) (by decide) (.slice (some ⟨w.heap.size, 0, none⟩) 0 0) 0 [] rfl (by exact OwnR.new w 69 3) g n c zs rfl hl (by exact HC.out) (by omega) (by simp) (by simp) ?_; intro g' cap' w3 hown3 har3)
  simp only [Nat.zero_add, List.nil_append] at hown3
  have HO3 := Lib.hid hown3
  have HB3 := Lib.hid (Below.trans ((Below.refl w.heap.size w).alloc (Nat.le_refl _) _) har3.below)
  go_ret
  exact ⟨g', cap', by simp, by simpa using HO3.out, HB3.out⟩

set_option maxRecDepth 100000 in
set_option maxHeartbeats 800000 in
theorem iCopyArch_any (g n c : Nat) (zs : List Int) (w : World) (hg : g < w.heap.size) (hc : ∀ j, j < n * 4 → w.cell? ⟨g, j, none⟩ = some (.int .i64 (nth zs j))) (hl : zs.length = n * 4) (hn : n ≤ 1048576) :
    Calls Try.prog 54 #[.agg #[.slice (some ⟨g, 0, none⟩) n c]] w (OwnPost1 w 67 4 n zs) := by
  have b0 : Below w.heap.size w ((w.alloc (.cells #[.slice (some ⟨g, 0, none⟩) n c] 41)).alloc (.cells #[.slice none 0 0] 41)) := ((Below.refl _ _).alloc (Nat.le_refl _) _).alloc (by simp) _
  have hc0 : ∀ j, j < n * 4 → ((w.alloc (.cells #[.slice (some ⟨g, 0, none⟩) n c] 41)).alloc (.cells #[.slice none 0 0] 41)).cell? ⟨g, j, none⟩ = some (.int .i64 (nth zs j)) := fun j hj => (b0.cell (by exact hg)).trans (hc j hj)
  have HV0 : Hid (RowF ((w.alloc (.cells #[.slice (some ⟨g, 0, none⟩) n c] 41)).alloc (.cells #[.slice none 0 0] 41)) (w.heap.size + 1) 41 1 (fun _ => .slice none 0 0)) := Lib.hid (by
    have h := rowF_new1S (w.alloc (.cells #[.slice (some ⟨g, 0, none⟩) n c] 41)) (.slice none 0 0) 41
    rw [World.size_alloc] at h
    exact h)
  have HB0 := Lib.hid b0
  clear b0 hc
  go_enter Try.func54, Try.ntmps54
  go_wp2_with fail
  refine (cloneJ_any g n c zs _ (by simp; omega) hc0 hl hn).mono ?_
  rintro e w1 ⟨g', c', rfl, ho1, hb1⟩
  have HO1 := Lib.hid (ho1.lowG HB0.out.size)
  have HB1 := Lib.hid (below_then HB0.out hb1)
  have HV1 := Lib.hid (HV0.out.after hb1)
  have hgl := ho1.ownLt g' rfl
  clear ho1 hb1 HB0 HV0 hc0
  have d0 : w1.cell? ⟨w.heap.size + 1, 0, none⟩ = some (.slice none 0 0) := HV1.out.cell (i := 0) (by omega)
  have f0 := HV1.out.frozen 0
  have hs := RowF.lt HV1.out
  simp at hgl
  go_wp2
  refine bodyPost_ret (v := .agg #[.slice (some ⟨g', 0, none⟩) n c']) (by simp [results, Try.results54, go_sem, *]) rfl ?_
  exact ⟨g', c', rfl, HO1.out.ofBlock (fun k hk => Below.heap_setCell _ _ _ _ (by simp [Value.ownBlock] at hk; subst hk; simp; omega)), HB1.out.setCell (by simp) _⟩

theorem below_dr2 {B : Nat} {a w : World} (h : Below B a w) : Below B a w.drew := ⟨h.os, h.tape, h.output, h.size, h.block⟩
/-- A vault with both slices in rows of the call's own. -/
def VCopyPost (w : World) (n : Nat) (L : List (Nat × List Int)) (q : Nat) (M : List (Nat × List Int)) (e : Ending) (w' : World) : Prop :=
  ∃ vR vL csR csL, e = .returned (.agg #[vR, vL]) ∧ GN w' w.heap.size 41 67 4 vR n csR L ∧ GN w' w.heap.size 42 69 3 vL q csL M ∧ Below w.heap.size w w'
/-- What a copy of a vault knows at the loops' heads: the argument's box, the result's, the copy's. -/
structure CvSt (w wr : World) (gA n cA gB q cB : Nat) (L M : List (Nat × List Int)) (vR vL : Value) (k : Nat) (csR : List Value) (j : Nat) (csL : List Value) : Prop where
  arg : RowF wr w.heap.size 30 2 (pairV (.slice (some ⟨gA, 0, none⟩) n cA) (.slice (some ⟨gB, 0, none⟩) q cB))
  res : RowF wr (w.heap.size + 1) 30 2 (pairV (.slice none 0 0) (.slice none 0 0))
  out : RowF wr (w.heap.size + 1 + 1) 30 2 (pairV vR vL)
  ribs : GN wr (w.heap.size + 3) 41 67 4 vR k csR L
  loads : GN wr (w.heap.size + 3) 42 69 3 vL j csL M
  below : Below w.heap.size w wr
section
variable {w wr w' : World} {gA n cA gB q cB : Nat} {L M : List (Nat × List Int)} {vR vL : Value} {k : Nat} {csR : List Value} {j : Nat} {csL : List Value}
theorem CvSt.after (h : CvSt w wr gA n cA gB q cB L M vR vL k csR j csL) (hb : Below wr.heap.size wr w') : CvSt w w' gA n cA gB q cB L M vR vL k csR j csL :=
  ⟨h.arg.after hb, h.res.after hb, h.out.after hb, h.ribs.after hb, h.loads.after hb, h.below.trans (hb.mono h.below.size)⟩
theorem CvSt.pushR {wy wz : World} {g c : Nat} {v' : Value} (h : CvSt w wr gA n cA gB q cB L M vR vL k csR j csL) (hb : Below wr.heap.size wr wy) (ho : OwnR wy wr.heap.size 67 4 (.slice (some ⟨g, 0, none⟩) (rowN L k) c) (rowN L k) (rowZ L k))
    (hc : OwnC wz (w.heap.size + 3) 41 v' (k + 1) (csR ++ [.slice (some ⟨g, 0, none⟩) (rowN L k) c])) (ha : AppRes wy wz (w.heap.size + 3) vR v') :
    CvSt w (wz.setCell ⟨w.heap.size + 1 + 1, 0, none⟩ v') gA n cA gB q cB L M v' vL (k + 1) (csR ++ [.slice (some ⟨g, 0, none⟩) (rowN L k) c]) j csL := by
  have h3 : w.heap.size + 3 ≤ wr.heap.size := by have := RowF.lt h.out; omega
  have hy := h.after hb
  have hgl := ho.ownLt g rfl
  have hz : w.heap.size + 3 ≤ wy.heap.size := by have := hb.size; omega
  refine ⟨(RowF.below hy.arg ha.below (by omega)).set_other (by simp <;> omega) _, (RowF.below hy.res ha.below (by omega)).set_other (by simp <;> omega) _, ((RowF.below hy.out ha.below (by omega)).set 0 v').congr (fun i hi => ?_), ?_, ?_, (hy.below.trans (ha.below.mono (by omega))).setCell (by simp <;> omega) _⟩
  · match i, hi with
    | 0, _ => rfl
    | 1, _ => rfl
  · refine GN.setLow (GN.push hy.ribs (by decide) (ho.lowG h3) (fun i hi e => ?_) hc ha) (by simp <;> omega) _
    have := h.ribs.lt hi e
    omega
  · exact GN.setLow (hy.loads.beside ha (X := 41) (fun g hg => hy.ribs.cells.typeAt g hg) (by decide) (by decide)) (by simp <;> omega) _
theorem CvSt.pushL {wy wz : World} {g c : Nat} {v' : Value} (h : CvSt w wr gA n cA gB q cB L M vR vL k csR j csL) (hb : Below wr.heap.size wr wy) (ho : OwnR wy wr.heap.size 69 3 (.slice (some ⟨g, 0, none⟩) (rowN M j) c) (rowN M j) (rowZ M j))
    (hc : OwnC wz (w.heap.size + 3) 42 v' (j + 1) (csL ++ [.slice (some ⟨g, 0, none⟩) (rowN M j) c])) (ha : AppRes wy wz (w.heap.size + 3) vL v') :
    CvSt w (wz.setCell ⟨w.heap.size + 1 + 1, 1, none⟩ v') gA n cA gB q cB L M vR v' k csR (j + 1) (csL ++ [.slice (some ⟨g, 0, none⟩) (rowN M j) c]) := by
  have h3 : w.heap.size + 3 ≤ wr.heap.size := by have := RowF.lt h.out; omega
  have hy := h.after hb
  have hgl := ho.ownLt g rfl
  have hz : w.heap.size + 3 ≤ wy.heap.size := by have := hb.size; omega
  refine ⟨(RowF.below hy.arg ha.below (by omega)).set_other (by simp <;> omega) _, (RowF.below hy.res ha.below (by omega)).set_other (by simp <;> omega) _, ((RowF.below hy.out ha.below (by omega)).set 1 v').congr (fun i hi => ?_), ?_, ?_, (hy.below.trans (ha.below.mono (by omega))).setCell (by simp <;> omega) _⟩
  · match i, hi with
    | 0, _ => rfl
    | 1, _ => rfl
  · exact GN.setLow (hy.ribs.beside ha (X := 42) (fun g hg => hy.loads.cells.typeAt g hg) (by decide) (by decide)) (by simp <;> omega) _
  · refine GN.setLow (GN.push hy.loads (by decide) (ho.lowG h3) (fun i hi e => ?_) hc ha) (by simp <;> omega) _
    have := h.loads.lt hi e
    omega
theorem CvSt.start (w : World) (gA n cA gB q cB : Nat) (L M : List (Nat × List Int)) :
    CvSt w (((w.alloc (.cells #[.slice (some ⟨gA, 0, none⟩) n cA, .slice (some ⟨gB, 0, none⟩) q cB] 30)).alloc (.cells #[.slice none 0 0, .slice none 0 0] 30)).alloc (.cells #[.slice none 0 0, .slice none 0 0] 30)) gA n cA gB q cB L M (.slice none 0 0) (.slice none 0 0) 0 [] 0 [] := by
  have r1 := (RowF.of_row (row_pair w (.slice (some ⟨gA, 0, none⟩) n cA) (.slice (some ⟨gB, 0, none⟩) q cB) 30))
  have r2 := (RowF.of_row (row_pair (w.alloc (.cells #[.slice (some ⟨gA, 0, none⟩) n cA, .slice (some ⟨gB, 0, none⟩) q cB] 30)) (.slice none 0 0) (.slice none 0 0) 30))
  have r3 := (RowF.of_row (row_pair ((w.alloc (.cells #[.slice (some ⟨gA, 0, none⟩) n cA, .slice (some ⟨gB, 0, none⟩) q cB] 30)).alloc (.cells #[.slice none 0 0, .slice none 0 0] 30)) (.slice none 0 0) (.slice none 0 0) 30))
  simp only [World.size_alloc] at r2 r3
  exact ⟨(r1.alloc _).alloc _, r2.alloc _, r3, GN.nil, GN.nil, (((Below.refl _ _).alloc (Nat.le_refl _) _).alloc (by simp) _).alloc (by simp; omega) _⟩
end
/-- The i-th row of a nest that is laid. -/
theorem NestRow.get2 {w : World} {g : Nat} {T E : TypeId} {K n : Nat} {L : List (Nat × List Int)} (h : NestRow w g T E K n L) {i : Nat} (hi : i < n) : ∃ gi, w.cell? ⟨g, i, none⟩ = some (.slice (some ⟨gi, 0, none⟩) (rowN L i) (rowN L i)) ∧ gi < w.heap.size ∧ ∀ j, j < rowN L i * K → w.cell? ⟨gi, j, none⟩ = some (.int .i64 (nth (rowZ L i) j)) := by
  obtain ⟨f, h1, h2⟩ := h
  obtain ⟨gi, e1, _, e3⟩ := h2 i hi
  exact ⟨gi, by rw [h1.cell hi, e1], e3.lt, fun j hj => e3.cell hj⟩

set_option maxRecDepth 100000 in
set_option maxHeartbeats 6400000 in
theorem iCopyVault_any (gA n cA gB q cB : Nat) (L M : List (Nat × List Int)) (w : World) (hA : NestRow w gA 41 67 4 n L) (hn : n ≤ 1048576) (hr : ∀ i, i < n → rowN L i ≤ 1048576) (hlA : ∀ i, i < n → (rowZ L i).length = rowN L i * 4)
    (hB : NestRow w gB 42 69 3 q M) (hq : q ≤ 1048576) (hs : ∀ i, i < q → rowN M i ≤ 1048576) (hlB : ∀ i, i < q → (rowZ M i).length = rowN M i * 3) :
    Calls Try.prog 29 #[.agg #[.slice (some ⟨gA, 0, none⟩) n cA, .slice (some ⟨gB, 0, none⟩) q cB]] w (VCopyPost w n L q M) := by
  have HA := Lib.hid hA
  have HB := Lib.hid hB
  have HR := Lib.hid (And.intro hr hlA)
  have HT := Lib.hid (And.intro hs hlB)
  have HC0 := Lib.hid (CvSt.start w gA n cA gB q cB L M)
  clear hA hB hr hlA hs hlB
  go_enter Try.func29, Try.ntmps29
  go_wp2
  go_loopw [11] (fun v11 wr => ∃ (k : Nat) (vR : Value) (csR : List Value), v11 = .int .i64 k ∧ k ≤ n ∧ Hid (CvSt w wr gA n cA gB q cB L M vR (.slice none 0 0) k csR 0 [])) (fun v11 _ => n - (intOf v11).toNat)
  case atStart => exact ⟨0, _, _, rfl, Nat.zero_le _, HC0⟩
  case round =>
    clear HC0
    obtain ⟨k, vR, csR, rfl, hk, HS⟩ := hrel
    have h3 := RowF.lt HS.out.out
    by_cases hlt : k < n
    · have kn : (k : Int) < (n : Int) := by omega
      have k0 : (0 : Int) ≤ (k : Int) := by omega
      have ek : IntKind.i64.wrap ((k : Int) + 1) = (k : Int) + 1 := IntWalk.i64_in _ (by omega)
      obtain ⟨gi, hcell, hgi, hrow⟩ := (HA.out.after HS.out.below).get2 hlt
      have hbx : Below wr.heap.size wr (wr.alloc (.cells #[.slice (some ⟨gi, 0, none⟩) (rowN L k) (rowN L k)] 41)).drew := below_dr2 ((Below.refl _ _).alloc (Nat.le_refl _) _)
      have HBX := Lib.hid hbx
      have hgx : gi < (wr.alloc (.cells #[.slice (some ⟨gi, 0, none⟩) (rowN L k) (rowN L k)] 41)).drew.heap.size := by simp; omega
      have HRO := Lib.hid (fun j hj => (hbx.cell (p := ⟨gi, j, none⟩) (by exact hgi)).trans (hrow j hj))
      have HSX := Lib.hid (HS.out.after hbx)
      have HRK := Lib.hid (And.intro (HR.out.1 k hlt) (HR.out.2 k hlt))
      have o0 : (wr.alloc (.cells #[.slice (some ⟨gi, 0, none⟩) (rowN L k) (rowN L k)] 41)).drew.cell? ⟨w.heap.size + 1 + 1, 0, none⟩ = some vR := HSX.out.out.cell (i := 0) (by omega)
      have b0 : (wr.alloc (.cells #[.slice (some ⟨gi, 0, none⟩) (rowN L k) (rowN L k)] 41)).drew.cell? ⟨wr.heap.size, 0, none⟩ = some (.slice (some ⟨gi, 0, none⟩) (rowN L k) (rowN L k)) := (rowF_new1S wr _ _).cell (i := 0) (by omega)
      have hwz : (wr.alloc (.cells #[.slice (some ⟨gi, 0, none⟩) (rowN L k) (rowN L k)] 41)).drew.heap.size = wr.heap.size + 1 := by simp
      have HWZ := Lib.hid hwz
      clear hbx hrow hwz
      go_wp2
      refine wp_region_held_drew (S := fun w' => w'.cell? ⟨wr.heap.size, 0, none⟩ = some (.slice (some ⟨gi, 0, none⟩) (rowN L k) (rowN L k))) (by kernel_rfl) (by exact b0) (fun hHeld => ?_)
      refine take_heldS (i := 0) (d := 15) rfl rfl (by kernel_rfl) (by kernel_rfl) (by kernel_rfl) (fun _ _ _ h => h) (by kernel_rfl) (fun w hSw => by (try dsimp only at hSw); go_simp; try rfl) (by assumption) ?_
      try simp only [Act.put, List.setIfInBounds_toArray, List.set_cons_zero, List.set_cons_succ]
      refine take_heldS (i := 2) (d := 17) rfl rfl (by kernel_rfl) (by kernel_rfl) (by kernel_rfl) (fun _ _ _ h => h) (by kernel_rfl) (fun w hSw => by (try dsimp only at hSw); go_simp; try rfl) (by assumption) ?_
      try simp only [Act.put, List.setIfInBounds_toArray, List.set_cons_zero, List.set_cons_succ]
      refine wpAnyH_ready (rs := [1, 3]) (by kernel_rfl) (by simp) ?_
      refine AllReadyH.cons rfl (fun K hK => ?_) (AllReadyH.cons rfl (fun K hK => ?_) AllReadyH.nil)
      · go_simp
        refine hK.out _ _ (by exact b0) (fun hHeld => ?_)
        clear hK K
        try simp only [Act.put, List.setIfInBounds_toArray, List.set_cons_zero, List.set_cons_succ]
        refine wpAnyH_ready (rs := [3]) (by kernel_rfl) (by simp) ?_
        refine AllReadyH.cons rfl (fun K hK => ?_) AllReadyH.nil
        go_simp
        (with_reducible refine (iCopyArch_any gi (rowN L k) (rowN L k) (rowZ L k) _ hgx HRO.out HRK.out.2 HRK.out.1).mono ?_)
        rintro e w4 ⟨g, c, rfl, ho4, hb4⟩
        have HS4 := Lib.hid (HSX.out.after hb4)
        have HO4 := Lib.hid ho4
        have HB4 := Lib.hid hb4
        have o4 : w4.cell? ⟨w.heap.size + 1 + 1, 0, none⟩ = some vR := HS4.out.out.cell (i := 0) (by omega)
        have b4 : w4.cell? ⟨wr.heap.size, 0, none⟩ = some (.slice (some ⟨gi, 0, none⟩) (rowN L k) (rowN L k)) := (HB4.out.cell (p := ⟨wr.heap.size, 0, none⟩) (by rw [HWZ.out]; simp)).trans b0
        refine hK.out _ _ (by exact b4) (fun hHeld => ?_)
        clear hK K
        try simp only [Act.put, List.setIfInBounds_toArray, List.set_cons_zero, List.set_cons_succ]
        refine wpAnyH_ready (rs := [4]) (by kernel_rfl) (by simp) ?_
        refine AllReadyH.cons rfl (fun K hK => ?_) AllReadyH.nil
        go_simp
        have o4 : (w4.alloc (.cells #[.slice (some ⟨g, 0, none⟩) (rowN L k) c] 41)).cell? ⟨w.heap.size + 1 + 1, 0, none⟩ = some vR := (HS4.out.out.alloc _).cell (i := 0) (by omega)
        have b4a := (World.cell?_alloc_lt w4 (.cells #[.slice (some ⟨g, 0, none⟩) (rowN L k) c] 41) ⟨wr.heap.size, 0, none⟩ (show wr.heap.size < w4.heap.size from by have := HB4.out.size; rw [HWZ.out] at this; omega)).trans b4
        refine hK.out _ _ (by exact b4a) (fun hHeld => ?_)
        clear hK K
        try simp only [Act.put, List.setIfInBounds_toArray, List.set_cons_zero, List.set_cons_succ]
        refine wpAnyH_ready (rs := [5]) (by kernel_rfl) (by simp) ?_
        refine AllReadyH.cons rfl (fun K hK => ?_) AllReadyH.nil
        refine step_appCX rfl (.tmp 16) (.tmp 19) 27 rfl (w.heap.size + 3) 41 24 (.agg #[.slice none 0 0]) Try.underlying27 infoArch rfl (by decide) vR k csR rfl (by exact HS4.out.ribs.cells.alloc _) w4.heap.size 1 (.slice (some ⟨g, 0, none⟩) (rowN L k) c) rfl rfl (by exact cell_new1 _ _ _) (by omega) (by have := RowF.lt HS4.out.out; simp; omega) ?_
        intro g' cap' w5 hown5 har5
        have HN5 := Lib.hid (HS.out.pushR (wy := (w4.alloc (.cells #[.slice (some ⟨g, 0, none⟩) (rowN L k) c] 41))) (by exact (HBX.out.trans (HB4.out.mono (by rw [HWZ.out]; omega))).alloc (by have := HB4.out.size; rw [HWZ.out] at this; omega) _) (by exact (HO4.out.lowG (by rw [HWZ.out]; omega)).alloc _) hown5 har5)
        have d0 : w5.cell? ⟨w.heap.size + 1 + 1, 0, none⟩ = some vR := (RowF.below (HS4.out.out.alloc _) har5.below (by omega)).cell (i := 0) (by omega)
        have f0 := (RowF.below (HS4.out.out.alloc (.cells #[.slice (some ⟨g, 0, none⟩) (rowN L k) c] 41)) har5.below (by omega)).frozen 0
        have b5 : w5.cell? ⟨wr.heap.size, 0, none⟩ = some (.slice (some ⟨gi, 0, none⟩) (rowN L k) (rowN L k)) := (har5.cellStay (p := ⟨wr.heap.size, 0, none⟩) (by have := HB4.out.size; rw [HWZ.out] at this; simp; omega) (fun g' hg' => by have := HS.out.ribs.cells.blockLt g' hg'; simp; omega)).trans b4a
        refine hK.out _ _ (by exact b5) (fun hHeld => ?_)
        clear hK K
        try simp only [Act.put, List.setIfInBounds_toArray, List.set_cons_zero, List.set_cons_succ]
        refine take_heldS (i := 6) (d := 21) rfl rfl (by kernel_rfl) (by kernel_rfl) (by kernel_rfl) (fun _ _ _ h => h) (by kernel_rfl) (fun w hSw => by (try dsimp only at hSw); go_simp; try rfl) (by assumption) ?_
        try simp only [Act.put, List.setIfInBounds_toArray, List.set_cons_zero, List.set_cons_succ]
        refine wpAnyH_ready (rs := [7]) (by kernel_rfl) (by simp) ?_
        refine AllReadyH.cons rfl (fun K hK => ?_) AllReadyH.nil
        go_simp
        refine hK.out _ _ (by exact (World.cell?_setCell_far _ _ _ _ (by simp; omega)).trans b5) (fun hHeld => ?_)
        clear hK K
        try simp only [Act.put, List.setIfInBounds_toArray, List.set_cons_zero, List.set_cons_succ]
        refine wpAnyH_done (by kernel_rfl) ?_ _
        clear hHeld
        go_wp2
        go_roundw
        case rel => exact ⟨k + 1, _, _, by go_num, by omega, HN5⟩
        case measure => simp [intOf]; omega
      · go_simp
        (with_reducible refine (iCopyArch_any gi (rowN L k) (rowN L k) (rowZ L k) _ hgx HRO.out HRK.out.2 HRK.out.1).mono ?_)
        rintro e w4 ⟨g, c, rfl, ho4, hb4⟩
        have HS4 := Lib.hid (HSX.out.after hb4)
        have HO4 := Lib.hid ho4
        have HB4 := Lib.hid hb4
        have o4 : w4.cell? ⟨w.heap.size + 1 + 1, 0, none⟩ = some vR := HS4.out.out.cell (i := 0) (by omega)
        have b4 : w4.cell? ⟨wr.heap.size, 0, none⟩ = some (.slice (some ⟨gi, 0, none⟩) (rowN L k) (rowN L k)) := (HB4.out.cell (p := ⟨wr.heap.size, 0, none⟩) (by rw [HWZ.out]; simp)).trans b0
        refine hK.out _ _ (by exact b4) (fun hHeld => ?_)
        clear hK K
        try simp only [Act.put, List.setIfInBounds_toArray, List.set_cons_zero, List.set_cons_succ]
        refine wpAnyH_ready (rs := [1, 4]) (by kernel_rfl) (by simp) ?_
        refine AllReadyH.cons rfl (fun K hK => ?_) (AllReadyH.cons rfl (fun K hK => ?_) AllReadyH.nil)
        · go_simp
          refine hK.out _ _ (by exact b4) (fun hHeld => ?_)
          clear hK K
          try simp only [Act.put, List.setIfInBounds_toArray, List.set_cons_zero, List.set_cons_succ]
          refine wpAnyH_ready (rs := [4]) (by kernel_rfl) (by simp) ?_
          refine AllReadyH.cons rfl (fun K hK => ?_) AllReadyH.nil
          go_simp
          have o4 : (w4.alloc (.cells #[.slice (some ⟨g, 0, none⟩) (rowN L k) c] 41)).cell? ⟨w.heap.size + 1 + 1, 0, none⟩ = some vR := (HS4.out.out.alloc _).cell (i := 0) (by omega)
          have b4a := (World.cell?_alloc_lt w4 (.cells #[.slice (some ⟨g, 0, none⟩) (rowN L k) c] 41) ⟨wr.heap.size, 0, none⟩ (show wr.heap.size < w4.heap.size from by have := HB4.out.size; rw [HWZ.out] at this; omega)).trans b4
          refine hK.out _ _ (by exact b4a) (fun hHeld => ?_)
          clear hK K
          try simp only [Act.put, List.setIfInBounds_toArray, List.set_cons_zero, List.set_cons_succ]
          refine wpAnyH_ready (rs := [5]) (by kernel_rfl) (by simp) ?_
          refine AllReadyH.cons rfl (fun K hK => ?_) AllReadyH.nil
          refine step_appCX rfl (.tmp 16) (.tmp 19) 27 rfl (w.heap.size + 3) 41 24 (.agg #[.slice none 0 0]) Try.underlying27 infoArch rfl (by decide) vR k csR rfl (by exact HS4.out.ribs.cells.alloc _) w4.heap.size 1 (.slice (some ⟨g, 0, none⟩) (rowN L k) c) rfl rfl (by exact cell_new1 _ _ _) (by omega) (by have := RowF.lt HS4.out.out; simp; omega) ?_
          intro g' cap' w5 hown5 har5
          have HN5 := Lib.hid (HS.out.pushR (wy := (w4.alloc (.cells #[.slice (some ⟨g, 0, none⟩) (rowN L k) c] 41))) (by exact (HBX.out.trans (HB4.out.mono (by rw [HWZ.out]; omega))).alloc (by have := HB4.out.size; rw [HWZ.out] at this; omega) _) (by exact (HO4.out.lowG (by rw [HWZ.out]; omega)).alloc _) hown5 har5)
          have d0 : w5.cell? ⟨w.heap.size + 1 + 1, 0, none⟩ = some vR := (RowF.below (HS4.out.out.alloc _) har5.below (by omega)).cell (i := 0) (by omega)
          have f0 := (RowF.below (HS4.out.out.alloc (.cells #[.slice (some ⟨g, 0, none⟩) (rowN L k) c] 41)) har5.below (by omega)).frozen 0
          have b5 : w5.cell? ⟨wr.heap.size, 0, none⟩ = some (.slice (some ⟨gi, 0, none⟩) (rowN L k) (rowN L k)) := (har5.cellStay (p := ⟨wr.heap.size, 0, none⟩) (by have := HB4.out.size; rw [HWZ.out] at this; simp; omega) (fun g' hg' => by have := HS.out.ribs.cells.blockLt g' hg'; simp; omega)).trans b4a
          refine hK.out _ _ (by exact b5) (fun hHeld => ?_)
          clear hK K
          try simp only [Act.put, List.setIfInBounds_toArray, List.set_cons_zero, List.set_cons_succ]
          refine take_heldS (i := 6) (d := 21) rfl rfl (by kernel_rfl) (by kernel_rfl) (by kernel_rfl) (fun _ _ _ h => h) (by kernel_rfl) (fun w hSw => by (try dsimp only at hSw); go_simp; try rfl) (by assumption) ?_
          try simp only [Act.put, List.setIfInBounds_toArray, List.set_cons_zero, List.set_cons_succ]
          refine wpAnyH_ready (rs := [7]) (by kernel_rfl) (by simp) ?_
          refine AllReadyH.cons rfl (fun K hK => ?_) AllReadyH.nil
          go_simp
          refine hK.out _ _ (by exact (World.cell?_setCell_far _ _ _ _ (by simp; omega)).trans b5) (fun hHeld => ?_)
          clear hK K
          try simp only [Act.put, List.setIfInBounds_toArray, List.set_cons_zero, List.set_cons_succ]
          refine wpAnyH_done (by kernel_rfl) ?_ _
          clear hHeld
          go_wp2
          go_roundw
          case rel => exact ⟨k + 1, _, _, by go_num, by omega, HN5⟩
          case measure => simp [intOf]; omega
        · go_simp
          have o4 : (w4.alloc (.cells #[.slice (some ⟨g, 0, none⟩) (rowN L k) c] 41)).cell? ⟨w.heap.size + 1 + 1, 0, none⟩ = some vR := (HS4.out.out.alloc _).cell (i := 0) (by omega)
          have b4a := (World.cell?_alloc_lt w4 (.cells #[.slice (some ⟨g, 0, none⟩) (rowN L k) c] 41) ⟨wr.heap.size, 0, none⟩ (show wr.heap.size < w4.heap.size from by have := HB4.out.size; rw [HWZ.out] at this; omega)).trans b4
          refine hK.out _ _ (by exact b4a) (fun hHeld => ?_)
          clear hK K
          try simp only [Act.put, List.setIfInBounds_toArray, List.set_cons_zero, List.set_cons_succ]
          refine wpAnyH_ready (rs := [1]) (by kernel_rfl) (by simp) ?_
          refine AllReadyH.cons rfl (fun K hK => ?_) AllReadyH.nil
          go_simp
          refine hK.out _ _ (by exact b4a) (fun hHeld => ?_)
          clear hK K
          try simp only [Act.put, List.setIfInBounds_toArray, List.set_cons_zero, List.set_cons_succ]
          refine wpAnyH_ready (rs := [5]) (by kernel_rfl) (by simp) ?_
          refine AllReadyH.cons rfl (fun K hK => ?_) AllReadyH.nil
          refine step_appCX rfl (.tmp 16) (.tmp 19) 27 rfl (w.heap.size + 3) 41 24 (.agg #[.slice none 0 0]) Try.underlying27 infoArch rfl (by decide) vR k csR rfl (by exact HS4.out.ribs.cells.alloc _) w4.heap.size 1 (.slice (some ⟨g, 0, none⟩) (rowN L k) c) rfl rfl (by exact cell_new1 _ _ _) (by omega) (by have := RowF.lt HS4.out.out; simp; omega) ?_
          intro g' cap' w5 hown5 har5
          have HN5 := Lib.hid (HS.out.pushR (wy := (w4.alloc (.cells #[.slice (some ⟨g, 0, none⟩) (rowN L k) c] 41))) (by exact (HBX.out.trans (HB4.out.mono (by rw [HWZ.out]; omega))).alloc (by have := HB4.out.size; rw [HWZ.out] at this; omega) _) (by exact (HO4.out.lowG (by rw [HWZ.out]; omega)).alloc _) hown5 har5)
          have d0 : w5.cell? ⟨w.heap.size + 1 + 1, 0, none⟩ = some vR := (RowF.below (HS4.out.out.alloc _) har5.below (by omega)).cell (i := 0) (by omega)
          have f0 := (RowF.below (HS4.out.out.alloc (.cells #[.slice (some ⟨g, 0, none⟩) (rowN L k) c] 41)) har5.below (by omega)).frozen 0
          have b5 : w5.cell? ⟨wr.heap.size, 0, none⟩ = some (.slice (some ⟨gi, 0, none⟩) (rowN L k) (rowN L k)) := (har5.cellStay (p := ⟨wr.heap.size, 0, none⟩) (by have := HB4.out.size; rw [HWZ.out] at this; simp; omega) (fun g' hg' => by have := HS.out.ribs.cells.blockLt g' hg'; simp; omega)).trans b4a
          refine hK.out _ _ (by exact b5) (fun hHeld => ?_)
          clear hK K
          try simp only [Act.put, List.setIfInBounds_toArray, List.set_cons_zero, List.set_cons_succ]
          refine take_heldS (i := 6) (d := 21) rfl rfl (by kernel_rfl) (by kernel_rfl) (by kernel_rfl) (fun _ _ _ h => h) (by kernel_rfl) (fun w hSw => by (try dsimp only at hSw); go_simp; try rfl) (by assumption) ?_
          try simp only [Act.put, List.setIfInBounds_toArray, List.set_cons_zero, List.set_cons_succ]
          refine wpAnyH_ready (rs := [7]) (by kernel_rfl) (by simp) ?_
          refine AllReadyH.cons rfl (fun K hK => ?_) AllReadyH.nil
          go_simp
          refine hK.out _ _ (by exact (World.cell?_setCell_far _ _ _ _ (by simp; omega)).trans b5) (fun hHeld => ?_)
          clear hK K
          try simp only [Act.put, List.setIfInBounds_toArray, List.set_cons_zero, List.set_cons_succ]
          refine wpAnyH_done (by kernel_rfl) ?_ _
          clear hHeld
          go_wp2
          go_roundw
          case rel => exact ⟨k + 1, _, _, by go_num, by omega, HN5⟩
          case measure => simp [intOf]; omega
    · obtain rfl : n = k := by omega
      have kn : ¬ (n : Int) < (n : Int) := by omega
      have a1 : wr.cell? ⟨w.heap.size, 1, none⟩ = some (.slice (some ⟨gB, 0, none⟩) q cB) := HS.out.arg.cell (i := 1) (by omega)
      go_wp2
      clear a1
      go_loopw [26] (fun v26 wr => ∃ (k : Nat) (vL : Value) (csL : List Value), v26 = .int .i64 k ∧ k ≤ q ∧ Hid (CvSt w wr gA n cA gB q cB L M vR vL n csR k csL)) (fun v26 _ => q - (intOf v26).toNat)
      case atStart => exact ⟨0, _, _, rfl, Nat.zero_le _, HS⟩
      case round =>
        clear HS h3
        obtain ⟨k, vL, csL, rfl, hk, HS⟩ := hrel
        have h3 := RowF.lt HS.out.out
        by_cases hlt : k < q
        · have kn : (k : Int) < (q : Int) := by omega
          have k0 : (0 : Int) ≤ (k : Int) := by omega
          have ek : IntKind.i64.wrap ((k : Int) + 1) = (k : Int) + 1 := IntWalk.i64_in _ (by omega)
          obtain ⟨gi, hcell, hgi, hrow⟩ := (HB.out.after HS.out.below).get2 hlt
          have HBX : Hid (Below wr.heap.size wr wr.drew) := Lib.hid (below_dr2 (Below.refl _ _))
          have hgx : gi < wr.drew.heap.size := hgi
          have HRO : Hid (∀ j, j < rowN M k * 3 → wr.drew.cell? ⟨gi, j, none⟩ = some (.int .i64 (nth (rowZ M k) j))) := Lib.hid hrow
          have HSX := Lib.hid (HS.out.after HBX.out)
          have HRK := Lib.hid (And.intro (HT.out.1 k hlt) (HT.out.2 k hlt))
          have o0 : wr.drew.cell? ⟨w.heap.size + 1 + 1, 1, none⟩ = some vL := HSX.out.out.cell (i := 1) (by omega)
          have HWZ : Hid (wr.drew.heap.size = wr.heap.size) := Lib.hid rfl
          clear hrow
          go_wp2
          refine wp_region_held_drew (S := fun _ => True) (by kernel_rfl) (by trivial) (fun hHeld => ?_)
          refine take_heldS (i := 0) (d := 30) rfl rfl (by kernel_rfl) (by kernel_rfl) (by kernel_rfl) (fun _ _ _ h => h) (by kernel_rfl) (fun w hSw => by (try dsimp only at hSw); go_simp; try rfl) (by assumption) ?_
          try simp only [Act.put, List.setIfInBounds_toArray, List.set_cons_zero, List.set_cons_succ]
          refine take_heldS (i := 2) (d := 32) rfl rfl (by kernel_rfl) (by kernel_rfl) (by kernel_rfl) (fun _ _ _ h => h) (by kernel_rfl) (fun w hSw => by (try dsimp only at hSw); go_simp; try rfl) (by assumption) ?_
          try simp only [Act.put, List.setIfInBounds_toArray, List.set_cons_zero, List.set_cons_succ]
          refine wpAnyH_ready (rs := [1, 3]) (by kernel_rfl) (by simp) ?_
          refine AllReadyH.cons rfl (fun K hK => ?_) (AllReadyH.cons rfl (fun K hK => ?_) AllReadyH.nil)
          · go_simp
            refine hK.out _ _ (by trivial) (fun hHeld => ?_)
            clear hK K
            try simp only [Act.put, List.setIfInBounds_toArray, List.set_cons_zero, List.set_cons_succ]
            refine wpAnyH_ready (rs := [3]) (by kernel_rfl) (by simp) ?_
            refine AllReadyH.cons rfl (fun K hK => ?_) AllReadyH.nil
            go_simp
            (with_reducible refine (cloneL_any gi (rowN M k) (rowN M k) (rowZ M k) _ hgx HRO.out HRK.out.2 HRK.out.1).mono ?_)
            rintro e w4 ⟨g, c, rfl, ho4, hb4⟩
            have HS4 := Lib.hid (HSX.out.after hb4)
            have HO4 := Lib.hid ho4
            have HB4 := Lib.hid hb4
            have o4 : w4.cell? ⟨w.heap.size + 1 + 1, 1, none⟩ = some vL := HS4.out.out.cell (i := 1) (by omega)
            refine hK.out _ _ (by trivial) (fun hHeld => ?_)
            clear hK K
            try simp only [Act.put, List.setIfInBounds_toArray, List.set_cons_zero, List.set_cons_succ]
            refine wpAnyH_ready (rs := [4]) (by kernel_rfl) (by simp) ?_
            refine AllReadyH.cons rfl (fun K hK => ?_) AllReadyH.nil
            go_simp
            have o4 : (w4.alloc (.cells #[.slice (some ⟨g, 0, none⟩) (rowN M k) c] 42)).cell? ⟨w.heap.size + 1 + 1, 1, none⟩ = some vL := (HS4.out.out.alloc _).cell (i := 1) (by omega)
            refine hK.out _ _ (by trivial) (fun hHeld => ?_)
            clear hK K
            try simp only [Act.put, List.setIfInBounds_toArray, List.set_cons_zero, List.set_cons_succ]
            refine wpAnyH_ready (rs := [5]) (by kernel_rfl) (by simp) ?_
            refine AllReadyH.cons rfl (fun K hK => ?_) AllReadyH.nil
            refine step_appCX rfl (.tmp 31) (.tmp 34) 28 rfl (w.heap.size + 3) 42 24 (.slice none 0 0) Try.underlying28 infoLLoadS rfl (by decide) vL k csL rfl (by exact HS4.out.loads.cells.alloc _) w4.heap.size 1 (.slice (some ⟨g, 0, none⟩) (rowN M k) c) rfl rfl (by exact cell_new1 _ _ _) (by omega) (by have := RowF.lt HS4.out.out; simp; omega) ?_
            intro g' cap' w5 hown5 har5
            have HN5 := Lib.hid (HS.out.pushL (wy := (w4.alloc (.cells #[.slice (some ⟨g, 0, none⟩) (rowN M k) c] 42))) (by exact (HBX.out.trans (HB4.out.mono (Nat.le_of_eq HWZ.out.symm))).alloc (by have := HB4.out.size; rw [HWZ.out] at this; omega) _) (by exact (HO4.out.lowG (Nat.le_of_eq HWZ.out.symm)).alloc _) hown5 har5)
            have d0 : w5.cell? ⟨w.heap.size + 1 + 1, 1, none⟩ = some vL := (RowF.below (HS4.out.out.alloc _) har5.below (by omega)).cell (i := 1) (by omega)
            have f0 := (RowF.below (HS4.out.out.alloc (.cells #[.slice (some ⟨g, 0, none⟩) (rowN M k) c] 42)) har5.below (by omega)).frozen 1
            refine hK.out _ _ (by trivial) (fun hHeld => ?_)
            clear hK K
            try simp only [Act.put, List.setIfInBounds_toArray, List.set_cons_zero, List.set_cons_succ]
            refine take_heldS (i := 6) (d := 36) rfl rfl (by kernel_rfl) (by kernel_rfl) (by kernel_rfl) (fun _ _ _ h => h) (by kernel_rfl) (fun w hSw => by (try dsimp only at hSw); go_simp; try rfl) (by assumption) ?_
            try simp only [Act.put, List.setIfInBounds_toArray, List.set_cons_zero, List.set_cons_succ]
            refine wpAnyH_ready (rs := [7]) (by kernel_rfl) (by simp) ?_
            refine AllReadyH.cons rfl (fun K hK => ?_) AllReadyH.nil
            go_simp
            refine hK.out _ _ (by trivial) (fun hHeld => ?_)
            clear hK K
            try simp only [Act.put, List.setIfInBounds_toArray, List.set_cons_zero, List.set_cons_succ]
            refine wpAnyH_done (by kernel_rfl) ?_ _
            clear hHeld
            go_wp2
            go_roundw
            case rel => exact ⟨k + 1, _, _, by go_num, by omega, HN5⟩
            case measure => simp [intOf]; omega
          · go_simp
            (with_reducible refine (cloneL_any gi (rowN M k) (rowN M k) (rowZ M k) _ hgx HRO.out HRK.out.2 HRK.out.1).mono ?_)
            rintro e w4 ⟨g, c, rfl, ho4, hb4⟩
            have HS4 := Lib.hid (HSX.out.after hb4)
            have HO4 := Lib.hid ho4
            have HB4 := Lib.hid hb4
            have o4 : w4.cell? ⟨w.heap.size + 1 + 1, 1, none⟩ = some vL := HS4.out.out.cell (i := 1) (by omega)
            refine hK.out _ _ (by trivial) (fun hHeld => ?_)
            clear hK K
            try simp only [Act.put, List.setIfInBounds_toArray, List.set_cons_zero, List.set_cons_succ]
            refine wpAnyH_ready (rs := [1, 4]) (by kernel_rfl) (by simp) ?_
            refine AllReadyH.cons rfl (fun K hK => ?_) (AllReadyH.cons rfl (fun K hK => ?_) AllReadyH.nil)
            · go_simp
              refine hK.out _ _ (by trivial) (fun hHeld => ?_)
              clear hK K
              try simp only [Act.put, List.setIfInBounds_toArray, List.set_cons_zero, List.set_cons_succ]
              refine wpAnyH_ready (rs := [4]) (by kernel_rfl) (by simp) ?_
              refine AllReadyH.cons rfl (fun K hK => ?_) AllReadyH.nil
              go_simp
              have o4 : (w4.alloc (.cells #[.slice (some ⟨g, 0, none⟩) (rowN M k) c] 42)).cell? ⟨w.heap.size + 1 + 1, 1, none⟩ = some vL := (HS4.out.out.alloc _).cell (i := 1) (by omega)
              refine hK.out _ _ (by trivial) (fun hHeld => ?_)
              clear hK K
              try simp only [Act.put, List.setIfInBounds_toArray, List.set_cons_zero, List.set_cons_succ]
              refine wpAnyH_ready (rs := [5]) (by kernel_rfl) (by simp) ?_
              refine AllReadyH.cons rfl (fun K hK => ?_) AllReadyH.nil
              refine step_appCX rfl (.tmp 31) (.tmp 34) 28 rfl (w.heap.size + 3) 42 24 (.slice none 0 0) Try.underlying28 infoLLoadS rfl (by decide) vL k csL rfl (by exact HS4.out.loads.cells.alloc _) w4.heap.size 1 (.slice (some ⟨g, 0, none⟩) (rowN M k) c) rfl rfl (by exact cell_new1 _ _ _) (by omega) (by have := RowF.lt HS4.out.out; simp; omega) ?_
              intro g' cap' w5 hown5 har5
              have HN5 := Lib.hid (HS.out.pushL (wy := (w4.alloc (.cells #[.slice (some ⟨g, 0, none⟩) (rowN M k) c] 42))) (by exact (HBX.out.trans (HB4.out.mono (Nat.le_of_eq HWZ.out.symm))).alloc (by have := HB4.out.size; rw [HWZ.out] at this; omega) _) (by exact (HO4.out.lowG (Nat.le_of_eq HWZ.out.symm)).alloc _) hown5 har5)
              have d0 : w5.cell? ⟨w.heap.size + 1 + 1, 1, none⟩ = some vL := (RowF.below (HS4.out.out.alloc _) har5.below (by omega)).cell (i := 1) (by omega)
              have f0 := (RowF.below (HS4.out.out.alloc (.cells #[.slice (some ⟨g, 0, none⟩) (rowN M k) c] 42)) har5.below (by omega)).frozen 1
              refine hK.out _ _ (by trivial) (fun hHeld => ?_)
              clear hK K
              try simp only [Act.put, List.setIfInBounds_toArray, List.set_cons_zero, List.set_cons_succ]
              refine take_heldS (i := 6) (d := 36) rfl rfl (by kernel_rfl) (by kernel_rfl) (by kernel_rfl) (fun _ _ _ h => h) (by kernel_rfl) (fun w hSw => by (try dsimp only at hSw); go_simp; try rfl) (by assumption) ?_
              try simp only [Act.put, List.setIfInBounds_toArray, List.set_cons_zero, List.set_cons_succ]
              refine wpAnyH_ready (rs := [7]) (by kernel_rfl) (by simp) ?_
              refine AllReadyH.cons rfl (fun K hK => ?_) AllReadyH.nil
              go_simp
              refine hK.out _ _ (by trivial) (fun hHeld => ?_)
              clear hK K
              try simp only [Act.put, List.setIfInBounds_toArray, List.set_cons_zero, List.set_cons_succ]
              refine wpAnyH_done (by kernel_rfl) ?_ _
              clear hHeld
              go_wp2
              go_roundw
              case rel => exact ⟨k + 1, _, _, by go_num, by omega, HN5⟩
              case measure => simp [intOf]; omega
            · go_simp
              have o4 : (w4.alloc (.cells #[.slice (some ⟨g, 0, none⟩) (rowN M k) c] 42)).cell? ⟨w.heap.size + 1 + 1, 1, none⟩ = some vL := (HS4.out.out.alloc _).cell (i := 1) (by omega)
              refine hK.out _ _ (by trivial) (fun hHeld => ?_)
              clear hK K
              try simp only [Act.put, List.setIfInBounds_toArray, List.set_cons_zero, List.set_cons_succ]
              refine wpAnyH_ready (rs := [1]) (by kernel_rfl) (by simp) ?_
              refine AllReadyH.cons rfl (fun K hK => ?_) AllReadyH.nil
              go_simp
              refine hK.out _ _ (by trivial) (fun hHeld => ?_)
              clear hK K
              try simp only [Act.put, List.setIfInBounds_toArray, List.set_cons_zero, List.set_cons_succ]
              refine wpAnyH_ready (rs := [5]) (by kernel_rfl) (by simp) ?_
              refine AllReadyH.cons rfl (fun K hK => ?_) AllReadyH.nil
              refine step_appCX rfl (.tmp 31) (.tmp 34) 28 rfl (w.heap.size + 3) 42 24 (.slice none 0 0) Try.underlying28 infoLLoadS rfl (by decide) vL k csL rfl (by exact HS4.out.loads.cells.alloc _) w4.heap.size 1 (.slice (some ⟨g, 0, none⟩) (rowN M k) c) rfl rfl (by exact cell_new1 _ _ _) (by omega) (by have := RowF.lt HS4.out.out; simp; omega) ?_
              intro g' cap' w5 hown5 har5
              have HN5 := Lib.hid (HS.out.pushL (wy := (w4.alloc (.cells #[.slice (some ⟨g, 0, none⟩) (rowN M k) c] 42))) (by exact (HBX.out.trans (HB4.out.mono (Nat.le_of_eq HWZ.out.symm))).alloc (by have := HB4.out.size; rw [HWZ.out] at this; omega) _) (by exact (HO4.out.lowG (Nat.le_of_eq HWZ.out.symm)).alloc _) hown5 har5)
              have d0 : w5.cell? ⟨w.heap.size + 1 + 1, 1, none⟩ = some vL := (RowF.below (HS4.out.out.alloc _) har5.below (by omega)).cell (i := 1) (by omega)
              have f0 := (RowF.below (HS4.out.out.alloc (.cells #[.slice (some ⟨g, 0, none⟩) (rowN M k) c] 42)) har5.below (by omega)).frozen 1
              refine hK.out _ _ (by trivial) (fun hHeld => ?_)
              clear hK K
              try simp only [Act.put, List.setIfInBounds_toArray, List.set_cons_zero, List.set_cons_succ]
              refine take_heldS (i := 6) (d := 36) rfl rfl (by kernel_rfl) (by kernel_rfl) (by kernel_rfl) (fun _ _ _ h => h) (by kernel_rfl) (fun w hSw => by (try dsimp only at hSw); go_simp; try rfl) (by assumption) ?_
              try simp only [Act.put, List.setIfInBounds_toArray, List.set_cons_zero, List.set_cons_succ]
              refine wpAnyH_ready (rs := [7]) (by kernel_rfl) (by simp) ?_
              refine AllReadyH.cons rfl (fun K hK => ?_) AllReadyH.nil
              go_simp
              refine hK.out _ _ (by trivial) (fun hHeld => ?_)
              clear hK K
              try simp only [Act.put, List.setIfInBounds_toArray, List.set_cons_zero, List.set_cons_succ]
              refine wpAnyH_done (by kernel_rfl) ?_ _
              clear hHeld
              go_wp2
              go_roundw
              case rel => exact ⟨k + 1, _, _, by go_num, by omega, HN5⟩
              case measure => simp [intOf]; omega
        · obtain rfl : q = k := by omega
          have kn : ¬ (q : Int) < (q : Int) := by omega
          have o0 : wr.cell? ⟨w.heap.size + 1 + 1, 0, none⟩ = some vR := HS.out.out.cell (i := 0) (by omega)
          have o1 : wr.cell? ⟨w.heap.size + 1 + 1, 1, none⟩ = some vL := HS.out.out.cell (i := 1) (by omega)
          have r0 : wr.cell? ⟨w.heap.size + 1, 0, none⟩ = some (.slice none 0 0) := HS.out.res.cell (i := 0) (by omega)
          have r1 : wr.cell? ⟨w.heap.size + 1, 1, none⟩ = some (.slice none 0 0) := HS.out.res.cell (i := 1) (by omega)
          have f0 := HS.out.res.frozen 0
          have f1 := HS.out.res.frozen 1
          have hs := RowF.lt HS.out.res
          obtain ⟨A1, c1, rfl, _⟩ := HS.out.ribs.cells.slice
          obtain ⟨A2, c2, rfl, _⟩ := HS.out.loads.cells.slice
          go_wp2
          refine bodyPost_ret (v := .agg #[.slice A1 n c1, .slice A2 q c2]) (by simp [results, Try.results29, go_sem, *]) rfl ?_
          exact ⟨_, _, csR, csL, rfl, ((HS.out.ribs.setLow (by simp) _).setLow (by simp) _).mono (by omega), ((HS.out.loads.setLow (by simp) _).setLow (by simp) _).mono (by omega), (HS.out.below.setCell (by simp) _).setCell (by simp) _⟩

set_option maxRecDepth 100000 in
set_option maxHeartbeats 800000 in
theorem sCopyArch_any (g n c : Nat) (zs : List Int) (w : World) (hg : g < w.heap.size) (hc : ∀ j, j < n * 4 → w.cell? ⟨g, j, none⟩ = some (.int .i64 (nth zs j))) (hl : zs.length = n * 4) (hn : n ≤ 1048576) :
    Calls Try.prog 50 #[.agg #[.slice (some ⟨g, 0, none⟩) n c]] w (OwnPost1 w 67 4 n zs) := by
  have b0 : Below w.heap.size w (((w.alloc (.cells #[.slice (some ⟨g, 0, none⟩) n c] 41)).alloc (.cells #[.slice none 0 0] 41)).alloc (.cells #[] 67)) := (((Below.refl _ _).alloc (Nat.le_refl _) _).alloc (by simp) _).alloc (by simp; omega) _
  have HC0 := Lib.hid (fun j hj => (b0.cell (p := ⟨g, j, none⟩) (by exact hg)).trans (hc j hj))
  have HO0 : Hid (OwnR (((w.alloc (.cells #[.slice (some ⟨g, 0, none⟩) n c] 41)).alloc (.cells #[.slice none 0 0] 41)).alloc (.cells #[] 67)) (w.heap.size + 2) 67 4 (.slice (some ⟨w.heap.size + 1 + 1, 0, none⟩) 0 0) 0 []) := Lib.hid (by
    have h := OwnR.new ((w.alloc (.cells #[.slice (some ⟨g, 0, none⟩) n c] 41)).alloc (.cells #[.slice none 0 0] 41)) 67 4
    simp only [World.size_alloc] at h
    exact h)
  have HV0 : Hid (RowF (((w.alloc (.cells #[.slice (some ⟨g, 0, none⟩) n c] 41)).alloc (.cells #[.slice none 0 0] 41)).alloc (.cells #[] 67)) (w.heap.size + 1) 41 1 (fun _ => .slice none 0 0)) := Lib.hid (by
    have h := (rowF_new1S (w.alloc (.cells #[.slice (some ⟨g, 0, none⟩) n c] 41)) (.slice none 0 0) 41).alloc (.cells #[] 67)
    simp only [World.size_alloc] at h
    exact h)
  have HB0 := Lib.hid b0
  clear b0 hc
  go_enter Try.func50, Try.ntmps50
  go_wp2_with (at_builtin; refine wpList_appRX rfl (.tmp 3) (.tmp 5) 39 rfl (w.heap.size + 2) 67 4 32 #[.int .i64 0, .int .i64 0, .int .i64 0, .int .i64 0] Try.underlying39 infoJoint rfl (by decide) (by decide) (.slice (some ⟨w.heap.size + 1 + 1, 0, none⟩) 0 0) 0 [] rfl (by exact HO0.out) g n c zs rfl hl (by exact HC0.out) (by omega) (by simp) (by simp) ?_; intro g' cap' w3 hown3 har3; simp only [Nat.zero_add, List.nil_append] at hown3; have HO3 := Lib.hid hown3; have HB3 := Lib.hid (HB0.out.trans (har3.below.mono (by omega))); have HV3 := Lib.hid (RowF.below HV0.out har3.below (by omega)); have d0 : w3.cell? ⟨w.heap.size + 1, 0, none⟩ = some (.slice none 0 0) := HV3.out.cell (i := 0) (by omega); have f0 := HV3.out.frozen 0; have hs := RowF.lt HV3.out)
  have hgl := HO3.out.ownLt g' rfl
  refine bodyPost_ret (v := .agg #[.slice (some ⟨g', 0, none⟩) n cap']) (by simp [results, Try.results50, go_sem, *]) rfl ?_
  exact ⟨g', cap', rfl, (HO3.out.ofBlock (fun k hk => Below.heap_setCell _ _ _ _ (by simp [Value.ownBlock] at hk; subst hk; simp; omega))).lowG (by omega), HB3.out.setCell (by simp) _⟩


set_option maxRecDepth 100000 in
set_option maxHeartbeats 6400000 in
theorem sCopyVault_any (gA n cA gB q cB : Nat) (L M : List (Nat × List Int)) (w : World) (hA : NestRow w gA 41 67 4 n L) (hn : n ≤ 1048576) (hr : ∀ i, i < n → rowN L i ≤ 1048576) (hlA : ∀ i, i < n → (rowZ L i).length = rowN L i * 4)
    (hB : NestRow w gB 42 69 3 q M) (hq : q ≤ 1048576) (hs : ∀ i, i < q → rowN M i ≤ 1048576) (hlB : ∀ i, i < q → (rowZ M i).length = rowN M i * 3) :
    Calls Try.prog 24 #[.agg #[.slice (some ⟨gA, 0, none⟩) n cA, .slice (some ⟨gB, 0, none⟩) q cB]] w (VCopyPost w n L q M) := by
  have HA := Lib.hid hA
  have HB := Lib.hid hB
  have HR := Lib.hid (And.intro hr hlA)
  have HT := Lib.hid (And.intro hs hlB)
  have HC0 := Lib.hid (CvSt.start w gA n cA gB q cB L M)
  clear hA hB hr hlA hs hlB
  go_enter Try.func24, Try.ntmps24
  go_wp2
  go_loopw [4] (fun v4 wr => ∃ (k : Nat) (vR : Value) (csR : List Value), v4 = .int .i64 k ∧ k ≤ n ∧ Hid (CvSt w wr gA n cA gB q cB L M vR (.slice none 0 0) k csR 0 [])) (fun v4 _ => n - (intOf v4).toNat)
  case atStart => exact ⟨0, _, _, rfl, Nat.zero_le _, HC0⟩
  case round =>
    clear HC0
    obtain ⟨k, vR, csR, rfl, hk, HS⟩ := hrel
    have h3 := RowF.lt HS.out.out
    have a0 : wr.cell? ⟨w.heap.size, 0, none⟩ = some (.slice (some ⟨gA, 0, none⟩) n cA) := HS.out.arg.cell (i := 0) (by omega)
    by_cases hlt : k < n
    · have kn : (k : Int) < (n : Int) := by omega
      have k0 : (0 : Int) ≤ (k : Int) := by omega
      have ek : IntKind.i64.wrap ((k : Int) + 1) = (k : Int) + 1 := IntWalk.i64_in _ (by omega)
      have hAw := HA.out.after HS.out.below
      have hgA : gA < wr.heap.size := hAw.lt
      obtain ⟨gi, hcell, hgi, hrow⟩ := hAw.get2 hlt
      have HBX : Hid (Below wr.heap.size wr wr.drew) := Lib.hid (below_dr2 (Below.refl _ _))
      have hgx : gi < wr.drew.heap.size := hgi
      have HRO : Hid (∀ j, j < rowN L k * 4 → wr.drew.cell? ⟨gi, j, none⟩ = some (.int .i64 (nth (rowZ L k) j))) := Lib.hid hrow
      have HSX := Lib.hid (HS.out.after HBX.out)
      have HRK := Lib.hid (And.intro (HR.out.1 k hlt) (HR.out.2 k hlt))
      have o0 : wr.drew.cell? ⟨w.heap.size + 1 + 1, 0, none⟩ = some vR := HSX.out.out.cell (i := 0) (by omega)
      have b0 : wr.drew.cell? ⟨w.heap.size, 0, none⟩ = some (.slice (some ⟨gA, 0, none⟩) n cA) ∧ wr.drew.cell? ⟨gA, k, none⟩ = some (.slice (some ⟨gi, 0, none⟩) (rowN L k) (rowN L k)) := ⟨a0, hcell⟩
      have HWZ : Hid (wr.drew.heap.size = wr.heap.size) := Lib.hid rfl
      have hgAw : gA < w.heap.size := HA.out.lt
      clear hrow hAw
      go_wp2
      refine wp_region_held_drew (S := fun w' => w'.cell? ⟨w.heap.size, 0, none⟩ = some (.slice (some ⟨gA, 0, none⟩) n cA) ∧ w'.cell? ⟨gA, k, none⟩ = some (.slice (some ⟨gi, 0, none⟩) (rowN L k) (rowN L k))) (by kernel_rfl) (by exact b0) (fun hHeld => ?_)
      refine take_heldS (i := 0) (d := 14) rfl rfl (by kernel_rfl) (by kernel_rfl) (by kernel_rfl) (fun _ _ _ h => h) (by kernel_rfl) (fun w hSw => by (try dsimp only at hSw); go_simp; try rfl) (by assumption) ?_
      try simp only [Act.put, List.setIfInBounds_toArray, List.set_cons_zero, List.set_cons_succ]
      refine take_heldS (i := 2) (d := 16) rfl rfl (by kernel_rfl) (by kernel_rfl) (by kernel_rfl) (fun _ _ _ h => h) (by kernel_rfl) (fun w hSw => by (try dsimp only at hSw); go_simp; try rfl) (by assumption) ?_
      try simp only [Act.put, List.setIfInBounds_toArray, List.set_cons_zero, List.set_cons_succ]
      refine take_heldS (i := 3) (d := 17) rfl rfl (by kernel_rfl) (by kernel_rfl) (by kernel_rfl) (fun _ _ _ h => h) (by kernel_rfl) (fun w hSw => by (try dsimp only at hSw); go_simp; try rfl) (by assumption) ?_
      try simp only [Act.put, List.setIfInBounds_toArray, List.set_cons_zero, List.set_cons_succ]
      refine take_heldS (i := 4) (d := 18) rfl rfl (by kernel_rfl) (by kernel_rfl) (by kernel_rfl) (fun _ _ _ h => h) (by kernel_rfl) (fun w hSw => by (try dsimp only at hSw); go_simp; try rfl) (by assumption) ?_
      try simp only [Act.put, List.setIfInBounds_toArray, List.set_cons_zero, List.set_cons_succ]
      refine take_heldS (i := 5) (d := 19) rfl rfl (by kernel_rfl) (by kernel_rfl) (by kernel_rfl) (fun _ _ _ h => h) (by kernel_rfl) (fun w hSw => by (try dsimp only at hSw); go_simp; try rfl) (by assumption) ?_
      try simp only [Act.put, List.setIfInBounds_toArray, List.set_cons_zero, List.set_cons_succ]
      refine take_heldS (i := 6) (d := 20) rfl rfl (by kernel_rfl) (by kernel_rfl) (by kernel_rfl) (fun _ _ _ h => h) (by kernel_rfl) (fun w hSw => by (try dsimp only at hSw); go_simp; try rfl) (by assumption) ?_
      try simp only [Act.put, List.setIfInBounds_toArray, List.set_cons_zero, List.set_cons_succ]
      refine wpAnyH_ready (rs := [1, 7]) (by kernel_rfl) (by simp) ?_
      refine AllReadyH.cons rfl (fun K hK => ?_) (AllReadyH.cons rfl (fun K hK => ?_) AllReadyH.nil)
      · go_simp
        refine hK.out _ _ (by exact b0) (fun hHeld => ?_)
        clear hK K
        try simp only [Act.put, List.setIfInBounds_toArray, List.set_cons_zero, List.set_cons_succ]
        refine wpAnyH_ready (rs := [7]) (by kernel_rfl) (by simp) ?_
        refine AllReadyH.cons rfl (fun K hK => ?_) AllReadyH.nil
        go_simp
        (with_reducible refine (sCopyArch_any gi (rowN L k) (rowN L k) (rowZ L k) _ hgx HRO.out HRK.out.2 HRK.out.1).mono ?_)
        rintro e w4 ⟨g, c, rfl, ho4, hb4⟩
        have HS4 := Lib.hid (HSX.out.after hb4)
        have HO4 := Lib.hid ho4
        have HB4 := Lib.hid hb4
        have o4 : w4.cell? ⟨w.heap.size + 1 + 1, 0, none⟩ = some vR := HS4.out.out.cell (i := 0) (by omega)
        have b4 : w4.cell? ⟨w.heap.size, 0, none⟩ = some (.slice (some ⟨gA, 0, none⟩) n cA) ∧ w4.cell? ⟨gA, k, none⟩ = some (.slice (some ⟨gi, 0, none⟩) (rowN L k) (rowN L k)) := ⟨(HB4.out.cell (p := ⟨w.heap.size, 0, none⟩) (by rw [HWZ.out]; simp; omega)).trans b0.1, (HB4.out.cell (p := ⟨gA, k, none⟩) (by rw [HWZ.out]; simp; omega)).trans b0.2⟩
        refine hK.out _ _ (by exact b4) (fun hHeld => ?_)
        clear hK K
        try simp only [Act.put, List.setIfInBounds_toArray, List.set_cons_zero, List.set_cons_succ]
        refine wpAnyH_ready (rs := [8]) (by kernel_rfl) (by simp) ?_
        refine AllReadyH.cons rfl (fun K hK => ?_) AllReadyH.nil
        go_simp
        have o4 : (w4.alloc (.cells #[.slice (some ⟨g, 0, none⟩) (rowN L k) c] 41)).cell? ⟨w.heap.size + 1 + 1, 0, none⟩ = some vR := (HS4.out.out.alloc _).cell (i := 0) (by omega)
        have b4a : (w4.alloc (.cells #[.slice (some ⟨g, 0, none⟩) (rowN L k) c] 41)).cell? ⟨w.heap.size, 0, none⟩ = some (.slice (some ⟨gA, 0, none⟩) n cA) ∧ (w4.alloc (.cells #[.slice (some ⟨g, 0, none⟩) (rowN L k) c] 41)).cell? ⟨gA, k, none⟩ = some (.slice (some ⟨gi, 0, none⟩) (rowN L k) (rowN L k)) := ⟨(World.cell?_alloc_lt w4 _ ⟨w.heap.size, 0, none⟩ (show w.heap.size < w4.heap.size from by have := HB4.out.size; rw [HWZ.out] at this; omega)).trans b4.1, (World.cell?_alloc_lt w4 _ ⟨gA, k, none⟩ (show gA < w4.heap.size from by have := HB4.out.size; rw [HWZ.out] at this; omega)).trans b4.2⟩
        refine hK.out _ _ (by exact b4a) (fun hHeld => ?_)
        clear hK K
        try simp only [Act.put, List.setIfInBounds_toArray, List.set_cons_zero, List.set_cons_succ]
        refine wpAnyH_ready (rs := [9]) (by kernel_rfl) (by simp) ?_
        refine AllReadyH.cons rfl (fun K hK => ?_) AllReadyH.nil
        refine step_appCX rfl (.tmp 15) (.tmp 22) 27 rfl (w.heap.size + 3) 41 24 (.agg #[.slice none 0 0]) Try.underlying27 infoArch rfl (by decide) vR k csR rfl (by exact HS4.out.ribs.cells.alloc _) w4.heap.size 1 (.slice (some ⟨g, 0, none⟩) (rowN L k) c) rfl rfl (by exact cell_new1 _ _ _) (by omega) (by have := RowF.lt HS4.out.out; simp; omega) ?_
        intro g' cap' w5 hown5 har5
        have HN5 := Lib.hid (HS.out.pushR (wy := (w4.alloc (.cells #[.slice (some ⟨g, 0, none⟩) (rowN L k) c] 41))) (by exact (HBX.out.trans (HB4.out.mono (Nat.le_of_eq HWZ.out.symm))).alloc (by have := HB4.out.size; rw [HWZ.out] at this; omega) _) (by exact (HO4.out.lowG (Nat.le_of_eq HWZ.out.symm)).alloc _) hown5 har5)
        have d0 : w5.cell? ⟨w.heap.size + 1 + 1, 0, none⟩ = some vR := (RowF.below (HS4.out.out.alloc _) har5.below (by omega)).cell (i := 0) (by omega)
        have f0 := (RowF.below (HS4.out.out.alloc (.cells #[.slice (some ⟨g, 0, none⟩) (rowN L k) c] 41)) har5.below (by omega)).frozen 0
        have b5 : w5.cell? ⟨w.heap.size, 0, none⟩ = some (.slice (some ⟨gA, 0, none⟩) n cA) ∧ w5.cell? ⟨gA, k, none⟩ = some (.slice (some ⟨gi, 0, none⟩) (rowN L k) (rowN L k)) := ⟨(har5.below.cell (p := ⟨w.heap.size, 0, none⟩) (by simp)).trans b4a.1, (har5.below.cell (p := ⟨gA, k, none⟩) (by simp; omega)).trans b4a.2⟩
        refine hK.out _ _ (by exact b5) (fun hHeld => ?_)
        clear hK K
        try simp only [Act.put, List.setIfInBounds_toArray, List.set_cons_zero, List.set_cons_succ]
        refine take_heldS (i := 10) (d := 24) rfl rfl (by kernel_rfl) (by kernel_rfl) (by kernel_rfl) (fun _ _ _ h => h) (by kernel_rfl) (fun w hSw => by (try dsimp only at hSw); go_simp; try rfl) (by assumption) ?_
        try simp only [Act.put, List.setIfInBounds_toArray, List.set_cons_zero, List.set_cons_succ]
        refine wpAnyH_ready (rs := [11]) (by kernel_rfl) (by simp) ?_
        refine AllReadyH.cons rfl (fun K hK => ?_) AllReadyH.nil
        go_simp
        refine hK.out _ _ (by exact ⟨(World.cell?_setCell_far _ _ _ _ (by simp <;> omega)).trans b5.1, (World.cell?_setCell_far _ _ _ _ (by simp <;> omega)).trans b5.2⟩) (fun hHeld => ?_)
        clear hK K
        try simp only [Act.put, List.setIfInBounds_toArray, List.set_cons_zero, List.set_cons_succ]
        refine wpAnyH_done (by kernel_rfl) ?_ _
        clear hHeld
        go_wp2
        go_roundw
        case rel => exact ⟨k + 1, _, _, by go_num, by omega, HN5⟩
        case measure => simp [intOf]; omega
      · go_simp
        (with_reducible refine (sCopyArch_any gi (rowN L k) (rowN L k) (rowZ L k) _ hgx HRO.out HRK.out.2 HRK.out.1).mono ?_)
        rintro e w4 ⟨g, c, rfl, ho4, hb4⟩
        have HS4 := Lib.hid (HSX.out.after hb4)
        have HO4 := Lib.hid ho4
        have HB4 := Lib.hid hb4
        have o4 : w4.cell? ⟨w.heap.size + 1 + 1, 0, none⟩ = some vR := HS4.out.out.cell (i := 0) (by omega)
        have b4 : w4.cell? ⟨w.heap.size, 0, none⟩ = some (.slice (some ⟨gA, 0, none⟩) n cA) ∧ w4.cell? ⟨gA, k, none⟩ = some (.slice (some ⟨gi, 0, none⟩) (rowN L k) (rowN L k)) := ⟨(HB4.out.cell (p := ⟨w.heap.size, 0, none⟩) (by rw [HWZ.out]; simp; omega)).trans b0.1, (HB4.out.cell (p := ⟨gA, k, none⟩) (by rw [HWZ.out]; simp; omega)).trans b0.2⟩
        refine hK.out _ _ (by exact b4) (fun hHeld => ?_)
        clear hK K
        try simp only [Act.put, List.setIfInBounds_toArray, List.set_cons_zero, List.set_cons_succ]
        refine wpAnyH_ready (rs := [1, 8]) (by kernel_rfl) (by simp) ?_
        refine AllReadyH.cons rfl (fun K hK => ?_) (AllReadyH.cons rfl (fun K hK => ?_) AllReadyH.nil)
        · go_simp
          refine hK.out _ _ (by exact b4) (fun hHeld => ?_)
          clear hK K
          try simp only [Act.put, List.setIfInBounds_toArray, List.set_cons_zero, List.set_cons_succ]
          refine wpAnyH_ready (rs := [8]) (by kernel_rfl) (by simp) ?_
          refine AllReadyH.cons rfl (fun K hK => ?_) AllReadyH.nil
          go_simp
          have o4 : (w4.alloc (.cells #[.slice (some ⟨g, 0, none⟩) (rowN L k) c] 41)).cell? ⟨w.heap.size + 1 + 1, 0, none⟩ = some vR := (HS4.out.out.alloc _).cell (i := 0) (by omega)
          have b4a : (w4.alloc (.cells #[.slice (some ⟨g, 0, none⟩) (rowN L k) c] 41)).cell? ⟨w.heap.size, 0, none⟩ = some (.slice (some ⟨gA, 0, none⟩) n cA) ∧ (w4.alloc (.cells #[.slice (some ⟨g, 0, none⟩) (rowN L k) c] 41)).cell? ⟨gA, k, none⟩ = some (.slice (some ⟨gi, 0, none⟩) (rowN L k) (rowN L k)) := ⟨(World.cell?_alloc_lt w4 _ ⟨w.heap.size, 0, none⟩ (show w.heap.size < w4.heap.size from by have := HB4.out.size; rw [HWZ.out] at this; omega)).trans b4.1, (World.cell?_alloc_lt w4 _ ⟨gA, k, none⟩ (show gA < w4.heap.size from by have := HB4.out.size; rw [HWZ.out] at this; omega)).trans b4.2⟩
          refine hK.out _ _ (by exact b4a) (fun hHeld => ?_)
          clear hK K
          try simp only [Act.put, List.setIfInBounds_toArray, List.set_cons_zero, List.set_cons_succ]
          refine wpAnyH_ready (rs := [9]) (by kernel_rfl) (by simp) ?_
          refine AllReadyH.cons rfl (fun K hK => ?_) AllReadyH.nil
          refine step_appCX rfl (.tmp 15) (.tmp 22) 27 rfl (w.heap.size + 3) 41 24 (.agg #[.slice none 0 0]) Try.underlying27 infoArch rfl (by decide) vR k csR rfl (by exact HS4.out.ribs.cells.alloc _) w4.heap.size 1 (.slice (some ⟨g, 0, none⟩) (rowN L k) c) rfl rfl (by exact cell_new1 _ _ _) (by omega) (by have := RowF.lt HS4.out.out; simp; omega) ?_
          intro g' cap' w5 hown5 har5
          have HN5 := Lib.hid (HS.out.pushR (wy := (w4.alloc (.cells #[.slice (some ⟨g, 0, none⟩) (rowN L k) c] 41))) (by exact (HBX.out.trans (HB4.out.mono (Nat.le_of_eq HWZ.out.symm))).alloc (by have := HB4.out.size; rw [HWZ.out] at this; omega) _) (by exact (HO4.out.lowG (Nat.le_of_eq HWZ.out.symm)).alloc _) hown5 har5)
          have d0 : w5.cell? ⟨w.heap.size + 1 + 1, 0, none⟩ = some vR := (RowF.below (HS4.out.out.alloc _) har5.below (by omega)).cell (i := 0) (by omega)
          have f0 := (RowF.below (HS4.out.out.alloc (.cells #[.slice (some ⟨g, 0, none⟩) (rowN L k) c] 41)) har5.below (by omega)).frozen 0
          have b5 : w5.cell? ⟨w.heap.size, 0, none⟩ = some (.slice (some ⟨gA, 0, none⟩) n cA) ∧ w5.cell? ⟨gA, k, none⟩ = some (.slice (some ⟨gi, 0, none⟩) (rowN L k) (rowN L k)) := ⟨(har5.below.cell (p := ⟨w.heap.size, 0, none⟩) (by simp)).trans b4a.1, (har5.below.cell (p := ⟨gA, k, none⟩) (by simp; omega)).trans b4a.2⟩
          refine hK.out _ _ (by exact b5) (fun hHeld => ?_)
          clear hK K
          try simp only [Act.put, List.setIfInBounds_toArray, List.set_cons_zero, List.set_cons_succ]
          refine take_heldS (i := 10) (d := 24) rfl rfl (by kernel_rfl) (by kernel_rfl) (by kernel_rfl) (fun _ _ _ h => h) (by kernel_rfl) (fun w hSw => by (try dsimp only at hSw); go_simp; try rfl) (by assumption) ?_
          try simp only [Act.put, List.setIfInBounds_toArray, List.set_cons_zero, List.set_cons_succ]
          refine wpAnyH_ready (rs := [11]) (by kernel_rfl) (by simp) ?_
          refine AllReadyH.cons rfl (fun K hK => ?_) AllReadyH.nil
          go_simp
          refine hK.out _ _ (by exact ⟨(World.cell?_setCell_far _ _ _ _ (by simp <;> omega)).trans b5.1, (World.cell?_setCell_far _ _ _ _ (by simp <;> omega)).trans b5.2⟩) (fun hHeld => ?_)
          clear hK K
          try simp only [Act.put, List.setIfInBounds_toArray, List.set_cons_zero, List.set_cons_succ]
          refine wpAnyH_done (by kernel_rfl) ?_ _
          clear hHeld
          go_wp2
          go_roundw
          case rel => exact ⟨k + 1, _, _, by go_num, by omega, HN5⟩
          case measure => simp [intOf]; omega
        · go_simp
          have o4 : (w4.alloc (.cells #[.slice (some ⟨g, 0, none⟩) (rowN L k) c] 41)).cell? ⟨w.heap.size + 1 + 1, 0, none⟩ = some vR := (HS4.out.out.alloc _).cell (i := 0) (by omega)
          have b4a : (w4.alloc (.cells #[.slice (some ⟨g, 0, none⟩) (rowN L k) c] 41)).cell? ⟨w.heap.size, 0, none⟩ = some (.slice (some ⟨gA, 0, none⟩) n cA) ∧ (w4.alloc (.cells #[.slice (some ⟨g, 0, none⟩) (rowN L k) c] 41)).cell? ⟨gA, k, none⟩ = some (.slice (some ⟨gi, 0, none⟩) (rowN L k) (rowN L k)) := ⟨(World.cell?_alloc_lt w4 _ ⟨w.heap.size, 0, none⟩ (show w.heap.size < w4.heap.size from by have := HB4.out.size; rw [HWZ.out] at this; omega)).trans b4.1, (World.cell?_alloc_lt w4 _ ⟨gA, k, none⟩ (show gA < w4.heap.size from by have := HB4.out.size; rw [HWZ.out] at this; omega)).trans b4.2⟩
          refine hK.out _ _ (by exact b4a) (fun hHeld => ?_)
          clear hK K
          try simp only [Act.put, List.setIfInBounds_toArray, List.set_cons_zero, List.set_cons_succ]
          refine wpAnyH_ready (rs := [1]) (by kernel_rfl) (by simp) ?_
          refine AllReadyH.cons rfl (fun K hK => ?_) AllReadyH.nil
          go_simp
          refine hK.out _ _ (by exact b4a) (fun hHeld => ?_)
          clear hK K
          try simp only [Act.put, List.setIfInBounds_toArray, List.set_cons_zero, List.set_cons_succ]
          refine wpAnyH_ready (rs := [9]) (by kernel_rfl) (by simp) ?_
          refine AllReadyH.cons rfl (fun K hK => ?_) AllReadyH.nil
          refine step_appCX rfl (.tmp 15) (.tmp 22) 27 rfl (w.heap.size + 3) 41 24 (.agg #[.slice none 0 0]) Try.underlying27 infoArch rfl (by decide) vR k csR rfl (by exact HS4.out.ribs.cells.alloc _) w4.heap.size 1 (.slice (some ⟨g, 0, none⟩) (rowN L k) c) rfl rfl (by exact cell_new1 _ _ _) (by omega) (by have := RowF.lt HS4.out.out; simp; omega) ?_
          intro g' cap' w5 hown5 har5
          have HN5 := Lib.hid (HS.out.pushR (wy := (w4.alloc (.cells #[.slice (some ⟨g, 0, none⟩) (rowN L k) c] 41))) (by exact (HBX.out.trans (HB4.out.mono (Nat.le_of_eq HWZ.out.symm))).alloc (by have := HB4.out.size; rw [HWZ.out] at this; omega) _) (by exact (HO4.out.lowG (Nat.le_of_eq HWZ.out.symm)).alloc _) hown5 har5)
          have d0 : w5.cell? ⟨w.heap.size + 1 + 1, 0, none⟩ = some vR := (RowF.below (HS4.out.out.alloc _) har5.below (by omega)).cell (i := 0) (by omega)
          have f0 := (RowF.below (HS4.out.out.alloc (.cells #[.slice (some ⟨g, 0, none⟩) (rowN L k) c] 41)) har5.below (by omega)).frozen 0
          have b5 : w5.cell? ⟨w.heap.size, 0, none⟩ = some (.slice (some ⟨gA, 0, none⟩) n cA) ∧ w5.cell? ⟨gA, k, none⟩ = some (.slice (some ⟨gi, 0, none⟩) (rowN L k) (rowN L k)) := ⟨(har5.below.cell (p := ⟨w.heap.size, 0, none⟩) (by simp)).trans b4a.1, (har5.below.cell (p := ⟨gA, k, none⟩) (by simp; omega)).trans b4a.2⟩
          refine hK.out _ _ (by exact b5) (fun hHeld => ?_)
          clear hK K
          try simp only [Act.put, List.setIfInBounds_toArray, List.set_cons_zero, List.set_cons_succ]
          refine take_heldS (i := 10) (d := 24) rfl rfl (by kernel_rfl) (by kernel_rfl) (by kernel_rfl) (fun _ _ _ h => h) (by kernel_rfl) (fun w hSw => by (try dsimp only at hSw); go_simp; try rfl) (by assumption) ?_
          try simp only [Act.put, List.setIfInBounds_toArray, List.set_cons_zero, List.set_cons_succ]
          refine wpAnyH_ready (rs := [11]) (by kernel_rfl) (by simp) ?_
          refine AllReadyH.cons rfl (fun K hK => ?_) AllReadyH.nil
          go_simp
          refine hK.out _ _ (by exact ⟨(World.cell?_setCell_far _ _ _ _ (by simp <;> omega)).trans b5.1, (World.cell?_setCell_far _ _ _ _ (by simp <;> omega)).trans b5.2⟩) (fun hHeld => ?_)
          clear hK K
          try simp only [Act.put, List.setIfInBounds_toArray, List.set_cons_zero, List.set_cons_succ]
          refine wpAnyH_done (by kernel_rfl) ?_ _
          clear hHeld
          go_wp2
          go_roundw
          case rel => exact ⟨k + 1, _, _, by go_num, by omega, HN5⟩
          case measure => simp [intOf]; omega
    · obtain rfl : n = k := by omega
      have kn : ¬ (n : Int) < (n : Int) := by omega
      go_wp2
      clear a0
      go_loopw [5] (fun v5 wr => ∃ (k : Nat) (vL : Value) (csL : List Value), v5 = .int .i64 k ∧ k ≤ q ∧ Hid (CvSt w wr gA n cA gB q cB L M vR vL n csR k csL)) (fun v5 _ => q - (intOf v5).toNat)
      case atStart => exact ⟨0, _, _, rfl, Nat.zero_le _, HS⟩
      case round =>
        clear HS h3
        obtain ⟨k, vL, csL, rfl, hk, HS⟩ := hrel
        have h3 := RowF.lt HS.out.out
        have a1 : wr.cell? ⟨w.heap.size, 1, none⟩ = some (.slice (some ⟨gB, 0, none⟩) q cB) := HS.out.arg.cell (i := 1) (by omega)
        by_cases hlt : k < q
        · have kn : (k : Int) < (q : Int) := by omega
          have k0 : (0 : Int) ≤ (k : Int) := by omega
          have ek : IntKind.i64.wrap ((k : Int) + 1) = (k : Int) + 1 := IntWalk.i64_in _ (by omega)
          have hBw := HB.out.after HS.out.below
          have hgB : gB < wr.heap.size := hBw.lt
          have hgBw : gB < w.heap.size := HB.out.lt
          obtain ⟨gi, hcell, hgi, hrow⟩ := hBw.get2 hlt
          have HRO : Hid (∀ j, j < rowN M k * 3 → (wr.drew.alloc (.cells #[] 69)).cell? ⟨gi, j, none⟩ = some (.int .i64 (nth (rowZ M k) j))) := Lib.hid (fun j hj => (World.cell?_alloc_lt wr.drew _ ⟨gi, j, none⟩ (by exact hgi)).trans (hrow j hj))
          have HSX := Lib.hid (HS.out.after (below_dr2 (Below.refl wr.heap.size wr)))
          have HRK := Lib.hid (And.intro (HT.out.1 k hlt) (HT.out.2 k hlt))
          have o0 : wr.drew.cell? ⟨w.heap.size + 1 + 1, 1, none⟩ = some vL := HSX.out.out.cell (i := 1) (by omega)
          have b0 : wr.drew.cell? ⟨w.heap.size, 1, none⟩ = some (.slice (some ⟨gB, 0, none⟩) q cB) ∧ wr.drew.cell? ⟨gB, k, none⟩ = some (.slice (some ⟨gi, 0, none⟩) (rowN M k) (rowN M k)) := ⟨a1, hcell⟩
          have HBX : Hid (Below wr.heap.size wr (wr.drew.alloc (.cells #[] 69))) := Lib.hid ((below_dr2 (Below.refl wr.heap.size wr)).alloc (Nat.le_refl _) _)
          have HOX : Hid (OwnR (wr.drew.alloc (.cells #[] 69)) wr.heap.size 69 3 (.slice (some ⟨wr.heap.size, 0, none⟩) 0 0) 0 []) := Lib.hid (OwnR.new wr.drew 69 3)
          clear hrow hBw
          go_wp2
          refine wp_region_held_drew (S := fun w' => w'.cell? ⟨w.heap.size, 1, none⟩ = some (.slice (some ⟨gB, 0, none⟩) q cB) ∧ w'.cell? ⟨gB, k, none⟩ = some (.slice (some ⟨gi, 0, none⟩) (rowN M k) (rowN M k))) (by kernel_rfl) (by exact b0) (fun hHeld => ?_)
          refine take_heldS (i := 0) (d := 32) rfl rfl (by kernel_rfl) (by kernel_rfl) (by kernel_rfl) (fun _ _ _ h => h) (by kernel_rfl) (fun w hSw => by (try dsimp only at hSw); go_simp; try rfl) (by assumption) ?_
          try simp only [Act.put, List.setIfInBounds_toArray, List.set_cons_zero, List.set_cons_succ]
          refine take_heldS (i := 3) (d := 35) rfl rfl (by kernel_rfl) (by kernel_rfl) (by kernel_rfl) (fun _ _ _ h => h) (by kernel_rfl) (fun w hSw => by (try dsimp only at hSw); go_simp; try rfl) (by assumption) ?_
          try simp only [Act.put, List.setIfInBounds_toArray, List.set_cons_zero, List.set_cons_succ]
          refine take_heldS (i := 4) (d := 36) rfl rfl (by kernel_rfl) (by kernel_rfl) (by kernel_rfl) (fun _ _ _ h => h) (by kernel_rfl) (fun w hSw => by (try dsimp only at hSw); go_simp; try rfl) (by assumption) ?_
          try simp only [Act.put, List.setIfInBounds_toArray, List.set_cons_zero, List.set_cons_succ]
          refine take_heldS (i := 5) (d := 37) rfl rfl (by kernel_rfl) (by kernel_rfl) (by kernel_rfl) (fun _ _ _ h => h) (by kernel_rfl) (fun w hSw => by (try dsimp only at hSw); go_simp; try rfl) (by assumption) ?_
          try simp only [Act.put, List.setIfInBounds_toArray, List.set_cons_zero, List.set_cons_succ]
          refine take_heldS (i := 6) (d := 38) rfl rfl (by kernel_rfl) (by kernel_rfl) (by kernel_rfl) (fun _ _ _ h => h) (by kernel_rfl) (fun w hSw => by (try dsimp only at hSw); go_simp; try rfl) (by assumption) ?_
          try simp only [Act.put, List.setIfInBounds_toArray, List.set_cons_zero, List.set_cons_succ]
          refine take_heldS (i := 7) (d := 39) rfl rfl (by kernel_rfl) (by kernel_rfl) (by kernel_rfl) (fun _ _ _ h => h) (by kernel_rfl) (fun w hSw => by (try dsimp only at hSw); go_simp; try rfl) (by assumption) ?_
          try simp only [Act.put, List.setIfInBounds_toArray, List.set_cons_zero, List.set_cons_succ]
          refine wpAnyH_ready (rs := [1, 2]) (by kernel_rfl) (by simp) ?_
          refine AllReadyH.cons rfl (fun K hK => ?_) (AllReadyH.cons rfl (fun K hK => ?_) AllReadyH.nil)
          · go_simp
            refine hK.out _ _ (by exact b0) (fun hHeld => ?_)
            clear hK K
            try simp only [Act.put, List.setIfInBounds_toArray, List.set_cons_zero, List.set_cons_succ]
            refine wpAnyH_ready (rs := [2]) (by kernel_rfl) (by simp) ?_
            refine AllReadyH.cons rfl (fun K hK => ?_) AllReadyH.nil
            go_simp
            have o2 : (wr.alloc (.cells #[] 69)).drew.cell? ⟨w.heap.size + 1 + 1, 1, none⟩ = some vL := (HSX.out.out.alloc _).cell (i := 1) (by omega)
            have b2 : (wr.alloc (.cells #[] 69)).drew.cell? ⟨w.heap.size, 1, none⟩ = some (.slice (some ⟨gB, 0, none⟩) q cB) ∧ (wr.alloc (.cells #[] 69)).drew.cell? ⟨gB, k, none⟩ = some (.slice (some ⟨gi, 0, none⟩) (rowN M k) (rowN M k)) := ⟨(World.cell?_alloc_lt wr.drew _ ⟨w.heap.size, 1, none⟩ (show w.heap.size < wr.heap.size from by omega)).trans b0.1, (World.cell?_alloc_lt wr.drew _ ⟨gB, k, none⟩ (show gB < wr.heap.size from by omega)).trans b0.2⟩
            refine hK.out _ _ (by exact b2) (fun hHeld => ?_)
            clear hK K
            try simp only [Act.put, List.setIfInBounds_toArray, List.set_cons_zero, List.set_cons_succ]
            refine wpAnyH_ready (rs := [8]) (by kernel_rfl) (by simp) ?_
            refine AllReadyH.cons rfl (fun K hK => ?_) AllReadyH.nil
            refine step_appRX rfl (.tmp 34) (.tmp 39) 42 rfl wr.heap.size 69 3 24 #[.int .i64 0, .int .i64 0, .int .i64 0] Try.underlying42 infoLoad rfl (by decide) (by decide) (.slice (some ⟨wr.heap.size, 0, none⟩) 0 0) 0 [] rfl (by exact HOX.out) gi (rowN M k) (rowN M k) (rowZ M k) rfl HRK.out.2 (by exact HRO.out) (by have := HRK.out.1; omega) (by simp) (by simp) ?_
            intro g c w6 hown6 har6
            simp only [Nat.zero_add, List.nil_append] at hown6 ⊢
            have HB6 := Lib.hid (HBX.out.trans har6.below)
            have HS6 := Lib.hid (HS.out.after HB6.out)
            have HO6 := Lib.hid hown6
            have HZ6 : Hid (wr.heap.size ≤ w6.heap.size) := Lib.hid HB6.out.size
            have o6 : w6.cell? ⟨w.heap.size + 1 + 1, 1, none⟩ = some vL := HS6.out.out.cell (i := 1) (by omega)
            have b6 : w6.cell? ⟨w.heap.size, 1, none⟩ = some (.slice (some ⟨gB, 0, none⟩) q cB) ∧ w6.cell? ⟨gB, k, none⟩ = some (.slice (some ⟨gi, 0, none⟩) (rowN M k) (rowN M k)) := ⟨(har6.below.cell (p := ⟨w.heap.size, 1, none⟩) (by simp; omega)).trans b2.1, (har6.below.cell (p := ⟨gB, k, none⟩) (by simp; omega)).trans b2.2⟩
            refine hK.out _ _ (by exact b6) (fun hHeld => ?_)
            clear hK K
            try simp only [Act.put, List.setIfInBounds_toArray, List.set_cons_zero, List.set_cons_succ]
            refine wpAnyH_ready (rs := [9]) (by kernel_rfl) (by simp) ?_
            refine AllReadyH.cons rfl (fun K hK => ?_) AllReadyH.nil
            go_simp
            have o7 : (w6.alloc (.cells #[.slice (some ⟨g, 0, none⟩) (rowN M k) c] 42)).cell? ⟨w.heap.size + 1 + 1, 1, none⟩ = some vL := (HS6.out.out.alloc _).cell (i := 1) (by omega)
            have b7 : (w6.alloc (.cells #[.slice (some ⟨g, 0, none⟩) (rowN M k) c] 42)).cell? ⟨w.heap.size, 1, none⟩ = some (.slice (some ⟨gB, 0, none⟩) q cB) ∧ (w6.alloc (.cells #[.slice (some ⟨g, 0, none⟩) (rowN M k) c] 42)).cell? ⟨gB, k, none⟩ = some (.slice (some ⟨gi, 0, none⟩) (rowN M k) (rowN M k)) := ⟨(World.cell?_alloc_lt w6 _ ⟨w.heap.size, 1, none⟩ (show w.heap.size < w6.heap.size from by have := HZ6.out; omega)).trans b6.1, (World.cell?_alloc_lt w6 _ ⟨gB, k, none⟩ (show gB < w6.heap.size from by have := HZ6.out; omega)).trans b6.2⟩
            refine hK.out _ _ (by exact b7) (fun hHeld => ?_)
            clear hK K
            try simp only [Act.put, List.setIfInBounds_toArray, List.set_cons_zero, List.set_cons_succ]
            refine wpAnyH_ready (rs := [10]) (by kernel_rfl) (by simp) ?_
            refine AllReadyH.cons rfl (fun K hK => ?_) AllReadyH.nil
            refine step_appCX rfl (.tmp 33) (.tmp 41) 28 rfl (w.heap.size + 3) 42 24 (.slice none 0 0) Try.underlying28 infoLLoadS rfl (by decide) vL k csL rfl (by exact HS6.out.loads.cells.alloc _) w6.heap.size 1 (.slice (some ⟨g, 0, none⟩) (rowN M k) c) rfl rfl (by exact cell_new1 _ _ _) (by omega) (by have := RowF.lt HS6.out.out; simp; omega) ?_
            intro g' cap' w5 hown5 har5
            have HN5 := Lib.hid (HS.out.pushL (wy := (w6.alloc (.cells #[.slice (some ⟨g, 0, none⟩) (rowN M k) c] 42))) (by exact HB6.out.alloc HZ6.out _) (by exact HO6.out.alloc _) hown5 har5)
            have d0 : w5.cell? ⟨w.heap.size + 1 + 1, 1, none⟩ = some vL := (RowF.below (HS6.out.out.alloc _) har5.below (by omega)).cell (i := 1) (by omega)
            have f0 := (RowF.below (HS6.out.out.alloc (.cells #[.slice (some ⟨g, 0, none⟩) (rowN M k) c] 42)) har5.below (by omega)).frozen 1
            have b5 : w5.cell? ⟨w.heap.size, 1, none⟩ = some (.slice (some ⟨gB, 0, none⟩) q cB) ∧ w5.cell? ⟨gB, k, none⟩ = some (.slice (some ⟨gi, 0, none⟩) (rowN M k) (rowN M k)) := ⟨(har5.below.cell (p := ⟨w.heap.size, 1, none⟩) (by simp)).trans b7.1, (har5.below.cell (p := ⟨gB, k, none⟩) (by simp; omega)).trans b7.2⟩
            refine hK.out _ _ (by exact b5) (fun hHeld => ?_)
            clear hK K
            try simp only [Act.put, List.setIfInBounds_toArray, List.set_cons_zero, List.set_cons_succ]
            refine take_heldS (i := 11) (d := 43) rfl rfl (by kernel_rfl) (by kernel_rfl) (by kernel_rfl) (fun _ _ _ h => h) (by kernel_rfl) (fun w hSw => by (try dsimp only at hSw); go_simp; try rfl) (by assumption) ?_
            try simp only [Act.put, List.setIfInBounds_toArray, List.set_cons_zero, List.set_cons_succ]
            refine wpAnyH_ready (rs := [12]) (by kernel_rfl) (by simp) ?_
            refine AllReadyH.cons rfl (fun K hK => ?_) AllReadyH.nil
            go_simp
            refine hK.out _ _ (by exact ⟨(World.cell?_setCell_far _ _ _ _ (by simp <;> omega)).trans b5.1, (World.cell?_setCell_far _ _ _ _ (by simp <;> omega)).trans b5.2⟩) (fun hHeld => ?_)
            clear hK K
            try simp only [Act.put, List.setIfInBounds_toArray, List.set_cons_zero, List.set_cons_succ]
            refine wpAnyH_done (by kernel_rfl) ?_ _
            clear hHeld
            go_wp2
            go_roundw
            case rel => exact ⟨k + 1, _, _, by go_num, by omega, HN5⟩
            case measure => simp [intOf]; omega
          · go_simp
            have o2 : (wr.alloc (.cells #[] 69)).drew.cell? ⟨w.heap.size + 1 + 1, 1, none⟩ = some vL := (HSX.out.out.alloc _).cell (i := 1) (by omega)
            have b2 : (wr.alloc (.cells #[] 69)).drew.cell? ⟨w.heap.size, 1, none⟩ = some (.slice (some ⟨gB, 0, none⟩) q cB) ∧ (wr.alloc (.cells #[] 69)).drew.cell? ⟨gB, k, none⟩ = some (.slice (some ⟨gi, 0, none⟩) (rowN M k) (rowN M k)) := ⟨(World.cell?_alloc_lt wr.drew _ ⟨w.heap.size, 1, none⟩ (show w.heap.size < wr.heap.size from by omega)).trans b0.1, (World.cell?_alloc_lt wr.drew _ ⟨gB, k, none⟩ (show gB < wr.heap.size from by omega)).trans b0.2⟩
            refine hK.out _ _ (by exact b2) (fun hHeld => ?_)
            clear hK K
            try simp only [Act.put, List.setIfInBounds_toArray, List.set_cons_zero, List.set_cons_succ]
            refine wpAnyH_ready (rs := [1, 8]) (by kernel_rfl) (by simp) ?_
            refine AllReadyH.cons rfl (fun K hK => ?_) (AllReadyH.cons rfl (fun K hK => ?_) AllReadyH.nil)
            · go_simp
              refine hK.out _ _ (by exact b2) (fun hHeld => ?_)
              clear hK K
              try simp only [Act.put, List.setIfInBounds_toArray, List.set_cons_zero, List.set_cons_succ]
              refine wpAnyH_ready (rs := [8]) (by kernel_rfl) (by simp) ?_
              refine AllReadyH.cons rfl (fun K hK => ?_) AllReadyH.nil
              refine step_appRX rfl (.tmp 34) (.tmp 39) 42 rfl wr.heap.size 69 3 24 #[.int .i64 0, .int .i64 0, .int .i64 0] Try.underlying42 infoLoad rfl (by decide) (by decide) (.slice (some ⟨wr.heap.size, 0, none⟩) 0 0) 0 [] rfl (by exact HOX.out) gi (rowN M k) (rowN M k) (rowZ M k) rfl HRK.out.2 (by exact HRO.out) (by have := HRK.out.1; omega) (by simp) (by simp) ?_
              intro g c w6 hown6 har6
              simp only [Nat.zero_add, List.nil_append] at hown6 ⊢
              have HB6 := Lib.hid (HBX.out.trans har6.below)
              have HS6 := Lib.hid (HS.out.after HB6.out)
              have HO6 := Lib.hid hown6
              have HZ6 : Hid (wr.heap.size ≤ w6.heap.size) := Lib.hid HB6.out.size
              have o6 : w6.cell? ⟨w.heap.size + 1 + 1, 1, none⟩ = some vL := HS6.out.out.cell (i := 1) (by omega)
              have b6 : w6.cell? ⟨w.heap.size, 1, none⟩ = some (.slice (some ⟨gB, 0, none⟩) q cB) ∧ w6.cell? ⟨gB, k, none⟩ = some (.slice (some ⟨gi, 0, none⟩) (rowN M k) (rowN M k)) := ⟨(har6.below.cell (p := ⟨w.heap.size, 1, none⟩) (by simp; omega)).trans b2.1, (har6.below.cell (p := ⟨gB, k, none⟩) (by simp; omega)).trans b2.2⟩
              refine hK.out _ _ (by exact b6) (fun hHeld => ?_)
              clear hK K
              try simp only [Act.put, List.setIfInBounds_toArray, List.set_cons_zero, List.set_cons_succ]
              refine wpAnyH_ready (rs := [9]) (by kernel_rfl) (by simp) ?_
              refine AllReadyH.cons rfl (fun K hK => ?_) AllReadyH.nil
              go_simp
              have o7 : (w6.alloc (.cells #[.slice (some ⟨g, 0, none⟩) (rowN M k) c] 42)).cell? ⟨w.heap.size + 1 + 1, 1, none⟩ = some vL := (HS6.out.out.alloc _).cell (i := 1) (by omega)
              have b7 : (w6.alloc (.cells #[.slice (some ⟨g, 0, none⟩) (rowN M k) c] 42)).cell? ⟨w.heap.size, 1, none⟩ = some (.slice (some ⟨gB, 0, none⟩) q cB) ∧ (w6.alloc (.cells #[.slice (some ⟨g, 0, none⟩) (rowN M k) c] 42)).cell? ⟨gB, k, none⟩ = some (.slice (some ⟨gi, 0, none⟩) (rowN M k) (rowN M k)) := ⟨(World.cell?_alloc_lt w6 _ ⟨w.heap.size, 1, none⟩ (show w.heap.size < w6.heap.size from by have := HZ6.out; omega)).trans b6.1, (World.cell?_alloc_lt w6 _ ⟨gB, k, none⟩ (show gB < w6.heap.size from by have := HZ6.out; omega)).trans b6.2⟩
              refine hK.out _ _ (by exact b7) (fun hHeld => ?_)
              clear hK K
              try simp only [Act.put, List.setIfInBounds_toArray, List.set_cons_zero, List.set_cons_succ]
              refine wpAnyH_ready (rs := [10]) (by kernel_rfl) (by simp) ?_
              refine AllReadyH.cons rfl (fun K hK => ?_) AllReadyH.nil
              refine step_appCX rfl (.tmp 33) (.tmp 41) 28 rfl (w.heap.size + 3) 42 24 (.slice none 0 0) Try.underlying28 infoLLoadS rfl (by decide) vL k csL rfl (by exact HS6.out.loads.cells.alloc _) w6.heap.size 1 (.slice (some ⟨g, 0, none⟩) (rowN M k) c) rfl rfl (by exact cell_new1 _ _ _) (by omega) (by have := RowF.lt HS6.out.out; simp; omega) ?_
              intro g' cap' w5 hown5 har5
              have HN5 := Lib.hid (HS.out.pushL (wy := (w6.alloc (.cells #[.slice (some ⟨g, 0, none⟩) (rowN M k) c] 42))) (by exact HB6.out.alloc HZ6.out _) (by exact HO6.out.alloc _) hown5 har5)
              have d0 : w5.cell? ⟨w.heap.size + 1 + 1, 1, none⟩ = some vL := (RowF.below (HS6.out.out.alloc _) har5.below (by omega)).cell (i := 1) (by omega)
              have f0 := (RowF.below (HS6.out.out.alloc (.cells #[.slice (some ⟨g, 0, none⟩) (rowN M k) c] 42)) har5.below (by omega)).frozen 1
              have b5 : w5.cell? ⟨w.heap.size, 1, none⟩ = some (.slice (some ⟨gB, 0, none⟩) q cB) ∧ w5.cell? ⟨gB, k, none⟩ = some (.slice (some ⟨gi, 0, none⟩) (rowN M k) (rowN M k)) := ⟨(har5.below.cell (p := ⟨w.heap.size, 1, none⟩) (by simp)).trans b7.1, (har5.below.cell (p := ⟨gB, k, none⟩) (by simp; omega)).trans b7.2⟩
              refine hK.out _ _ (by exact b5) (fun hHeld => ?_)
              clear hK K
              try simp only [Act.put, List.setIfInBounds_toArray, List.set_cons_zero, List.set_cons_succ]
              refine take_heldS (i := 11) (d := 43) rfl rfl (by kernel_rfl) (by kernel_rfl) (by kernel_rfl) (fun _ _ _ h => h) (by kernel_rfl) (fun w hSw => by (try dsimp only at hSw); go_simp; try rfl) (by assumption) ?_
              try simp only [Act.put, List.setIfInBounds_toArray, List.set_cons_zero, List.set_cons_succ]
              refine wpAnyH_ready (rs := [12]) (by kernel_rfl) (by simp) ?_
              refine AllReadyH.cons rfl (fun K hK => ?_) AllReadyH.nil
              go_simp
              refine hK.out _ _ (by exact ⟨(World.cell?_setCell_far _ _ _ _ (by simp <;> omega)).trans b5.1, (World.cell?_setCell_far _ _ _ _ (by simp <;> omega)).trans b5.2⟩) (fun hHeld => ?_)
              clear hK K
              try simp only [Act.put, List.setIfInBounds_toArray, List.set_cons_zero, List.set_cons_succ]
              refine wpAnyH_done (by kernel_rfl) ?_ _
              clear hHeld
              go_wp2
              go_roundw
              case rel => exact ⟨k + 1, _, _, by go_num, by omega, HN5⟩
              case measure => simp [intOf]; omega
            · refine step_appRX rfl (.tmp 34) (.tmp 39) 42 rfl wr.heap.size 69 3 24 #[.int .i64 0, .int .i64 0, .int .i64 0] Try.underlying42 infoLoad rfl (by decide) (by decide) (.slice (some ⟨wr.heap.size, 0, none⟩) 0 0) 0 [] rfl (by exact HOX.out) gi (rowN M k) (rowN M k) (rowZ M k) rfl HRK.out.2 (by exact HRO.out) (by have := HRK.out.1; omega) (by simp) (by simp) ?_
              intro g c w6 hown6 har6
              simp only [Nat.zero_add, List.nil_append] at hown6 ⊢
              have HB6 := Lib.hid (HBX.out.trans har6.below)
              have HS6 := Lib.hid (HS.out.after HB6.out)
              have HO6 := Lib.hid hown6
              have HZ6 : Hid (wr.heap.size ≤ w6.heap.size) := Lib.hid HB6.out.size
              have o6 : w6.cell? ⟨w.heap.size + 1 + 1, 1, none⟩ = some vL := HS6.out.out.cell (i := 1) (by omega)
              have b6 : w6.cell? ⟨w.heap.size, 1, none⟩ = some (.slice (some ⟨gB, 0, none⟩) q cB) ∧ w6.cell? ⟨gB, k, none⟩ = some (.slice (some ⟨gi, 0, none⟩) (rowN M k) (rowN M k)) := ⟨(har6.below.cell (p := ⟨w.heap.size, 1, none⟩) (by simp; omega)).trans b2.1, (har6.below.cell (p := ⟨gB, k, none⟩) (by simp; omega)).trans b2.2⟩
              refine hK.out _ _ (by exact b6) (fun hHeld => ?_)
              clear hK K
              try simp only [Act.put, List.setIfInBounds_toArray, List.set_cons_zero, List.set_cons_succ]
              refine wpAnyH_ready (rs := [1, 9]) (by kernel_rfl) (by simp) ?_
              refine AllReadyH.cons rfl (fun K hK => ?_) (AllReadyH.cons rfl (fun K hK => ?_) AllReadyH.nil)
              · go_simp
                refine hK.out _ _ (by exact b6) (fun hHeld => ?_)
                clear hK K
                try simp only [Act.put, List.setIfInBounds_toArray, List.set_cons_zero, List.set_cons_succ]
                refine wpAnyH_ready (rs := [9]) (by kernel_rfl) (by simp) ?_
                refine AllReadyH.cons rfl (fun K hK => ?_) AllReadyH.nil
                go_simp
                have o7 : (w6.alloc (.cells #[.slice (some ⟨g, 0, none⟩) (rowN M k) c] 42)).cell? ⟨w.heap.size + 1 + 1, 1, none⟩ = some vL := (HS6.out.out.alloc _).cell (i := 1) (by omega)
                have b7 : (w6.alloc (.cells #[.slice (some ⟨g, 0, none⟩) (rowN M k) c] 42)).cell? ⟨w.heap.size, 1, none⟩ = some (.slice (some ⟨gB, 0, none⟩) q cB) ∧ (w6.alloc (.cells #[.slice (some ⟨g, 0, none⟩) (rowN M k) c] 42)).cell? ⟨gB, k, none⟩ = some (.slice (some ⟨gi, 0, none⟩) (rowN M k) (rowN M k)) := ⟨(World.cell?_alloc_lt w6 _ ⟨w.heap.size, 1, none⟩ (show w.heap.size < w6.heap.size from by have := HZ6.out; omega)).trans b6.1, (World.cell?_alloc_lt w6 _ ⟨gB, k, none⟩ (show gB < w6.heap.size from by have := HZ6.out; omega)).trans b6.2⟩
                refine hK.out _ _ (by exact b7) (fun hHeld => ?_)
                clear hK K
                try simp only [Act.put, List.setIfInBounds_toArray, List.set_cons_zero, List.set_cons_succ]
                refine wpAnyH_ready (rs := [10]) (by kernel_rfl) (by simp) ?_
                refine AllReadyH.cons rfl (fun K hK => ?_) AllReadyH.nil
                refine step_appCX rfl (.tmp 33) (.tmp 41) 28 rfl (w.heap.size + 3) 42 24 (.slice none 0 0) Try.underlying28 infoLLoadS rfl (by decide) vL k csL rfl (by exact HS6.out.loads.cells.alloc _) w6.heap.size 1 (.slice (some ⟨g, 0, none⟩) (rowN M k) c) rfl rfl (by exact cell_new1 _ _ _) (by omega) (by have := RowF.lt HS6.out.out; simp; omega) ?_
                intro g' cap' w5 hown5 har5
                have HN5 := Lib.hid (HS.out.pushL (wy := (w6.alloc (.cells #[.slice (some ⟨g, 0, none⟩) (rowN M k) c] 42))) (by exact HB6.out.alloc HZ6.out _) (by exact HO6.out.alloc _) hown5 har5)
                have d0 : w5.cell? ⟨w.heap.size + 1 + 1, 1, none⟩ = some vL := (RowF.below (HS6.out.out.alloc _) har5.below (by omega)).cell (i := 1) (by omega)
                have f0 := (RowF.below (HS6.out.out.alloc (.cells #[.slice (some ⟨g, 0, none⟩) (rowN M k) c] 42)) har5.below (by omega)).frozen 1
                have b5 : w5.cell? ⟨w.heap.size, 1, none⟩ = some (.slice (some ⟨gB, 0, none⟩) q cB) ∧ w5.cell? ⟨gB, k, none⟩ = some (.slice (some ⟨gi, 0, none⟩) (rowN M k) (rowN M k)) := ⟨(har5.below.cell (p := ⟨w.heap.size, 1, none⟩) (by simp)).trans b7.1, (har5.below.cell (p := ⟨gB, k, none⟩) (by simp; omega)).trans b7.2⟩
                refine hK.out _ _ (by exact b5) (fun hHeld => ?_)
                clear hK K
                try simp only [Act.put, List.setIfInBounds_toArray, List.set_cons_zero, List.set_cons_succ]
                refine take_heldS (i := 11) (d := 43) rfl rfl (by kernel_rfl) (by kernel_rfl) (by kernel_rfl) (fun _ _ _ h => h) (by kernel_rfl) (fun w hSw => by (try dsimp only at hSw); go_simp; try rfl) (by assumption) ?_
                try simp only [Act.put, List.setIfInBounds_toArray, List.set_cons_zero, List.set_cons_succ]
                refine wpAnyH_ready (rs := [12]) (by kernel_rfl) (by simp) ?_
                refine AllReadyH.cons rfl (fun K hK => ?_) AllReadyH.nil
                go_simp
                refine hK.out _ _ (by exact ⟨(World.cell?_setCell_far _ _ _ _ (by simp <;> omega)).trans b5.1, (World.cell?_setCell_far _ _ _ _ (by simp <;> omega)).trans b5.2⟩) (fun hHeld => ?_)
                clear hK K
                try simp only [Act.put, List.setIfInBounds_toArray, List.set_cons_zero, List.set_cons_succ]
                refine wpAnyH_done (by kernel_rfl) ?_ _
                clear hHeld
                go_wp2
                go_roundw
                case rel => exact ⟨k + 1, _, _, by go_num, by omega, HN5⟩
                case measure => simp [intOf]; omega
              · go_simp
                have o7 : (w6.alloc (.cells #[.slice (some ⟨g, 0, none⟩) (rowN M k) c] 42)).cell? ⟨w.heap.size + 1 + 1, 1, none⟩ = some vL := (HS6.out.out.alloc _).cell (i := 1) (by omega)
                have b7 : (w6.alloc (.cells #[.slice (some ⟨g, 0, none⟩) (rowN M k) c] 42)).cell? ⟨w.heap.size, 1, none⟩ = some (.slice (some ⟨gB, 0, none⟩) q cB) ∧ (w6.alloc (.cells #[.slice (some ⟨g, 0, none⟩) (rowN M k) c] 42)).cell? ⟨gB, k, none⟩ = some (.slice (some ⟨gi, 0, none⟩) (rowN M k) (rowN M k)) := ⟨(World.cell?_alloc_lt w6 _ ⟨w.heap.size, 1, none⟩ (show w.heap.size < w6.heap.size from by have := HZ6.out; omega)).trans b6.1, (World.cell?_alloc_lt w6 _ ⟨gB, k, none⟩ (show gB < w6.heap.size from by have := HZ6.out; omega)).trans b6.2⟩
                refine hK.out _ _ (by exact b7) (fun hHeld => ?_)
                clear hK K
                try simp only [Act.put, List.setIfInBounds_toArray, List.set_cons_zero, List.set_cons_succ]
                refine wpAnyH_ready (rs := [1]) (by kernel_rfl) (by simp) ?_
                refine AllReadyH.cons rfl (fun K hK => ?_) AllReadyH.nil
                go_simp
                refine hK.out _ _ (by exact b7) (fun hHeld => ?_)
                clear hK K
                try simp only [Act.put, List.setIfInBounds_toArray, List.set_cons_zero, List.set_cons_succ]
                refine wpAnyH_ready (rs := [10]) (by kernel_rfl) (by simp) ?_
                refine AllReadyH.cons rfl (fun K hK => ?_) AllReadyH.nil
                refine step_appCX rfl (.tmp 33) (.tmp 41) 28 rfl (w.heap.size + 3) 42 24 (.slice none 0 0) Try.underlying28 infoLLoadS rfl (by decide) vL k csL rfl (by exact HS6.out.loads.cells.alloc _) w6.heap.size 1 (.slice (some ⟨g, 0, none⟩) (rowN M k) c) rfl rfl (by exact cell_new1 _ _ _) (by omega) (by have := RowF.lt HS6.out.out; simp; omega) ?_
                intro g' cap' w5 hown5 har5
                have HN5 := Lib.hid (HS.out.pushL (wy := (w6.alloc (.cells #[.slice (some ⟨g, 0, none⟩) (rowN M k) c] 42))) (by exact HB6.out.alloc HZ6.out _) (by exact HO6.out.alloc _) hown5 har5)
                have d0 : w5.cell? ⟨w.heap.size + 1 + 1, 1, none⟩ = some vL := (RowF.below (HS6.out.out.alloc _) har5.below (by omega)).cell (i := 1) (by omega)
                have f0 := (RowF.below (HS6.out.out.alloc (.cells #[.slice (some ⟨g, 0, none⟩) (rowN M k) c] 42)) har5.below (by omega)).frozen 1
                have b5 : w5.cell? ⟨w.heap.size, 1, none⟩ = some (.slice (some ⟨gB, 0, none⟩) q cB) ∧ w5.cell? ⟨gB, k, none⟩ = some (.slice (some ⟨gi, 0, none⟩) (rowN M k) (rowN M k)) := ⟨(har5.below.cell (p := ⟨w.heap.size, 1, none⟩) (by simp)).trans b7.1, (har5.below.cell (p := ⟨gB, k, none⟩) (by simp; omega)).trans b7.2⟩
                refine hK.out _ _ (by exact b5) (fun hHeld => ?_)
                clear hK K
                try simp only [Act.put, List.setIfInBounds_toArray, List.set_cons_zero, List.set_cons_succ]
                refine take_heldS (i := 11) (d := 43) rfl rfl (by kernel_rfl) (by kernel_rfl) (by kernel_rfl) (fun _ _ _ h => h) (by kernel_rfl) (fun w hSw => by (try dsimp only at hSw); go_simp; try rfl) (by assumption) ?_
                try simp only [Act.put, List.setIfInBounds_toArray, List.set_cons_zero, List.set_cons_succ]
                refine wpAnyH_ready (rs := [12]) (by kernel_rfl) (by simp) ?_
                refine AllReadyH.cons rfl (fun K hK => ?_) AllReadyH.nil
                go_simp
                refine hK.out _ _ (by exact ⟨(World.cell?_setCell_far _ _ _ _ (by simp <;> omega)).trans b5.1, (World.cell?_setCell_far _ _ _ _ (by simp <;> omega)).trans b5.2⟩) (fun hHeld => ?_)
                clear hK K
                try simp only [Act.put, List.setIfInBounds_toArray, List.set_cons_zero, List.set_cons_succ]
                refine wpAnyH_done (by kernel_rfl) ?_ _
                clear hHeld
                go_wp2
                go_roundw
                case rel => exact ⟨k + 1, _, _, by go_num, by omega, HN5⟩
                case measure => simp [intOf]; omega
        · obtain rfl : q = k := by omega
          have kn : ¬ (q : Int) < (q : Int) := by omega
          have o0 : wr.cell? ⟨w.heap.size + 1 + 1, 0, none⟩ = some vR := HS.out.out.cell (i := 0) (by omega)
          have o1 : wr.cell? ⟨w.heap.size + 1 + 1, 1, none⟩ = some vL := HS.out.out.cell (i := 1) (by omega)
          have r0 : wr.cell? ⟨w.heap.size + 1, 0, none⟩ = some (.slice none 0 0) := HS.out.res.cell (i := 0) (by omega)
          have r1 : wr.cell? ⟨w.heap.size + 1, 1, none⟩ = some (.slice none 0 0) := HS.out.res.cell (i := 1) (by omega)
          have f0 := HS.out.res.frozen 0
          have f1 := HS.out.res.frozen 1
          have hs := RowF.lt HS.out.res
          obtain ⟨A1, c1, rfl, _⟩ := HS.out.ribs.cells.slice
          obtain ⟨A2, c2, rfl, _⟩ := HS.out.loads.cells.slice
          go_wp2
          refine bodyPost_ret (v := .agg #[.slice A1 n c1, .slice A2 q c2]) (by simp [results, Try.results24, go_sem, *]) rfl ?_
          exact ⟨_, _, csR, csL, rfl, ((HS.out.ribs.setLow (by simp) _).setLow (by simp) _).mono (by omega), ((HS.out.loads.setLow (by simp) _).setLow (by simp) _).mono (by omega), (HS.out.below.setCell (by simp) _).setCell (by simp) _⟩
end Go.Proofs.Ytdjhiegolojoaaa
