/-
  Contracts: an arch copied, and a draw of yes or no.
-/
import Derived.Test.YtplabaneihjcoaaWDraw
import Derived.Test.YtplabaneihjcoaaRJoint
import Derived.Test.YtplabaneihjcoaaOwnR
import Derived.Test.YtplabaneihjcoaaBoxS
namespace Go.Proofs.Ytplabaneihjcoaa
open Go.RowKit
set_option linter.unusedSimpArgs false
set_option linter.unusedVariables false

/-- The copy stands in a row of its own. -/
def CpyPost (w : World) (n : Nat) (zs : List Int) (e : Ending) (w' : World) : Prop :=
  ∃ g c : Nat, e = .returned (.agg #[.slice (some ⟨g, 0, none⟩) n c]) ∧ w.heap.size < g ∧ n ≤ c ∧ RowF w' g 105 (n * 4) (ints zs) ∧ Below w.heap.size w w'

set_option maxRecDepth 100000 in
set_option maxHeartbeats 3200000 in
theorem l06Copy_any (b n c : Nat) (zs : List Int) (w : World) (h : RowF w b 105 (n * 4) (ints zs)) (hl : zs.length = n * 4) (hn1 : 1 ≤ n) (hn : n ≤ 1048576) :
    Calls Try.prog 80 #[.agg #[.slice (some ⟨b, 0, none⟩) n c]] w (CpyPost w n zs) := by
  have hz : ((w.alloc (.cells #[.slice (some ⟨b, 0, none⟩) n c] 48)).alloc (.cells #[.slice none 0 0] 48)).heap.size = w.heap.size + 1 + 1 := by simp
  have HBA : Hid (Below w.heap.size w (((w.alloc (.cells #[.slice (some ⟨b, 0, none⟩) n c] 48)).alloc (.cells #[.slice none 0 0] 48)).alloc (.cells #[] 105))) := Lib.hid ((((Below.refl _ _).alloc (Nat.le_refl _) _).alloc (by simp) _).alloc (by simp; omega) _)
  have HBC : Hid (Below (w.heap.size + 1 + 1) ((w.alloc (.cells #[.slice (some ⟨b, 0, none⟩) n c] 48)).alloc (.cells #[.slice none 0 0] 48)) (((w.alloc (.cells #[.slice (some ⟨b, 0, none⟩) n c] 48)).alloc (.cells #[.slice none 0 0] 48)).alloc (.cells #[] 105))) := Lib.hid ((Below.refl _ _).alloc (by rw [hz]; exact Nat.le_refl _) _)
  have HB2 : Hid (Below w.heap.size w ((w.alloc (.cells #[.slice (some ⟨b, 0, none⟩) n c] 48)).alloc (.cells #[.slice none 0 0] 48))) := Lib.hid (((Below.refl _ _).alloc (Nat.le_refl _) _).alloc (by simp) _)
  have HO : Hid (OwnR (((w.alloc (.cells #[.slice (some ⟨b, 0, none⟩) n c] 48)).alloc (.cells #[.slice none 0 0] 48)).alloc (.cells #[] 105)) (w.heap.size + 1 + 1) 105 4 (.slice (some ⟨w.heap.size + 1 + 1, 0, none⟩) 0 0) 0 []) := Lib.hid (by
    have h := OwnR.new ((w.alloc (.cells #[.slice (some ⟨b, 0, none⟩) n c] 48)).alloc (.cells #[.slice none 0 0] 48)) 105 4
    rw [hz] at h
    exact h)
  have HR0 : Hid (RowF ((w.alloc (.cells #[.slice (some ⟨b, 0, none⟩) n c] 48)).alloc (.cells #[.slice none 0 0] 48)) (w.heap.size + 1) 48 1 (fun _ => .slice none 0 0)) := Lib.hid (by
    have h := rowF_new1S (w.alloc (.cells #[.slice (some ⟨b, 0, none⟩) n c] 48)) (.slice none 0 0) 48
    rw [World.size_alloc] at h
    exact h)
  have HH := Lib.hid (h.after HBA.out)
  have hbl := h.lt
  clear h hz
  go_enter Try.func80, Try.ntmps80
  go_wp2_with (at_builtin; refine wpList_appR _ rfl (.tmp 3) (.tmp 5) 46 rfl (w.heap.size + 1 + 1) 105 4 32 #[.int .i64 0, .int .i64 0, .int .i64 0, .int .i64 0] Try.underlying46 infoJoint rfl (by decide) (by decide) _ 0 [] rfl (by exact HO.out) b n c zs rfl hl (fun i hi => by exact HH.out.cell hi) (by omega) (w.heap.size + 1 + 1) ((w.alloc (.cells #[.slice (some ⟨b, 0, none⟩) n c] 48)).alloc (.cells #[.slice none 0 0] 48)) (by exact HBC.out) (Nat.le_refl _) (by simp) _ rfl ?_ hn1; intro g' cap' w3 hown3 hb3; have HR3 := Lib.hid (HR0.out.below hb3 (by omega)); have r0 : w3.cell? ⟨w.heap.size + 1, 0, none⟩ = some (.slice none 0 0) := HR3.out.cell (i := 0) (by omega); have f0 := HR3.out.frozen 0; have z0 := HR3.out.lt)
  have HB3 := Lib.hid (HB2.out.trans (hb3.mono (by omega)))
  have HG : Hid (w.heap.size + 1 + 1 ≤ g' ∧ n ≤ cap' ∧ RowF w3 g' 105 (n * 4) (ints zs)) := Lib.hid (by
    rcases hown3.form with ⟨_, h2, _⟩ | ⟨g, cap, e, h1, h2, h3⟩
    · omega
    · simp only [Value.slice.injEq, Option.some.injEq, Addr.mk.injEq, and_true, true_and] at e
      obtain ⟨rfl, rfl⟩ := e
      refine ⟨h1, by omega, ?_⟩
      simpa using h3)
  clear hown3 hb3
  go_wp2
  refine bodyPost_ret (v := .agg #[.slice (some ⟨g', 0, none⟩) n cap']) (by simp [results, Try.results80, go_sem, *]) rfl ?_
  exact ⟨g', cap', rfl, by have := HG.out.1; omega, HG.out.2.1, HG.out.2.2.set_other (by have := HG.out.1; simp; omega) _, HB3.out.setCell (by simp) _⟩

set_option maxHeartbeats 1600000 in
theorem l01Once_any (g : Nat) (A : Option Addr) (n c : Nat) (zs : List Int) (m : Int) (w : World) (h : BytesAt w g A n zs) (hn : n ≤ 1048576) (hc : CurAt w g A n c) (h0 : 0 < m) (h1 : m ≤ 256) :
    Calls Try.prog 81 #[.pointer (some ⟨g, 0, none⟩), .int .i64 m] w fun e w' => ∃ b : Bool, e = .returned (.bool b) ∧ CurAt w' g A n c ∧ Only g w w' := by
  go_enter Try.func81, Try.ntmps81
  go_wp2_with fail
  refine (l01Below_any g A n c zs m _ h hn hc h0 h1).mono ?_
  rintro e w1 ⟨r, rfl, hr0, hr1, hc1, ho1⟩
  have HR := Lib.hid (show CurAt w1 g A n c ∧ Only g w w1 from ⟨hc1, ho1⟩)
  clear hc1 ho1 hc h
  go_wp2
  go_ret
  exact ⟨_, rfl, HR.out.1, HR.out.2⟩
end Go.Proofs.Ytplabaneihjcoaa
