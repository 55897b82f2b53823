/-
  Contract: the places of a push at all joints, in the program.
-/
import Derived.Test.YtdjhiegolojoaaaPPlaces
import Derived.Test.YtdjhiegolojoaaaOwnR
import Derived.WalkMore
import Derived.ScopeJumps
namespace Go.Proofs.Ytdjhiegolojoaaa
open Go.RowKit
set_option linter.unusedSimpArgs false

theorem infoPlace : (Try.prog.info? 89).map (fun i => (i.zero, i.size, i.bytes)) = some (some (.agg #[.int .i64 0, .int .i64 0]), 2, 16) := by kernel_rfl
/-- A scope in which the run jumps back to one label: the pass from the label is walked once. -/
theorem exit_jump_mono {l : Nat} {J J' : Act → World → Prop} {Q : Exit → Act → World → Prop} (h : ∀ a w, J a w → J' a w) : ∀ (e : Exit) (a : Act) (w : World), Exit.jump l J Q e a w → Exit.jump l J' Q e a w := by
  intro e a w he
  cases e with
  | goto l' => exact ⟨he.1, h a w he.2⟩
  | _ => exact he
theorem wp_scope_jumps2 {P : Program} {a : Act} {w : World} {Q : Exit → Act → World → Prop} {c rest : Code} (l : Nat) (J : Act → World → Prop) (μ : Act → World → Nat) (hf : findLabel c l = some (Code.seq .skip rest))
    (pass : ∀ a w, J a w → rest.wp P (Exit.jump l (fun a' w' => J a' w' ∧ μ a' w' < μ a w) Q) a w)
    (first : (∀ a w, J a w → rest.wp P (Exit.jump l J Q) a w) → c.wp P (Exit.jump l J Q) a w) : (Code.scope c).wp P Q a w :=
  wp_scope_jumps l J μ hf (first fun a w hJ => Code.wp_mono (exit_jump_mono fun _ _ h => h.1) (pass a w hJ)) (fun a w hJ => wp_seq (wp_skip (pass a w hJ)))
def PlsPost (w : World) (m : Nat) (L : List Int) (e : Ending) (w' : World) : Prop :=
  ∃ A c, e = .returned (.slice A m c) ∧ RecsAt w' w'.heap.size 2 A m L ∧ m ≤ c ∧ Below w.heap.size w w'

set_option maxRecDepth 100000 in
set_option maxHeartbeats 3200000 in
theorem placesOf_any (A : Option Addr) (n c : Nat) (zs : List Int) (B : Option Addr) (q d : Nat) (ls : List Int) (H V M D : Int) (w : World) (h : RecsAt w w.heap.size 4 A n zs) (hn : n ≤ 1048576) (hl : RecsAt w w.heap.size 3 B q ls) (hq : q ≤ 1048576) :
    Calls Try.prog 45 #[.agg #[.slice A n c], .slice B q d, .agg #[.int .i64 H, .int .i64 V, .int .i64 M, .int .i64 D]] w (PlsPost w (pkLen zs n ls q H V M D) (pkLs zs n ls q H V M D)) := by
  have at0 := AT.start w (.slice A n c) H V M D 41 46
  have HH := Lib.hid h
  have HL := Lib.hid hl
  have HAT := Lib.hid at0
  clear at0 h hl
  go_enter Try.func45, Try.ntmps45
  go_wp2
  have HAF : Hid (∀ k, k < n → pkB zs n ls q H V M D k = false → allPk zs n ls q H V M D = false) := fun k hk h => allPk_f hk h
  have HAT2 : Hid (allTo (pkB zs n ls q H V M D) n → allPk zs n ls q H V M D = true) := allPk_t
  refine wp_scope_jumps2 0 (fun a' w' => ∃ (k : Nat) (v7 u9 u10 u11 u12 u13 u14 u15 u16 u17 u18 u19 u20 u21 u22 u23 u24 u25 u26 u27 u28 u29 u30 u31 u32 u33 u34 u35 u36 : Value), a' = { tmps := #[.agg #[.slice A n c], .slice B q d, .agg #[.int .i64 H, .int .i64 V, .int .i64 M, .int .i64 D], .pointer (some ⟨w.heap.size, 0, none⟩), undef, .pointer (some ⟨w.heap.size + 1, 0, none⟩), .slice none 0 0, v7, .int .i64 k, u9, u10, u11, u12, u13, u14, u15, u16, u17, u18, u19, u20, u21, u22, u23, u24, u25, u26, u27, u28, u29, u30, u31, u32, u33, u34, u35, u36], defers := [] } ∧ k ≤ n ∧ Hid (allTo (pkB zs n ls q H V M D) k) ∧ Hid (Below ((w.alloc (.cells #[.slice A n c] 41)).alloc (.cells #[.int .i64 H, .int .i64 V, .int .i64 M, .int .i64 D] 46)).heap.size ((w.alloc (.cells #[.slice A n c] 41)).alloc (.cells #[.int .i64 H, .int .i64 V, .int .i64 M, .int .i64 D] 46)) w') ∧ Hid (OwnR w' ((w.alloc (.cells #[.slice A n c] 41)).alloc (.cells #[.int .i64 H, .int .i64 V, .int .i64 M, .int .i64 D] 46)).heap.size 89 2 v7 k (pkL zs n ls q H V M D k))) (fun a' _ => n - (intOf (a'.tmps.getD 8 undef)).toNat) rfl ?_ ?_
  · rintro a' w' ⟨k, v7, u9, u10, u11, u12, u13, u14, u15, u16, u17, u18, u19, u20, u21, u22, u23, u24, u25, u26, u27, u28, u29, u30, u31, u32, u33, u34, u35, u36, rfl, hk, HP, HBW, HO⟩
    have HA := Lib.hid (HAT.out.after HBW.out)
    have a0 := HA.out.arch.1
    have t0 := HA.out.thr.1.1
    have t1 := HA.out.thr.1.2.1
    have t2 := HA.out.thr.1.2.2.1
    have t3 := HA.out.thr.1.2.2.2
    have r1 := HH.out.below HA.out.below |>.mono HA.out.below.size
    have r2 := HL.out.below HA.out.below |>.mono HA.out.below.size
    by_cases he : k = n
    · subst he
      have HF := Lib.hid (HAT2.out HP.out)
      obtain ⟨A7, c7, rfl, hc7⟩ := HO.out.slice
      have hd : ((k : Int) == (k : Int)) = true := by simp
      have HRR := Lib.hid HO.out.recs
      have HBB := Lib.hid HA.out.below
      go_wp2
      simp only [Exit.jump]
      go_ret
      exact ⟨A7, c7, by rw [(pkLen_t HF.out).1]; rfl, by rw [(pkLen_t HF.out).1, (pkLen_t HF.out).2]; exact HRR.out, by rw [(pkLen_t HF.out).1]; exact hc7, HBB.out⟩
    · have hd : ((k : Int) == (n : Int)) = false := by simp; omega
      go_wp2_with fail
      refine (iPlaceAt_any _ _ _ zs _ _ _ ls _ _ _ _ _ _ r1 hn r2 hq).mono ?_
      rintro e w1 ⟨rfl, hb1⟩
      have HA1 := Lib.hid (HA.out.after hb1)
      have HO1 := Lib.hid (HO.out.below hb1)
      have HBW1 := Lib.hid (HBW.out.trans (hb1.mono HBW.out.size))
      clear hb1 r1 r2 a0 t0 t1 t2 t3 HA HO
      cases hp : plcB zs n ls q H V M D (k : Int)
      · have HF := Lib.hid (HAF.out k (by omega) hp)
        have HBB := Lib.hid HA1.out.below
        clear hp
        go_wp2
        simp only [Exit.jump]
        go_ret
        exact ⟨none, 0, by rw [(pkLen_f HF.out).1]; rfl, by rw [(pkLen_f HF.out).1, (pkLen_f HF.out).2]; exact RecsAt.nil, by rw [(pkLen_f HF.out).1]; exact Nat.le_refl _, HBB.out⟩
      · have HS := Lib.hid (allTo_step HP.out hp)
        have HX : Hid (pkL zs n ls q H V M D k ++ [plcN zs n ls q H V M D (k : Int), plcD zs n ls q H V M D (k : Int)] = pkL zs n ls q H V M D (k + 1)) := rfl
        have hz1 := HA1.out.below.size
        have hcn : ∀ i, i < 1 * 2 → (w1.alloc (.cells #[.int .i64 (plcN zs n ls q H V M D (k : Int)), .int .i64 (plcD zs n ls q H V M D (k : Int))] 89)).cell? ⟨w1.heap.size, i, none⟩ = some (.int .i64 (nth [plcN zs n ls q H V M D (k : Int), plcD zs n ls q H V M D (k : Int)] i)) := fun i hi =>
          World.rowIs.cell (World.rowIs_alloc w1 #[.int .i64 (plcN zs n ls q H V M D (k : Int)), .int .i64 (plcD zs n ls q H V M D (k : Int))] 89 (ints [plcN zs n ls q H V M D (k : Int), plcD zs n ls q H V M D (k : Int)]) (fun i hi => by simp at hi; match i, hi with | 0, _ => rfl | 1, _ => rfl)) (by simpa using hi)
        have HCN := Lib.hid hcn
        clear hcn hp
        generalize plcN zs n ls q H V M D (k : Int) = N at *
        generalize plcD zs n ls q H V M D (k : Int) = E at *
        have hz3 := HBW1.out.size
        have HBA := Lib.hid (HBW1.out.alloc hz3 (.cells #[.int .i64 N, .int .i64 E] 89))
        have hW0 : ((w.alloc (.cells #[.slice A n c] 41)).alloc (.cells #[.int .i64 H, .int .i64 V, .int .i64 M, .int .i64 D] 46)).heap.size ≤ (w1.alloc (.cells #[.int .i64 N, .int .i64 E] 89)).heap.size := HBA.out.size
        go_wp2_with (at_builtin; refine wpList_appR _ rfl (.tmp 29) (.tmp 33) 86 rfl ((w.alloc (.cells #[.slice A n c] 41)).alloc (.cells #[.int .i64 H, .int .i64 V, .int .i64 M, .int .i64 D] 46)).heap.size 89 2 16 #[.int .i64 0, .int .i64 0] Try.underlying86 infoPlace rfl (by decide) (by decide) _ k (pkL zs n ls q H V M D k) rfl (by exact HO1.out.alloc _) w1.heap.size 1 1 [N, E] rfl rfl (by exact HCN.out) (by omega) ((w.alloc (.cells #[.slice A n c] 41)).alloc (.cells #[.int .i64 H, .int .i64 V, .int .i64 M, .int .i64 D] 46)).heap.size ((w.alloc (.cells #[.slice A n c] 41)).alloc (.cells #[.int .i64 H, .int .i64 V, .int .i64 M, .int .i64 D] 46)) (by exact HBA.out) (Nat.le_refl _) hW0 _ HX.out ?_ (by omega); intro g' cap' w3 hown3 hb3)
        go_step3
        have ek : (k : Int) + 1 = ((k + 1 : Nat) : Int) := by omega
        rw [ek]
        refine ⟨rfl, ⟨k + 1, _, _, _, _, _, _, _, _, _, _, _, _, _, _, _, _, _, _, _, _, _, _, _, _, _, _, _, _, _, rfl, by omega, HS, Lib.hid hb3, Lib.hid hown3⟩, ?_⟩
        simp [intOf]
        omega
  · intro key
    go_wp2
    go_step3
    rename_i K hK
    refine hK _ _ (key _ _ ⟨0, .slice none 0 0, _, _, _, _, _, _, _, _, _, _, _, _, _, _, _, _, _, _, _, _, _, _, _, _, _, _, _, _, rfl, Nat.zero_le _, Lib.hid (allTo_0 _), Lib.hid (Below.refl _ _), Lib.hid (OwnR.nil _ _ _ _)⟩)
end Go.Proofs.Ytdjhiegolojoaaa
