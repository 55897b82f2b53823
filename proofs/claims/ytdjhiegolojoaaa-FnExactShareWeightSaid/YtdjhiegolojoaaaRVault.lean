/-
  Contracts of the laws' helpers for a vault.
-/
import Derived.Test.YtdjhiegolojoaaaNArch
import Derived.Test.YtdjhiegolojoaaaNLLoad
import Derived.Test.YtdjhiegolojoaaaLawKit
import Derived.Test.YtdjhiegolojoaaaRow
namespace Go.Proofs.Ytdjhiegolojoaaa
open Go.RowKit

theorem NestRow.set_lt {w : World} {g : Nat} {T E : TypeId} {K n : Nat} {L : List (Nat × List Int)} (h : NestRow w g T E K n L) {p : Addr} (hp : p.block < g) (v : Value) : NestRow (w.setCell p v) g T E K n L := by
  obtain ⟨f, h1, h2⟩ := h
  refine ⟨f, h1.of_block (Below.heap_setCell _ _ _ _ (by omega)), fun i hi => ?_⟩
  obtain ⟨gi, e1, e2, e3⟩ := h2 i hi
  exact ⟨gi, e1, e2, e3.of_block (Below.heap_setCell _ _ _ _ (by omega))⟩

def pairV (u v : Value) (j : Nat) : Value := if j = 0 then u else v
theorem row_pair (w : World) (u v : Value) (t : TypeId) : (w.alloc (.cells #[u, v] t)).rowIs w.heap.size t 2 (pairV u v) := World.rowIs_alloc w #[u, v] t (pairV u v) (fun i hi => by simp at hi; match i, hi with | 0, _ => rfl | 1, _ => rfl)

set_option maxRecDepth 100000 in
set_option maxHeartbeats 800000 in
theorem toVault_any (A : Option Addr) (n c : Nat) (L : List (Nat × List Int)) (B : Option Addr) (q d : Nat) (M : List (Nat × List Int)) (w : World) (h : NestAt w w.heap.size 4 A n L) (hn : n ≤ 1048576) (hr : ∀ i, i < n → rowN L i ≤ 1048576) (hl : NestAt w w.heap.size 3 B q M) (hq : q ≤ 1048576) (hs : ∀ i, i < q → rowN M i ≤ 1048576) :
    Calls Try.prog 7 #[.agg #[.slice A n c, .slice B q d]] w fun e w' => ∃ g g', e = .returned (.agg #[.slice (some ⟨g, 0, none⟩) n n, .slice (some ⟨g', 0, none⟩) q q]) ∧ w.heap.size ≤ g ∧ w.heap.size ≤ g' ∧ NestRow w' g 41 67 4 n L ∧ NestRow w' g' 42 69 3 q M ∧ Below w.heap.size w w' := by
  have HR := Lib.hid hr
  have HS := Lib.hid hs
  obtain ⟨W3, hW⟩ : ∃ W3 : World, W3 = (((w.alloc (.cells #[.slice A n c, .slice B q d] 25)).alloc (.cells #[.slice none 0 0, .slice none 0 0] 30)).alloc (.cells #[.slice none 0 0, .slice none 0 0] 30)) := ⟨_, rfl⟩
  have hsz : W3.heap.size = w.heap.size + 1 + 1 + 1 := by rw [hW]; simp
  have b3 : Below w.heap.size w W3 := by rw [hW]; exact (((Below.refl _ w).alloc (Nat.le_refl _) _).alloc (by simp) _).alloc (by simp; omega) _
  have h3 := h.after b3
  have l3 := hl.after b3
  have ra : RowF W3 w.heap.size 25 2 (pairV (.slice A n c) (.slice B q d)) := by rw [hW]; exact ((RowF.of_row (row_pair w _ _ _)).alloc _).alloc _
  have rr : RowF W3 (w.heap.size + 1) 30 2 (pairV (.slice none 0 0) (.slice none 0 0)) := by
    rw [hW]
    have h := (RowF.of_row (row_pair (w.alloc (.cells #[.slice A n c, .slice B q d] 25)) (.slice none 0 0) (.slice none 0 0) 30)).alloc (.cells #[.slice none 0 0, .slice none 0 0] 30)
    simpa using h
  have ro : RowF W3 (w.heap.size + 1 + 1) 30 2 (pairV (.slice none 0 0) (.slice none 0 0)) := by
    rw [hW]
    have h := RowF.of_row (row_pair ((w.alloc (.cells #[.slice A n c, .slice B q d] 25)).alloc (.cells #[.slice none 0 0, .slice none 0 0] 30)) (.slice none 0 0) (.slice none 0 0) 30)
    simpa using h
  have HL := Lib.hid hl
  clear h hl hr hs
  have HZ := Lib.hid hsz
  go_enter Try.func7, Try.ntmps7
  go_wp2_with fail
  rw [← hW]
  clear hW
  refine (toArchS_any A n c L _ h3 hn HR.out).mono ?_
  rintro e w1 ⟨g, rfl, hg, r1, hb1⟩
  have hg3 : w.heap.size + 1 + 1 + 1 ≤ g := by omega
  have b1 := below_then b3 hb1
  have l1 := l3.after hb1
  have ra1 := ra.after hb1
  have rr1 := rr.after hb1
  have ro1 := ro.after hb1
  have z1 := hb1.size
  have o0 : w1.cell? ⟨w.heap.size + 1 + 1, 0, none⟩ = some (.slice none 0 0) := ro1.cell (by omega)
  have f0 := ro1.frozen 0
  have a1 : w1.cell? ⟨w.heap.size, 1, none⟩ = some (.slice B q d) := ra1.cell (by omega)
  have b1' := b1.setCell (p := ⟨w.heap.size + 1 + 1, 0, none⟩) (by simp; omega) (.slice (some ⟨g, 0, none⟩) n n)
  have l1' := (HL.out.below b1').mono b1'.size
  have r1' := r1.set_lt (p := ⟨w.heap.size + 1 + 1, 0, none⟩) (by simp; omega) (.slice (some ⟨g, 0, none⟩) n n)
  have ro1' := ro1.set 0 (.slice (some ⟨g, 0, none⟩) n n)
  have rr1' := rr1.set_other (p := ⟨w.heap.size + 1 + 1, 0, none⟩) (by simp) (.slice (some ⟨g, 0, none⟩) n n)
  have HB1 := Lib.hid b1'
  clear b1 b1' l1 l3 h3 b3 ra rr ro ra1 rr1 hb1 r1 HZ
  go_wp2_with fail
  refine (toLoadSS_any B q d M _ l1' hq HS.out).mono ?_
  rintro e w2 ⟨g', rfl, hg', r2, hb2⟩
  have z2 := hb2.size
  have zs : (w1.setCell ⟨w.heap.size + 1 + 1, 0, none⟩ (.slice (some ⟨g, 0, none⟩) n n)).heap.size = w1.heap.size := by simp [World.setCell]
  have s2 := r1'.after hb2
  have ro2 := ro1'.after hb2
  have rr2 := rr1'.after hb2
  have HB2 := Lib.hid (HB1.out.trans (hb2.mono HB1.out.size))
  rw [zs] at hg' z2
  clear zs
  have o0' : w2.cell? ⟨w.heap.size + 1 + 1, 0, none⟩ = some (.slice (some ⟨g, 0, none⟩) n n) := ro2.cell (by omega)
  have o1' : w2.cell? ⟨w.heap.size + 1 + 1, 1, none⟩ = some (.slice none 0 0) := ro2.cell (by omega)
  have f1' := ro2.frozen 1
  have r0' : w2.cell? ⟨w.heap.size + 1, 0, none⟩ = some (.slice none 0 0) := rr2.cell (by omega)
  have r1'' : w2.cell? ⟨w.heap.size + 1, 1, none⟩ = some (.slice none 0 0) := rr2.cell (by omega)
  have k0 := rr2.frozen 0
  have k1 := rr2.frozen 1
  have HS2 := Lib.hid s2
  have HR2 := Lib.hid r2
  clear s2 r2 ro2 rr2 hb2 ro1' rr1' r1' l1' o0 f0 ro1 HB1
  go_wp2
  refine bodyPost_ret (v := .agg #[.slice (some ⟨g, 0, none⟩) n n, .slice (some ⟨g', 0, none⟩) q q]) (by simp [results, Try.results7, go_sem, *]) rfl ⟨g, g', rfl, by omega, by omega, ?_, ?_, ?_⟩
  · exact ((HS2.out.set_lt (by simp; omega) _).set_lt (by simp; omega) _).set_lt (by simp; omega) _
  · exact ((HR2.out.set_lt (by simp; omega) _).set_lt (by simp; omega) _).set_lt (by simp; omega) _
  · exact ((HB2.out.setCell (p := ⟨w.heap.size + 1 + 1, 1, none⟩) (by simp; omega) _).setCell (p := ⟨w.heap.size + 1, 0, none⟩) (by simp) _).setCell (p := ⟨w.heap.size + 1, 1, none⟩) (by simp) _

/-- What the count of a vault's sizes leaves. -/
def SzVPost (l : Int) (n : Nat) (L : List (Nat × List Int)) (q : Nat) (M : List (Nat × List Int)) (w : World) (e : Ending) (w' : World) : Prop :=
  ∃ r : Int, e = .returned (.int .i64 r) ∧ Below w.heap.size w w' ∧ (r = -1 ∨ (0 ≤ r ∧ r ≤ l ∧ ((n : Int) ≤ l ∧ (∀ i, i < n → (rowN L i : Int) ≤ l) ∧ (sumN L n : Int) ≤ l) ∧ ((q : Int) ≤ l ∧ (∀ i, i < q → (rowN M i : Int) ≤ l) ∧ (sumN M q : Int) ≤ l)))
theorem szVPost_no {l : Int} {n : Nat} {L : List (Nat × List Int)} {q : Nat} {M : List (Nat × List Int)} {w w' : World} (hb : Below w.heap.size w w') : SzVPost l n L q M w (.returned (.int .i64 (-1))) w' := ⟨-1, rfl, hb, .inl rfl⟩

theorem szVault_any (A : Option Addr) (n c : Nat) (L : List (Nat × List Int)) (B : Option Addr) (q d : Nat) (M : List (Nat × List Int)) (l : Int) (w : World) (h : NestAt w w.heap.size 4 A n L) (hl : NestAt w w.heap.size 3 B q M) (hl0 : 0 ≤ l) (hl1 : l ≤ 1048576) (hn : n ≤ 9223372036854775807) (hq : q ≤ 9223372036854775807) :
    Calls Try.prog 5 #[.agg #[.slice A n c, .slice B q d], .int .i64 l] w (SzVPost l n L q M w) := by
  have b0 : Below w.heap.size w (w.alloc (.cells #[.slice A n c, .slice B q d] 25)) := (Below.refl _ _).alloc (Nat.le_refl _) _
  have h0 := h.after b0
  have l0 := hl.after b0
  have ra : RowF (w.alloc (.cells #[.slice A n c, .slice B q d] 25)) w.heap.size 25 2 (pairV (.slice A n c) (.slice B q d)) := RowF.of_row (row_pair w _ _ _)
  clear h hl
  go_enter Try.func5, Try.ntmps5
  go_wp2_with fail
  refine (szArchS_any A n c L _ _ h0 hl0 hl1 hn).mono ?_
  rintro e w1 ⟨r, rfl, hb1, hr⟩
  have b1 := below_then b0 hb1
  rcases hr with rfl | ⟨hr0, hr1, hr2, hr3, hr4⟩
  · go_wp2
    go_ret
    exact szVPost_no b1
  have ra1 := ra.after hb1
  have a1 : w1.cell? ⟨w.heap.size, 1, none⟩ = some (.slice B q d) := ra1.cell (by omega)
  have l1 := l0.after hb1
  have ht : ¬ r < 0 := by omega
  have HR3 := Lib.hid hr3
  clear hr3 b0 h0 l0 ra hb1 ra1
  go_wp2_with fail
  refine (szLoadSS_any B q d M _ _ l1 hr0 (by omega) hq).mono ?_
  rintro e w2 ⟨r', rfl, hb2, hr'⟩
  have b2 := below_then b1 hb2
  rcases hr' with rfl | ⟨hs0, hs1, hs2, hs3, hs4⟩
  · go_wp2
    go_ret
    exact szVPost_no b2
  have ht' : ¬ r' < 0 := by omega
  have HS3 := Lib.hid hs3
  clear hs3
  go_wp2
  go_ret
  exact ⟨r', rfl, b2, .inr ⟨hs0, by omega, ⟨hr2, HR3.out, hr4⟩, by omega, fun i hi => by have := HS3.out i hi; omega, by omega⟩⟩

theorem eqVault_same (A A' : Option Addr) (n c c' : Nat) (L : List (Nat × List Int)) (B B' : Option Addr) (q d d' : Nat) (M : List (Nat × List Int)) (w : World) (h : NestAt w w.heap.size 4 A n L) (h' : NestAt w w.heap.size 4 A' n L) (hn : n ≤ 1048576) (hr : ∀ i, i < n → rowN L i ≤ 1048576) (hl : NestAt w w.heap.size 3 B q M) (hl' : NestAt w w.heap.size 3 B' q M) (hq : q ≤ 1048576) (hs : ∀ i, i < q → rowN M i ≤ 1048576) :
    Calls Try.prog 9 #[.agg #[.slice A n c, .slice B q d], .agg #[.slice A' n c', .slice B' q d']] w fun e w' => e = .returned (.bool true) ∧ Below w.heap.size w w' := by
  obtain ⟨W2, hW⟩ : ∃ W2 : World, W2 = ((w.alloc (.cells #[.slice A n c, .slice B q d] 30)).alloc (.cells #[.slice A' n c', .slice B' q d'] 30)) := ⟨_, rfl⟩
  have hsz : W2.heap.size = w.heap.size + 1 + 1 := by rw [hW]; simp
  have b2 : Below w.heap.size w W2 := by rw [hW]; exact ((Below.refl _ w).alloc (Nat.le_refl _) _).alloc (by simp) _
  have g1 := h.after b2
  have g2 := h'.after b2
  have g3 := hl.after b2
  have g4 := hl'.after b2
  have ra : RowF W2 w.heap.size 30 2 (pairV (.slice A n c) (.slice B q d)) := by rw [hW]; exact (RowF.of_row (row_pair w _ _ _)).alloc _
  have rb : RowF W2 (w.heap.size + 1) 30 2 (pairV (.slice A' n c') (.slice B' q d')) := by
    rw [hW]
    have h := RowF.of_row (row_pair (w.alloc (.cells #[.slice A n c, .slice B q d] 30)) (.slice A' n c') (.slice B' q d') 30)
    simpa using h
  have HR := Lib.hid hr
  have HS := Lib.hid hs
  clear h h' hl hl' hr hs hsz
  go_enter Try.func9, Try.ntmps9
  go_wp2_with fail
  rw [← hW]
  clear hW
  refine (eqArchS_same _ _ _ _ _ L _ g1 g2 hn HR.out).mono ?_
  rintro e w1 ⟨rfl, hb1⟩
  have b1 := below_then b2 hb1
  have ra1 := ra.after hb1
  have rb1 := rb.after hb1
  have a1 : w1.cell? ⟨w.heap.size, 1, none⟩ = some (.slice B q d) := ra1.cell (by omega)
  have a2 : w1.cell? ⟨w.heap.size + 1, 1, none⟩ = some (.slice B' q d') := rb1.cell (by omega)
  have k3 := g3.after hb1
  have k4 := g4.after hb1
  clear b2 g1 g2 g3 g4 ra rb hb1 ra1 rb1
  go_wp2_with fail
  refine (eqLoadSS_same _ _ _ _ _ M _ k3 k4 hq HS.out).mono ?_
  rintro e w3 ⟨rfl, hb3⟩
  have b3 := below_then b1 hb3
  go_wp2
  go_ret
  exact ⟨rfl, b3⟩
end Go.Proofs.Ytdjhiegolojoaaa
