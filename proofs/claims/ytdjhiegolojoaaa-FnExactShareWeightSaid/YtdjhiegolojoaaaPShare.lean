/-
  Plain facts: a weight shared out over the ribs; one row of a grown nest replaced. No Go function is spoken of here.
-/
import Derived.Test.YtdjhiegolojoaaaGN
import Derived.Test.YtdjhiegolojoaaaWVault
namespace Go.Proofs.Ytdjhiegolojoaaa
open Go.RowKit

/-- The first stop below m; m if there is none. -/
def stU (f : Nat → Bool) : Nat → Nat
  | 0 => 0
  | m + 1 => if stU f m = m then (if f m = true then m else m + 1) else stU f m
theorem stU_all {f : Nat → Bool} : ∀ {m : Nat}, (∀ i, i < m → f i = false) → stU f m = m
  | 0, _ => rfl
  | m + 1, h => by simp [stU, stU_all (m := m) (fun i hi => h i (by omega)), h m (by omega)]
theorem stU_at {f : Nat → Bool} {k : Nat} (h : ∀ i, i < k → f i = false) (hk : f k = true) : ∀ {m : Nat}, k < m → stU f m = k
  | m + 1, hm => by
    by_cases e : k = m
    · subst e
      simp [stU, stU_all h, hk]
    · have ih := stU_at h hk (m := m) (by omega)
      have : ¬ k = m := e
      simp [stU, ih, this]
theorem stU_le (f : Nat → Bool) : ∀ m, stU f m ≤ m
  | 0 => Nat.le_refl _
  | m + 1 => by
    have := stU_le f m
    simp only [stU]
    split
    · split <;> omega
    · omega
/-- Whether stone i bears a load at x. -/
def stopAt (zs : List Int) (x : Int) (i : Nat) : Bool := decide (x ≤ nth zs ((i + 1) * 4))
/-- The stone under x. -/
def stoneU (zs : List Int) (n : Nat) (x : Int) : Nat := stU (stopAt zs x) (n - 2)
/-- The loads, the first k ribs' with one load more. -/
def shTo (L M : List (Nat × List Int)) (n : Nat) (wq x : Int) (k : Nat) : List (Nat × List Int) :=
  (List.range n).map fun i => if i < k then (rowN M i + 1, rowZ M i ++ [(stoneU (rowZ L i) (rowN L i) x : Int), wq, x]) else (rowN M i, rowZ M i)
theorem shTo_len (L M : List (Nat × List Int)) (n : Nat) (wq x : Int) (k : Nat) : (shTo L M n wq x k).length = n := by simp [shTo]
theorem shTo_get {L M : List (Nat × List Int)} {n : Nat} {wq x : Int} {k i : Nat} (hi : i < n) :
    (shTo L M n wq x k).getD i (0, []) = if i < k then (rowN M i + 1, rowZ M i ++ [(stoneU (rowZ L i) (rowN L i) x : Int), wq, x]) else (rowN M i, rowZ M i) := by
  simp [shTo, List.getD, hi]
theorem shTo_lt {L M : List (Nat × List Int)} {n : Nat} {wq x : Int} {k i : Nat} (hi : i < n) (hk : i < k) : rowN (shTo L M n wq x k) i = rowN M i + 1 ∧ rowZ (shTo L M n wq x k) i = rowZ M i ++ [(stoneU (rowZ L i) (rowN L i) x : Int), wq, x] := by
  have h := shTo_get (L := L) (M := M) (wq := wq) (x := x) (k := k) hi
  rw [if_pos hk] at h
  exact ⟨by rw [rowN, h], by rw [rowZ, h]⟩
theorem shTo_ge {L M : List (Nat × List Int)} {n : Nat} {wq x : Int} {k i : Nat} (hi : i < n) (hk : ¬ i < k) : rowN (shTo L M n wq x k) i = rowN M i ∧ rowZ (shTo L M n wq x k) i = rowZ M i := by
  have h := shTo_get (L := L) (M := M) (wq := wq) (x := x) (k := k) hi
  rw [if_neg hk] at h
  exact ⟨by rw [rowN, h], by rw [rowZ, h]⟩

section
variable {w w' : World} {base : Nat} {T E : TypeId} {K n : Nat} {v : Value} {cs : List Value} {L L' : List (Nat × List Int)}
/-- It reads the same by another list. -/
theorem GN.congr (h : GN w base T E K v n cs L) (e : ∀ i, i < n → rowN L' i = rowN L i ∧ rowZ L' i = rowZ L i) : GN w base T E K v n cs L' := by
  refine ⟨h.cells, fun i hi => ?_, h.apart⟩
  obtain ⟨e1, e2⟩ := e i hi
  rw [e1, e2]
  exact h.row i hi
theorem OwnC.setAt {g c : Nat} (h : OwnC w base T (.slice (some ⟨g, 0, none⟩) n c) n cs) (k : Nat) (u : Value) : OwnC (w.setCell ⟨g, k, none⟩ u) base T (.slice (some ⟨g, 0, none⟩) n c) n (cs.set k u) := by
  refine ⟨⟨by simp [h.1.1], ?_⟩, by simp [h.2]⟩
  rcases h.1.2 with ⟨e, _⟩ | ⟨g0, cap, cur, e, h2, h3, h4, h5, h6, h7⟩
  · simp at e
  · simp at e
    obtain ⟨rfl, rfl⟩ := e
    refine .inr ⟨g, c, cur.setIfInBounds k u, rfl, h2, ?_, h4, h5, by simpa using h6, ?_⟩
    · have hl := (Array.getElem?_eq_some_iff.1 h3).1
      have e2 := (Array.getElem?_eq_some_iff.1 h3).2
      simp [World.setCell, Array.getElem?_modify, h3]
    · rw [Array.toList_setIfInBounds, ← h7, List.take_set]
/-- Row k replaced: append on it, then the new slice stored. -/
theorem GN.replace {gL c k : Nat} {u : Value} {g' m' c' : Nat} {zs' : List Int} (h : GN w base T E K (.slice (some ⟨gL, 0, none⟩) n c) n cs L) (hTE : T ≠ E) (hk : k < n) (hu : cs[k]? = some u)
    (ho : OwnR w' base E K (.slice (some ⟨g', 0, none⟩) m' c') m' zs') (ha : AppRes w w' base u (.slice (some ⟨g', 0, none⟩) m' c'))
    (e1 : rowN L' k = m' ∧ rowZ L' k = zs') (e2 : ∀ i, i < n → i ≠ k → rowN L' i = rowN L i ∧ rowZ L' i = rowZ L i) :
    GN (w'.setCell ⟨gL, k, none⟩ (.slice (some ⟨g', 0, none⟩) m' c')) base T E K (.slice (some ⟨gL, 0, none⟩) n c) n (cs.set k (.slice (some ⟨g', 0, none⟩) m' c')) L' := by
  obtain ⟨gu, cu, hu1, hur⟩ := h.row k hk
  have hul : ∃ gu, u.ownBlock = some gu ∧ ∃ cc, w.heap[gu]? = some (.cells cc E) := by
    rw [hu] at hu1
    simp at hu1
    subst hu1
    exact ⟨gu, rfl, hur.typeAt gu rfl⟩
  have hcs := h.cells.2
  obtain ⟨cc, hcT⟩ := h.cells.typeAt gL rfl
  have hLlt := (Array.getElem?_eq_some_iff.1 hcT).1
  have hLne : u.ownBlock ≠ some gL := fun e => by
    obtain ⟨gu2, hg2, c2, hc2⟩ := hul
    rw [e] at hg2
    simp at hg2
    subst hg2
    rw [hcT] at hc2
    simp at hc2
    exact hTE hc2.2
  have hg'ne : g' ≠ gL := fun e => by
    subst e
    obtain ⟨c3, hc3⟩ := ho.typeAt g' rfl
    have hst := ha.stay g' hLlt hLne
    rw [hst, hcT] at hc3
    simp at hc3
    exact hTE hc3.2
  have hrow : ∀ i, i < n → i ≠ k → ∀ gi ci, cs[i]? = some (.slice (some ⟨gi, 0, none⟩) (rowN L i) ci) → OwnR w base E K (.slice (some ⟨gi, 0, none⟩) (rowN L i) ci) (rowN L i) (rowZ L i) → u.ownBlock ≠ some gi ∧ gi < w.heap.size ∧ gi ≠ gL := fun i hi hik gi ci hc hr => by
    obtain ⟨c4, hc4⟩ := hr.typeAt gi rfl
    refine ⟨fun e => ?_, (Array.getElem?_eq_some_iff.1 hc4).1, fun e => ?_⟩
    · have := h.apart i k hi hk hik gi (by rw [hc]; rfl)
      rw [hu] at this
      exact this e
    · subst e
      rw [hcT] at hc4
      simp at hc4
      exact hTE hc4.2
  refine ⟨OwnC.setAt (h.cells.ofBlock fun g hg => ?_) k _, fun i hi => ?_, fun i j hi hj hij g => ?_⟩
  · simp [Value.ownBlock] at hg
    subst hg
    exact ha.stay gL hLlt hLne
  · by_cases hik : i = k
    · subst hik
      refine ⟨g', c', by rw [List.getElem?_set_self (by omega), e1.1], ?_⟩
      rw [e1.1, e1.2]
      exact ho.ofBlock fun g hg => by
        simp [Value.ownBlock] at hg
        subst hg
        exact Below.heap_setCell _ _ _ _ (by simpa using hg'ne)
    · obtain ⟨gi, ci, hc, hr⟩ := h.row i hi
      obtain ⟨f1, f2⟩ := e2 i hi hik
      obtain ⟨n1, n2, n3⟩ := hrow i hi hik gi ci hc hr
      refine ⟨gi, ci, by rw [List.getElem?_set_ne (fun e => hik e.symm), f1]; exact hc, ?_⟩
      rw [f1, f2]
      exact hr.ofBlock fun g hg => by
        simp [Value.ownBlock] at hg
        subst hg
        rw [Below.heap_setCell _ _ _ _ (by simpa using n3)]
        exact ha.stay gi n2 n1
  · intro h1 h2
    have other : ∀ t, t < n → t ≠ k → ∀ gt, (cs[t]?).bind Value.ownBlock = some gt → gt ≠ g' := fun t ht htk gt hgt e => by
      subst e
      obtain ⟨gi, ci, hc, hr⟩ := h.row t ht
      obtain ⟨n1, n2, _⟩ := hrow t ht htk gi ci hc hr
      rw [hc] at hgt
      simp [Value.ownBlock] at hgt
      subst hgt
      rcases ha.where_ gi rfl with e | e
      · exact n1 e
      · omega
    by_cases hik : i = k
    · subst hik
      rw [List.getElem?_set_self (by omega)] at h1
      simp [Value.ownBlock] at h1
      rw [List.getElem?_set_ne hij] at h2
      exact other j hj (fun e => hij e.symm) g h2 h1.symm
    · by_cases hjk : j = k
      · subst hjk
        rw [List.getElem?_set_self (by omega)] at h2
        simp [Value.ownBlock] at h2
        rw [List.getElem?_set_ne (fun e => hik e.symm)] at h1
        exact other i hi hik g h1 h2.symm
      · rw [List.getElem?_set_ne (fun e => hik e.symm)] at h1
        rw [List.getElem?_set_ne (fun e => hjk e.symm)] at h2
        exact h.apart i j hi hj hij g h1 h2
end
end Go.Proofs.Ytdjhiegolojoaaa
