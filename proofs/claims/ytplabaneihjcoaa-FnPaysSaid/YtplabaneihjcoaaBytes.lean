/-
  Words: a slice of bytes that reads as a list. No Go function is spoken of here.
-/
import Derived.Test.YtplabaneihjcoaaLawKit
import Derived.Test.YtplabaneihjcoaaRow
namespace Go.Proofs.Ytplabaneihjcoaa
open Go.ChangeShapes Go.WideShapes Go.ChangeAt Go.RowKit

/-- Slice value '.slice A n c' holds the bytes zs in world w, in a block below B. -/
def BytesAt (w : World) (B : Nat) (A : Option Addr) (n : Nat) (zs : List Int) : Prop :=
  (zs.length = n ∧ ∀ k, 0 ≤ nth zs k ∧ nth zs k ≤ 255) ∧ (0 < n → ∃ b off, A = some ⟨b, off, none⟩ ∧ b < B ∧ ∀ k, k < n → w.cell? ⟨b, off + k, none⟩ = some (.int .u8 (nth zs k)))
section
variable {w w' : World} {B B' n : Nat} {A : Option Addr} {zs : List Int}
theorem BytesAt.mono (h : BytesAt w B A n zs) (hB : B ≤ B') : BytesAt w B' A n zs :=
  ⟨h.1, fun hn => by
    obtain ⟨b, off, e, hb, hc⟩ := h.2 hn
    exact ⟨b, off, e, by omega, hc⟩⟩
theorem BytesAt.below (h : BytesAt w B A n zs) (hb : Below B w w') : BytesAt w' B A n zs :=
  ⟨h.1, fun hn => by
    obtain ⟨b, off, e, hb', hc⟩ := h.2 hn
    exact ⟨b, off, e, hb', fun k hk' => (hb.cell (p := ⟨b, off + k, none⟩) hb').trans (hc k hk')⟩⟩
theorem BytesAt.after (h : BytesAt w w.heap.size A n zs) (hb : Below w.heap.size w w') : BytesAt w' w'.heap.size A n zs := (h.below hb).mono hb.size
theorem u8_bounds {n : Int} (h : (Lit.int .u8 n).wf = true) : 0 ≤ n ∧ n ≤ 255 := by
  simp [Lit.wf, IntKind.min, IntKind.max, IntKind.signed, IntKind.bits] at h
  omega
end
/-- An argument of type []byte, opened. -/
theorem open_bytes_arg {H : Type} {enc : TypeId × Value → H} {P : Program} {W : World} {base : Nat} {t e : TypeId} {v : Value} {d : DataW H} {p : List MemPlace} (ht : P.underlying t = some (.slice e)) (he : P.underlying e = some (.int .u8)) (hc : P.cellsOf e = 1)
    (hv : Value.okWide P W .any base t v) (h : DataW.Trod enc P W 0 (fun _ => true) true t v d p) (hlt : ∀ x ∈ p, x.block < W.heap.size) :
    ∃ (A : Option Addr) (n c : Nat) (zs : List Int), v = .slice A n c ∧ BytesAt W W.heap.size A n zs ∧ n ≤ maxLen ∧ n ≤ c := by
  obtain ⟨A, n, c, rfl⟩ := okWide_slice ht hv
  obtain ⟨fuel, hf⟩ := h
  rcases open_ints ht he hc hf with ⟨h0, _⟩ | ⟨a, len, cap, ys, h1, _, hl, hm, hy, hx, hcell, hwf⟩
  · simp [Value.cells] at h0
    obtain ⟨rfl, rfl, rfl⟩ := h0
    exact ⟨_, _, _, [], rfl, ⟨⟨rfl, fun k => by simp [nth]⟩, fun h => absurd h (by omega)⟩, by simp [maxLen], Nat.le_refl _⟩
  · simp [Value.cells] at h1
    obtain ⟨rfl, rfl, rfl⟩ := h1
    simp only [if_true] at hy
    have hw : ∀ k, 0 ≤ nth (ys.take n) k ∧ nth (ys.take n) k ≤ 255 := by
      intro k
      by_cases hk : k < (ys.take n).length
      · rw [nth_get _ _ hk]
        exact u8_bounds (hwf _ (List.mem_of_mem_take (List.getElem_mem hk)))
      · simp [nth, List.getD, List.getElem?_eq_none (Nat.le_of_not_lt hk)]
    refine ⟨_, _, _, ys.take n, rfl, ⟨⟨by simp; omega, hw⟩, fun hn => ?_⟩, by omega, hl⟩
    obtain ⟨b, off, rfl, hc'⟩ := ints_at hcell (by omega)
    refine ⟨b, off, rfl, ?_, fun k hk => ?_⟩
    · have hpx : p = MemPlace.row ⟨b, off, none⟩ ys.length := by simpa using congrArg Prod.snd hx
      have : MemPlace.cell b off ∈ p := by
        rw [hpx]
        simp [MemPlace.row]
        omega
      exact hlt _ this
    · rw [hc' k (by omega)]
      have : nth (ys.take n) k = ys.getD k 0 := by
        simp [nth, List.getD, hk]
      rw [this]
end Go.Proofs.Ytplabaneihjcoaa
