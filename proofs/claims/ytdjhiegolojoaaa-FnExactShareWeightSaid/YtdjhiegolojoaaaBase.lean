/-
  Plain helpers for the laws of this seat: the row's last step out of 'Below', and words for slices of ints. No Go function is spoken of here.
-/
import Derived.WalkKit
import Derived.ProofKit
import Derived.OpenShut
import Derived.SizedLaws
import Derived.ChangeSame
import Derived.Lib.Hide
import Derived.Deep.OwnRows
import Derived.Deep.Draws
namespace Go.Proofs.Ytdjhiegolojoaaa
open Go.ChangeShapes Go.WideShapes Go.ChangeAt Go.RowKit

section
variable {H : Type} {enc : TypeId × Value → H} {P : Program}

theorem trodAll_keep (hl : laidOutB P = true) {W W' : World} (hb : Below W.heap.size W W') :
    ∀ (ts : List TypeId) (vs : List Value) (ds : List (DataW H)) (ps : List MemPlace), (∀ t ∈ ts, P.readableRec t = true ∧ t < P.types.size) →
      DataW.TrodAll enc P W 0 (fun _ => true) true ts vs ds ps → (∀ x ∈ ps, x.block < W.heap.size) → DataW.TrodAll enc P W' 0 (fun b => decide (b < W.heap.size)) true ts vs ds ps
  | [], vs, ds, ps, _, h, _ => by
    obtain ⟨rfl, rfl, rfl⟩ := trodAll_nil h
    exact rfl
  | t :: ts, vs, ds, ps, ht, h, hlt => by
    obtain ⟨v, vs', d, ds', p, q, rfl, rfl, rfl, h1, h2⟩ := trodAll_cons h
    exact ⟨p, q, Below.trod hl (ht t (by simp)).1 (ht t (by simp)).2 h1 hb (fun x hx => hlt x (by simp [hx])), trodAll_keep hl hb ts vs' ds' q (fun u hu => ht u (by simp [hu])) h2 (fun x hx => hlt x (by simp [hx])), rfl⟩

/-- The row's post of a law: true is returned, the arguments read as before, nothing that was there has turned. -/
theorem law_post {f : Func} {s : ChangeSpec} {W W' : World} {args : Array Value} {ds : List (DataW H)} {before : List MemPlace} {tb : TypeId}
    (hl : laidOutB P = true) (hr : f.params.toList.all (fun t => P.readableRec t && decide (t < P.types.size)) = true)
    (hW : DataW.Whole enc P f.params.toList s.vars false W args.toList ds [] before) (hv : s.vars = [])
    (hres : f.resultTypes = #[tb]) (htb : P.underlying tb = some .bool)
    (hsr : (s.fn H (ds ++ [])).results = [.lit (.bool true)]) (hsa : (s.fn H (ds ++ [])).args = ds) (hsv : (s.fn H (ds ++ [])).vars = [])
    (hb : Below W.heap.size W W') : s.post enc P f false true false false W args (.bool true) W' := by
  have hlt : ∀ p ∈ before, p.block < W.heap.size := fun p hp => hW.lt p hp
  have hW' := hW
  obtain ⟨p, q, hA, hV, rfl, _, _⟩ := hW'
  rw [hv] at hV
  obtain ⟨_, rfl⟩ := trodVars_none hV
  refine ⟨ds, [], p ++ [], [], p, [], hW, ?_, ?_, ?_, hb.frame _, fun h => by cases h⟩
  · rw [hsr, hres]
    exact trodAll_mk1 (shut_bool htb _)
  · rw [hsa]
    refine trodAll_keep hl hb _ _ _ _ (fun t ht => ?_) hA (fun x hx => hlt x (by simp [hx]))
    have := List.all_eq_true.1 hr t ht
    simpa using this
  · rw [hsv, hv]; exact rfl
end

/-! ### Integers -/
theorem i64_bounds {n : Int} (h : (Lit.int .i64 n).wf = true) : -9223372036854775808 ≤ n ∧ n ≤ 9223372036854775807 := by
  simp [Lit.wf, IntKind.min, IntKind.max, IntKind.signed, IntKind.bits] at h
  omega
theorem ret_int {k : IntKind} {a b : Int} (h : a = b) : Ending.returned (.int k a) = .returned (.int k b) := by rw [h]
theorem ret_bool {a b : Bool} (h : a = b) : Ending.returned (.bool a) = .returned (.bool b) := by rw [h]
theorem bool_or {a b : Bool} (h : a = b) : (a == b) = true := by simp [h]

/-- 'a ≤ x and x ≤ b', as a Bool that the walk leaves alone. -/
def inB (x a b : Int) : Bool := decide (a ≤ x ∧ x ≤ b)
theorem inB_t {x a b : Int} (h : a ≤ x ∧ x ≤ b) : inB x a b = true := by simp [inB, h]
theorem inB_f {x a b : Int} (h : ¬ (a ≤ x ∧ x ≤ b)) : inB x a b = false := by simpa [inB] using h
theorem inB_iff {x a b : Int} : inB x a b = true ↔ a ≤ x ∧ x ≤ b := by simp [inB]
theorem inB_iff_f {x a b : Int} : inB x a b = false ↔ ¬ (a ≤ x ∧ x ≤ b) := by simp [inB]

/-- One cell that reads as an int (a struct's field). -/
theorem open_int_cell {H : Type} {enc : TypeId × Value → H} {P : Program} {w : World} {base : Nat} {spare : Nat → Bool} {held : Bool} {fuel : Nat} {t : TypeId} {v : Value} {y : DataW H × List MemPlace}
    (ht : P.underlying t = some (.int .i64)) (h : DataW.trod enc P w base spare held fuel t [v] = some y) : ∃ a, v = .int .i64 a ∧ (-9223372036854775808 ≤ a ∧ a ≤ 9223372036854775807) := by
  obtain ⟨n', h1, _, hw⟩ := DataW.trod_int ht h
  simp at h1
  exact ⟨n', h1, i64_bounds hw⟩

/-! ### Behind a call that made memory -/
theorem below_drewN {B : Nat} {a w : World} (h : Below B a w) (n : Nat) : Below B a (w.drewN n) := ⟨h.os, h.tape, h.output, h.size, h.block⟩
theorem bcell {W w1 : World} (hb : Below W.heap.size W w1) : (∀ b o, b < W.heap.size → w1.cell? ⟨b, o, none⟩ = W.cell? ⟨b, o, none⟩) ∧ (∀ b o, b < W.heap.size → w1.frozen? ⟨b, o, none⟩ = W.frozen? ⟨b, o, none⟩) :=
  ⟨fun b o h => hb.cell (p := ⟨b, o, none⟩) h, fun b o h => hb.frozen (p := ⟨b, o, none⟩) h⟩

/-! ### A slice of ints that reads as a list -/
/-- The k-th number of a list, 0 behind its end: a plain name that the walk leaves alone. -/
def nth (zs : List Int) (k : Nat) : Int := zs.getD k 0
theorem nth_eq (zs : List Int) (k : Nat) : nth zs k = zs.getD k 0 := rfl
theorem nth_get (zs : List Int) (k : Nat) (h : k < zs.length) : nth zs k = zs[k] := by simp [nth, List.getD, h]

/-- Slice value '.slice A n c' holds the numbers zs in world w, in a block below B. -/
def IntsAt (w : World) (B : Nat) (A : Option Addr) (n : Nat) (zs : List Int) : Prop :=
  zs.length = n ∧ (0 < n → ∃ b off, A = some ⟨b, off, none⟩ ∧ b < B ∧ ∀ k, k < n → w.cell? ⟨b, off + k, none⟩ = some (.int .i64 (nth zs k)))

section
variable {w w' : World} {B B' n : Nat} {A : Option Addr} {zs : List Int}
theorem IntsAt.len (h : IntsAt w B A n zs) : zs.length = n := h.1
theorem IntsAt.keep (h : IntsAt w B A n zs) (hk : ∀ p : Addr, p.block < B → w'.cell? p = w.cell? p) : IntsAt w' B A n zs :=
  ⟨h.1, fun hn => by
    obtain ⟨b, off, e, hb, hc⟩ := h.2 hn
    exact ⟨b, off, e, hb, fun k hk' => (hk ⟨b, off + k, none⟩ hb).trans (hc k hk')⟩⟩
theorem IntsAt.mono (h : IntsAt w B A n zs) (hB : B ≤ B') : IntsAt w B' A n zs :=
  ⟨h.1, fun hn => by
    obtain ⟨b, off, e, hb, hc⟩ := h.2 hn
    exact ⟨b, off, e, by omega, hc⟩⟩
theorem IntsAt.below (h : IntsAt w B A n zs) (hb : Below B w w') : IntsAt w' B A n zs := h.keep fun _ hp => hb.cell hp
theorem IntsAt.alloc (h : IntsAt w B A n zs) (hB : B ≤ w.heap.size) (o : Obj) : IntsAt (w.alloc o) B A n zs := h.keep fun p hp => World.cell?_alloc_lt w o p (by omega)
theorem IntsAt.drew (h : IntsAt w B A n zs) : IntsAt w.drew B A n zs := h
theorem IntsAt.nil : IntsAt w B A 0 [] := ⟨rfl, fun h => absurd h (by omega)⟩
/-- A row of ints that reads as a list. -/
theorem intsAt_row {g : Nat} {t : TypeId} {f : Nat → Value} (h : w.rowIs g t n f) (hz : zs.length = n) (hf : ∀ k, k < n → f k = .int .i64 (nth zs k)) : IntsAt w w.heap.size (some ⟨g, 0, none⟩) n zs :=
  ⟨hz, fun _ => ⟨g, 0, rfl, h.lt, fun k hk => by rw [Nat.zero_add, h.cell hk, hf k hk]⟩⟩
end

theorem list_ext_nth {xs ys : List Int} (hl : xs.length = ys.length) (h : ∀ k, k < xs.length → nth xs k = nth ys k) : xs = ys := by
  refine List.ext_getElem hl fun k h1 h2 => ?_
  have := h k h1
  rwa [nth_get _ _ h1, nth_get _ _ h2] at this

/-- An argument of type []int, opened. -/
theorem open_ints_arg {H : Type} {enc : TypeId × Value → H} {P : Program} {W : World} {base : Nat} {t e : TypeId} {v : Value} {d : DataW H} {p : List MemPlace} (ht : P.underlying t = some (.slice e)) (he : P.underlying e = some (.int .i64)) (hc : P.cellsOf e = 1)
    (hv : Value.okWide P W .any base t v) (h : DataW.Trod enc P W 0 (fun _ => true) true t v d p) (hlt : ∀ x ∈ p, x.block < W.heap.size) :
    ∃ (A : Option Addr) (n c : Nat) (zs : List Int), v = .slice A n c ∧ IntsAt W W.heap.size A n zs ∧ n ≤ maxLen ∧ n ≤ c ∧ (∀ k, -9223372036854775808 ≤ nth zs k ∧ nth zs k ≤ 9223372036854775807) := by
  obtain ⟨A, n, c, rfl⟩ := okWide_slice ht hv
  obtain ⟨fuel, hf⟩ := h
  rcases open_ints ht he hc hf with ⟨h0, _⟩ | ⟨a, len, cap, ys, h1, _, hl, hm, hy, hx, hcell, hwf⟩
  · simp [Value.cells] at h0
    obtain ⟨rfl, rfl, rfl⟩ := h0
    exact ⟨_, _, _, [], rfl, IntsAt.nil, by simp [maxLen], Nat.le_refl _, fun k => by simp [nth]⟩
  · simp [Value.cells] at h1
    obtain ⟨rfl, rfl, rfl⟩ := h1
    simp only [if_true] at hy
    have hw : ∀ k, -9223372036854775808 ≤ nth (ys.take n) k ∧ nth (ys.take n) k ≤ 9223372036854775807 := by
      intro k
      by_cases hk : k < (ys.take n).length
      · rw [nth_get _ _ hk]
        exact i64_bounds (hwf _ (List.mem_of_mem_take (List.getElem_mem hk)))
      · simp [nth, List.getD, List.getElem?_eq_none (Nat.le_of_not_lt hk)]
    refine ⟨_, _, _, ys.take n, rfl, ⟨by simp; omega, fun hn => ?_⟩, by omega, hl, hw⟩
    obtain ⟨b, off, rfl, hc'⟩ := ints_at hcell (by omega)
    refine ⟨b, off, rfl, ?_, fun k hk => ?_⟩
    · have hpx : p = MemPlace.row ⟨b, off, none⟩ ys.length := by simpa using congrArg Prod.snd hx
      have : MemPlace.cell b off ∈ p := by
        rw [hpx]
        simp [MemPlace.row]
        omega
      exact hlt _ this
    · rw [hc' k (by omega)]
      have : nth (ys.take n) k = ys.getD k 0 := by
        simp [nth, List.getD, hk]
      rw [this]

end Go.Proofs.Ytdjhiegolojoaaa
