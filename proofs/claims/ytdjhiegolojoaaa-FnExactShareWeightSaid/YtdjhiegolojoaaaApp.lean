/-
  Words: 'out = append(out, z)' in a loop, in one step. No Go function is spoken of here.
-/
import Derived.Test.YtdjhiegolojoaaaOwn
import Derived.Test.YtdjhiegolojoaaaWInts
namespace Go.Proofs.Ytdjhiegolojoaaa
open Go.RowKit

theorem wpList_app {P : Program} (w : World) {ops : Array Oper} {rest : List Oper} {o : Oper} {a : Act} {Q : Exit → Act → World → Prop} (hgd : o.guard = none) (s x : Operand) (t : TypeId)
    (ho : o.op = .call { callee := .builtin .append, args := #[s, x], argTypes := #[t, t] })
    (base : Nat) (E : TypeId) (ht : P.underlying t = some (.slice E)) (hinfo : (P.info? E).map (fun i => (i.zero, i.size, i.bytes)) = some (some (.int .i64 0), 1, 8))
    (v : Value) (xs : List Int) (hs : a.eval s = v) (hown : OwnV w base E v xs) (g c : Nat) (z : Int) (hx : a.eval x = .slice (some ⟨g, 0, none⟩) 1 c)
    (hg : w.cell? ⟨g, 0, none⟩ = some (.int .i64 z)) (B : Nat) (w0 : World) (hb : Below B w0 w) (hB : B ≤ base) (hbase : base ≤ w.heap.size) (k : Nat) (hk : xs.length = k) (hk2 : k ≤ 1099511627776) (xs' : List Int) (hxs : xs ++ [z] = xs')
    (h : ∀ g' cap' w', OwnV w' base E (.slice (some ⟨g', 0, none⟩) (k + 1) cap') xs' → Below B w0 w' → wpList P ops Q rest (a.put o.dst (.slice (some ⟨g', 0, none⟩) (k + 1) cap')) w') : wpList P ops Q (o :: rest) a w := by
  subst hk hxs
  refine wpList_append_int w hgd s x t ho base E ht hinfo v xs hs hown g c z hx hg hk2 hbase ?_
  intro g' cap' w' hown' hgr
  refine h g' cap' w' ?_ (hb.grown hgr (by omega) (fun k hk => by have := hown.ownLt k hk; omega))
  have e := hown'.toV
  rw [List.length_append] at e
  exact e

theorem OwnV.slice {w : World} {base : Nat} {E : TypeId} {v : Value} {xs : List Int} (h : OwnV w base E v xs) : ∃ A k c, v = .slice A k c := by
  rcases h.form with ⟨e, _⟩ | ⟨g, cap, e, _⟩
  · exact ⟨_, _, _, e⟩
  · exact ⟨_, _, _, e⟩
/-- A result: a slice of ints in a row of the call's own. -/
def IntsPost (w : World) (L : List Int) (e : Ending) (w' : World) : Prop :=
  ∃ A k c, e = .returned (.slice A k c) ∧ OwnV w' w.heap.size 3 (.slice A k c) L ∧ Below w.heap.size w w'
theorem intsPost {w w' : World} {L : List Int} {A : Option Addr} {k c : Nat} (h : OwnV w' w.heap.size 3 (.slice A k c) L) (hb : Below w.heap.size w w') : IntsPost w L (.returned (.slice A k c)) w' := ⟨A, k, c, rfl, h, hb⟩
theorem intsPost_nil {w w' : World} {L : List Int} (h : L = []) (hb : Below w.heap.size w w') : IntsPost w L (.returned (.slice none 0 0)) w' := by subst h; exact ⟨_, _, _, rfl, OwnV.nil _ _ _, hb⟩
end Go.Proofs.Ytdjhiegolojoaaa
