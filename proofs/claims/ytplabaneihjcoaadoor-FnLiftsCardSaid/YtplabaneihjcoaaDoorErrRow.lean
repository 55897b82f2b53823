/-
  Plain helper for the laws behind a door: the row's last step out of 'Below', where the row lists one variable of the package (an error).
-/
import Derived.Test.YtplabaneihjcoaaDoorBase
import Derived.Stop.LaidErr
import Derived.LaidMore
import Derived.Stop.Joined
namespace Go.Proofs.YtplabaneihjcoaaDoor
open Go.ChangeShapes Go.WideShapes Go.ChangeAt Go.RowKit

section
variable {H : Type} {enc : TypeId × Value → H} {P : Program}

theorem var_below {W W' : World} {n : String} {g : Nat} {cs : Array Value} (hg : P.globalNamed n = some g) (hlt : g < W.heap.size) (hb : Below W.heap.size W W') (h : W.var? P n = some cs) : W'.var? P n = some cs := by
  unfold World.var? at h ⊢
  simp only [hg, Option.bind_some] at h ⊢
  rw [hb.block g hlt]
  exact h

theorem law_post1 {f : Func} {s : ChangeSpec} {W W' : World} {args : Array Value} {ds : List (DataW H)} {before : List MemPlace} {tb : TypeId}
    {n : String} {g : Nat} {ti : TypeId} {ms : Array (String × TypeId)} {x : Value}
    (hl : laidOutB P = true) (hr : f.params.toList.all (fun t => P.readableRec t && decide (t < P.types.size)) = true)
    (hW : DataW.Whole enc P f.params.toList s.vars false W args.toList ds [tok enc x] before) (hv : s.vars = [n])
    (hg : P.globalNamed n = some g) (ht : (P.globals[g]?).map (·.type) = some ti) (hi : P.underlying ti = some (.interface ms)) (hlt0 : g < W.heap.size) (hx : W.var? P n = some #[x]) (ix : IsIface x)
    (hres : f.resultTypes = #[tb]) (htb : P.underlying tb = some .bool)
    (hsr : (s.fn H (ds ++ [tok enc x])).results = [.lit (.bool true)]) (hsa : (s.fn H (ds ++ [tok enc x])).args = ds) (hsv : (s.fn H (ds ++ [tok enc x])).vars = [tok enc x])
    (hb : Below W.heap.size W W') : s.post enc P f false true false false W args (.bool true) W' := by
  have hlt : ∀ p ∈ before, p.block < W.heap.size := fun p hp => hW.lt p hp
  have hW' := hW
  obtain ⟨p, q, hA, hV, rfl, _, _⟩ := hW'
  rw [hv] at hV
  have hx' := var_below hg hlt0 hb hx
  refine ⟨ds, [tok enc x], p ++ q, [], p, [.cell g 0], hW, ?_, ?_, ?_, hb.frame _, fun h => by cases h⟩
  · rw [hsr, hres]
    exact trodAll_mk1 (shut_bool htb _)
  · rw [hsa]
    refine trodAll_keep hl hb _ _ _ _ (fun t ht => ?_) hA (fun x hx => hlt x (by simp [hx]))
    have := List.all_eq_true.1 hr t ht
    simpa using this
  · rw [hsv, hv]
    exact vars_read1 enc hg ht hi hx' ix _
end

end Go.Proofs.YtplabaneihjcoaaDoor
