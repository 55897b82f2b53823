/-
  Texts that the law stands on, part 1.
-/
import Derived.Test.YtbpnbhemdbgmjaaGreatC1
import Derived.Test.YtbpnbhemdbgmjaaGreatC11
import Derived.Test.YtbpnbhemdbgmjaaGreatC12
import Derived.Test.YtbpnbhemdbgmjaaGreatC13
import Derived.Test.YtbpnbhemdbgmjaaGreatC17
import Derived.Test.YtbpnbhemdbgmjaaGreatC19
import Derived.Test.YtbpnbhemdbgmjaaGreatC22
import Derived.Test.YtbpnbhemdbgmjaaGreatC23
import Derived.Deep.Slices
import Derived.Deep.Draws
import Derived.Deep.RegionHeld3
import Derived.KernelRfl
import Derived.Deep.RegionLaw
import Derived.Test.YtbpnbhemdbgmjaaGreatProg
import Derived.IntWalk
import Derived.WalkKit
import Derived.Outline
import Derived.Deep.QuietTactic
import Derived.BigQuiet
import Derived.Deep.DeepCutAuto
set_option linter.unusedVariables false
set_option linter.unusedSimpArgs false
namespace Go.Proofs.YtbpnbhemdbgmjaaGreat
section
open Go.ChangeShapes Go.WideShapes Go.ChangeAt Go.RowKit
section
variable {w w' : World} {B B' K n : Nat} {A : Option Addr} {zs : List Int}
end
theorem open_recs_arg {H : Type} {enc : TypeId × Value → H} {P : Program} {W : World} {base : Nat} {t e : TypeId} {K : Nat} {v : Value} {d : DataW H} {p : List MemPlace} (ht : P.underlying t = some (.slice e)) (hfl : Flat P e K) (hK : 0 < K)
  (hv : Value.okWide P W .any base t v) (h : DataW.Trod enc P W 0 (fun _ => true) true t v d p) (hlt : ∀ x ∈ p, x.block < W.heap.size) :
  ∃ (A : Option Addr) (n c : Nat) (zs : List Int), v = .slice A n c ∧ RecsAt W W.heap.size K A n zs ∧ n ≤ c ∧ c ≤ maxLen ∧ ∀ i, -9223372036854775808 ≤ nth zs i ∧ nth zs i ≤ 9223372036854775807 := by
 obtain ⟨A, n, c, rfl⟩ := okWide_slice ht hv
 obtain ⟨fuel, hf⟩ := h
 exact open_recs_cell ht hfl hK (x := (d, p)) hf hlt
end
section
open Go.ChangeShapes Go.WideShapes Go.ChangeAt Go.RowKit
section
variable {w w' : World} {B B' K n : Nat} {A : Option Addr} {L : List (Nat × List Int)}
theorem NestAt.keep (h : NestAt w B K A n L) (hk : ∀ p : Addr, p.block < B → w'.cell? p = w.cell? p) : NestAt w' B K A n L :=
 ⟨h.1, fun hn => by
  obtain ⟨b, off, e, hb, hc⟩ := h.2 hn
  refine ⟨b, off, e, hb, fun i hi => ?_⟩
  obtain ⟨Ai, ci, h1, h2, h3⟩ := hc i hi
  exact ⟨Ai, ci, (hk ⟨b, off + i, none⟩ hb).trans h1, h2.keep hk, h3⟩⟩
theorem NestAt.below (h : NestAt w B K A n L) (hb : Below B w w') : NestAt w' B K A n L := h.keep fun _ hp => hb.cell hp
theorem NestAt.after (h : NestAt w w.heap.size K A n L) (hb : Below w.heap.size w w') : NestAt w' w'.heap.size K A n L := (h.below hb).mono hb.size
theorem NestAt.alloc (h : NestAt w B K A n L) (hB : B ≤ w.heap.size) (o : Obj) : NestAt (w.alloc o) B K A n L := h.keep fun p hp => World.cell?_alloc_lt w o p (by omega)
end
end
section
open Go.RowKit
section
variable {g : Nat} {w w' w'' : World}
end
theorem fill_step3 (zs : List Int) (i j : Nat) : (if j = i + 2 then Value.int .i64 (nth zs (i + 2)) else if j = i + 1 then Value.int .i64 (nth zs (i + 1)) else if j = i then Value.int .i64 (nth zs i) else fill zs i j) = fill zs (i + 3) j := by
 unfold fill
 by_cases h2 : j = i + 2
 ·subst h2; simp
 ·by_cases h1 : j = i + 1
  ·subst h1; simp
  ·by_cases h0 : j = i
   ·subst h0; simp
   ·by_cases h : j < i
    ·simp [h2, h1, h0, h, show j < i + 3 by omega]
    ·simp [h2, h1, h0, h, show ¬ j < i + 3 by omega]
def IntRow (f : Nat → Value) : Prop := ∀ j, ∃ z : Int, f j = .int .i64 z
end
section
section
variable {P : Program} {ops : Array Oper} {Q : Exit → Act → World → Prop} {md : Region.Mode} {S : World → Prop}
theorem skip_heldS {i d : Nat} {oi : Oper} {fuel : Nat} {listed : Array Bool} {a : Act} {w : World} (hi : ops[i]? = some oi) (hd : oi.dst = some d)
  (h : wpAnyH P md ops Q S fuel (listed.setIfInBounds i true) (a.put (some d) undef) w)
  (hs : Region.noSelect ops = true := by kernel_rfl) (hf : Region.free md ops listed i = true := by kernel_rfl) (hr : (Region.ready md ops listed).contains i = true := by kernel_rfl) (hQ : ∀ c a w, Q (.panic c) (a.put (some d) undef) w → Q (.panic c) a w := by exact fun _ _ _ h => h)
  (hw : Region.wanted oi (yielded ops a.tmps) = false := by kernel_rfl) (hS : S w := by assumption) : wpAnyH P md ops Q S (fuel + 1) listed a w :=
 wpAnyH_take (v := undef) hi hs hf hr (by rw [hd]; exact hQ) (Or.inr ⟨hw, rfl⟩) hS (by rw [hd]; exact h)
end
end
section
open Go.RowKit
section
variable {w w' : World} {base : Nat} {E : TypeId} {K n : Nat} {v : Value} {xs : List Int}
theorem OwnR.drewN (h : OwnR w base E K v n xs) (k : Nat) : OwnR (w.drewN k) base E K v n xs := h
end
theorem OwnR.typeOf {w : World} {base : Nat} {E : TypeId} {K n : Nat} {v : Value} {xs : List Int} (h : OwnR w base E K v n xs) (g : Nat) (hg : v.ownBlock = some g) {T : TypeId} {m : Nat} {f : Nat → Value} (hr : RowF w g T m f) : T = E := by
 rcases h.form with ⟨rfl, _⟩ | ⟨g', cap, rfl, _, _, hr'⟩
 ·simp [Value.ownBlock] at hg
 ·simp [Value.ownBlock] at hg
  subst hg
  obtain ⟨c, hb, _⟩ := hr
  obtain ⟨c', hb', _⟩ := hr'
  rw [hb] at hb'
  simp at hb'
  exact hb'.2
theorem OwnR.blockLt {w : World} {base : Nat} {E : TypeId} {K n : Nat} {v : Value} {xs : List Int} (h : OwnR w base E K v n xs) : ∀ k, v.ownBlock = some k → k < w.heap.size := fun k hk => (World.ownsRow.lt h.1 k hk).2
theorem OwnR.other {w w' : World} {base : Nat} {E : TypeId} {K n : Nat} {u : Value} {xs : List Int} {row : Option Nat} (h : OwnR w base E K u n xs) (hg : w.grownBy w' row) (hne : ∀ k, u.ownBlock = some k → row ≠ some k) : OwnR w' base E K u n xs := by
 refine ⟨⟨h.1.1, ?_⟩, h.2⟩
 rcases h.1.2 with h2 | ⟨g, cap, cur, h1, h2, h3, hr⟩
 ·exact .inl h2
 ·obtain ⟨_, _, _, _, hgg⟩ := hg
  refine .inr ⟨g, cap, cur, h1, h2, (hgg g (Array.getElem?_eq_some_iff.1 h3).1 (fun e => hne g (by rw [h1]; rfl) e.symm)).trans h3, hr⟩
theorem wpList_appR2 {P : Program} (w : World) {ops : Array Oper} {rest : List Oper} {o : Oper} {a : Act} {Q : Exit → Act → World → Prop} (hgd : o.guard = none) (s x : Operand) (t : TypeId)
  (ho : o.op = .call { callee := .builtin .append, args := #[s, x], argTypes := #[t, t] })
  (base : Nat) (E : TypeId) (K bytes : Nat) (zc : Array Value) (ht : P.underlying t = some (.slice E)) (hinfo : (P.info? E).map (fun i => (i.zero, i.size, i.bytes)) = some (some (.agg zc), K, bytes)) (hzc : zc.size = K) (hK : 0 < K) (hby : bytes ≤ 1024)
  (v : Value) (n : Nat) (xs : List Int) (hs : a.eval s = v) (hown : OwnR w base E K v n xs) (g m c : Nat) (ys : List Int) (hx : a.eval x = .slice (some ⟨g, 0, none⟩) m c) (hy : ys.length = m * K)
  (hg : ∀ i, i < m * K → w.cell? ⟨g, i, none⟩ = some (.int .i64 (nth ys i))) (hn : n + m ≤ 1048576) (B : Nat) (w0 : World) (hb : Below B w0 w) (hB : B ≤ base) (hbase : base ≤ w.heap.size) (xs' : List Int) (hxs : xs ++ ys = xs')
  (u : Value) (nu : Nat) (us : List Int) (hu : OwnR w base E K u nu us) (hap : ApartV v u)
  (h : ∀ g' cap' w', OwnR w' base E K (.slice (some ⟨g', 0, none⟩) (n + m) cap') (n + m) xs' → Below B w0 w' → OwnR w' base E K u nu us → ApartV (.slice (some ⟨g', 0, none⟩) (n + m) cap') u → (∀ g2 T m2 f, T ≠ E → RowF w g2 T m2 f → RowF w' g2 T m2 f) → wpList P ops Q rest (a.put o.dst (.slice (some ⟨g', 0, none⟩) (n + m) cap')) w') (hm : 1 ≤ m) : wpList P ops Q (o :: rest) a w := by
 subst hxs
 obtain ⟨i0, hi0, hz0, hz1, hz2⟩ := info_parts hinfo
 have hbb : (n + m) * bytes ≤ 1048576 * 1024 := Nat.mul_le_mul hn hby
 have hnews : ∀ j v, (ys.map (Value.int .i64))[j]? = some v → w.cell? ((⟨g, 0, none⟩ : Addr).add j) = some v := by
  intro j u hj
  have hjl : j < ys.length := by
   have := (List.getElem?_eq_some_iff.1 hj).1
   simpa using this
  rw [List.getElem?_map, List.getElem?_eq_getElem hjl] at hj
  simp at hj
  subst hj
  rw [Go.WideShapes.add_plain, Nat.zero_add, hg j (by rw [← hy]; exact hjl), nth_get ys j hjl]
 have hone : ∀ v ∈ ys.map (Value.int .i64), v.oneCell' = true := by
  intro u hu
  obtain ⟨z, _, rfl⟩ := List.mem_map.1 hu
  rfl
 have fin : ∀ g' cap' w', w'.ownsRow base E K (.slice (some ⟨g', 0, none⟩) (n + m) cap') (n + m) (xs.map (Value.int .i64) ++ ys.map (Value.int .i64)) → w.grownBy w' v.ownBlock → (v.ownBlock = some g' ∨ w.heap.size ≤ g') → wpList P ops Q rest (a.put o.dst (.slice (some ⟨g', 0, none⟩) (n + m) cap')) w' := by
  intro g' cap' w' ho' hgr hwhere
  refine h g' cap' w' ⟨by rw [List.map_append]; exact ho', by rw [List.length_append, hown.2, hy, Nat.add_mul]⟩ (hb.grown hgr (by omega) (fun k hk => by have := hown.ownLt k hk; omega)) (hu.other hgr (fun k hk e => hap k e hk)) ?_ (fun g2 T m2 f hT hr => hr.of_block (grown_block hgr g2 hr.lt (fun e => hT (hown.typeOf g2 e.symm hr))))
  intro k hk hk2
  simp [Value.ownBlock] at hk
  subst hk
  rcases hwhere with e | e
  ·exact hap _ e hk2
  ·have := hu.blockLt _ hk2
   omega
 by_cases hfit : ∃ g0 cap0, v = .slice (some ⟨g0, 0, none⟩) n cap0 ∧ n + m ≤ cap0
 ·obtain ⟨g0, cap0, rfl, hfit⟩ := hfit
  refine wpList_append_fits w hgd s x t ho base E i0 K ht hi0 hz1 g0 n cap0 _ hs hown.1 ⟨g, 0, none⟩ m c _ hx (by simpa using hy) hnews hone hfit ?_
  intro w' ho' hgr
  exact fin g0 cap0 w' ho' hgr (.inl rfl)
 ·obtain ⟨A0, cap0, rfl, hnc⟩ := hown.slice
  have hA : A0 = none → n = 0 ∧ cap0 = 0 := by
   intro e
   subst e
   rcases hown.form with ⟨e, e2, _⟩ | ⟨g0, c0, e, _⟩
   ·simp at e
    exact ⟨e2, e.2⟩
   ·simp at e
  have hrec := hown.recs
  have hfull : cap0 < n + m := by
   rcases hown.form with ⟨e, e2, _⟩ | ⟨g0, c0, e, _⟩
   ·simp at e
    omega
   ·simp at e
    obtain ⟨rfl, rfl⟩ := e
    have : ¬ n + m ≤ cap0 := fun hh => hfit ⟨g0, cap0, rfl, hh⟩
    omega
  refine wpList_append_grows w hgd s x t ho E i0 (.agg zc) K bytes ht hi0 hz0 hz1 hz2 (by simpa [Value.cells] using hzc) hK A0 n cap0 (xs.map (Value.int .i64)) hs hA (by simpa using hown.2) ?_ ⟨g, 0, none⟩ m c _ hx (by simpa using hy) hnews hone hfull (by unfold maxLen; omega) (by omega) ?_
  ·intro b hb' j v hj
   subst hb'
   have hjl : j < xs.length := by
    have := (List.getElem?_eq_some_iff.1 hj).1
    simpa using this
   rw [List.getElem?_map, List.getElem?_eq_getElem hjl] at hj
   simp at hj
   subst hj
   have hn0 : 0 < n := by
    rcases Nat.eq_zero_or_pos n with e | e
    ·rw [hown.2, e, Nat.zero_mul] at hjl; omega
    ·exact e
   obtain ⟨b', off, e, _, hcc⟩ := hrec.2 hn0
   simp at e
   subst e
   rw [Go.WideShapes.add_plain, hcc j (by rw [← hown.2]; exact hjl), nth_get xs j hjl]
  ·intro v' w' ho' hgr
   have hgr' : w.grownBy w' (Value.slice A0 n cap0).ownBlock := by
    obtain ⟨a1, a2, a3, a4, a5⟩ := hgr
    exact ⟨a1, a2, a3, a4, fun k hk _ => a5 k hk (by simp)⟩
   rcases ho'.2 with ⟨_, h2⟩ | ⟨g', cap', cur, rfl, hg', hr⟩
   ·omega
   ·refine fin g' cap' w' ⟨ho'.1, .inr ⟨g', cap', cur, rfl, by omega, hr⟩⟩ hgr' (.inr hg')
end
section
open Go.RowKit
theorem step_appRT {P : Program} {ops : Array Oper} {o : Oper} {a : Act} {w : World} {K : Act → World → Prop} {Q : Exit → Act → World → Prop} {F : Prop} (hgd : o.guard = none) (s x : Operand) (t : TypeId)
  (ho : o.op = .call { callee := .builtin .append, args := #[s, x], argTypes := #[t, t] })
  (base : Nat) (E : TypeId) (Kr bytes : Nat) (zc : Array Value) (ht : P.underlying t = some (.slice E)) (hinfo : (P.info? E).map (fun i => (i.zero, i.size, i.bytes)) = some (some (.agg zc), Kr, bytes)) (hzc : zc.size = Kr) (hK : 0 < Kr) (hby : bytes ≤ 1024)
  (v : Value) (n : Nat) (xs : List Int) (hs : a.eval s = v) (hown : OwnR w base E Kr v n xs) (g m c : Nat) (ys : List Int) (hx : a.eval x = .slice (some ⟨g, 0, none⟩) m c) (hy : ys.length = m * Kr)
  (hg : ∀ i, i < m * Kr → w.cell? ⟨g, i, none⟩ = some (.int .i64 (nth ys i))) (hn : n + m ≤ 1048576) (B : Nat) (w0 : World) (hb : Below B w0 w) (hB : B ≤ base) (hbase : base ≤ w.heap.size) (xs' : List Int) (hxs : xs ++ ys = xs') (hm : 1 ≤ m)
  (h : ∀ g' cap' w', OwnR w' base E Kr (.slice (some ⟨g', 0, none⟩) (n + m) cap') (n + m) xs' → Below B w0 w' → (∀ g2 T m2 f, T ≠ E → RowF w g2 T m2 f → RowF w' g2 T m2 f) → K (a.put o.dst (.slice (some ⟨g', 0, none⟩) (n + m) cap')) w') : if Region.wanted o (yielded ops a.tmps) = true then Oper.wp P o a w K Q else F := by
 have hw : Region.wanted o (yielded ops a.tmps) = true := by simp [Region.wanted, hgd]
 rw [if_pos hw]
 subst hxs
 obtain ⟨i0, hi0, hz0, hz1, hz2⟩ := info_parts hinfo
 have hbb : (n + m) * bytes ≤ 1048576 * 1024 := Nat.mul_le_mul hn hby
 refine wp_append_own (P := P) w s x t ho base E i0 (.agg zc) Kr bytes ht hi0 hz0 hz1 hz2 (by simpa [Value.cells] using hzc) hK v n _ hs hown.1 ⟨g, 0, none⟩ m c (ys.map (Value.int .i64)) hx (by simpa using hy) ?_ ?_ (by unfold maxLen; omega) (by omega) hbase ?_
 ·intro j u hj
  have hjl : j < ys.length := by
   have := (List.getElem?_eq_some_iff.1 hj).1
   simpa using this
  rw [List.getElem?_map, List.getElem?_eq_getElem hjl] at hj
  simp at hj
  subst hj
  rw [Go.WideShapes.add_plain, Nat.zero_add, hg j (by rw [← hy]; exact hjl), nth_get ys j hjl]
 ·intro u hu
  obtain ⟨z, _, rfl⟩ := List.mem_map.1 hu
  rfl
 ·intro v' w' hown' hgr _
  have h' : OwnR w' base E Kr v' (n + m) (xs ++ ys) := ⟨by rw [List.map_append]; exact hown', by rw [List.length_append, hown.2, hy, Nat.add_mul]⟩
  rcases h'.form with ⟨_, h2, _⟩ | ⟨g', cap', rfl, _⟩
  ·omega
  ·exact h g' cap' w' h' (hb.grown hgr (by omega) (fun k hk => by have := hown.ownLt k hk; omega)) (fun g2 T m2 f hT hr => hr.of_block (grown_block hgr g2 hr.lt (fun e => hT (hown.typeOf g2 e.symm hr))))
end
end Go.Proofs.YtbpnbhemdbgmjaaGreat
section
namespace Go.Proofs.Tryzx
theorem func12 : prog.funcs[12]? = some Tryz.f12 := by kernel_rfl
theorem func19 : prog.funcs[19]? = some Tryz.f19 := by kernel_rfl
theorem func20 : prog.funcs[20]? = some Tryz.f20 := by kernel_rfl
theorem func25 : prog.funcs[25]? = some Tryz.f25 := by kernel_rfl
theorem func42 : prog.funcs[42]? = some Tryz.f42 := by kernel_rfl
theorem func55 : prog.funcs[55]? = some Tryz.f55 := by kernel_rfl
theorem func56 : prog.funcs[56]? = some Tryz.f56 := by kernel_rfl
theorem func57 : prog.funcs[57]? = some Tryz.f57 := by kernel_rfl
theorem func58 : prog.funcs[58]? = some Tryz.f58 := by kernel_rfl
theorem func69 : prog.funcs[69]? = some Tryz.f69 := by kernel_rfl
theorem func71 : prog.funcs[71]? = some Tryz.f71 := by kernel_rfl
theorem func72 : prog.funcs[72]? = some Tryz.f72 := by kernel_rfl
theorem func73 : prog.funcs[73]? = some Tryz.f73 := by kernel_rfl
theorem func92 : prog.funcs[92]? = some Tryz.f92 := by kernel_rfl
theorem func93 : prog.funcs[93]? = some Tryz.f93 := by kernel_rfl
theorem func96 : prog.funcs[96]? = some Tryz.f96 := by kernel_rfl
theorem func105 : prog.funcs[105]? = some Tryz.f105 := by kernel_rfl
theorem func106 : prog.funcs[106]? = some Tryz.f106 := by kernel_rfl
theorem func107 : prog.funcs[107]? = some Tryz.f107 := by kernel_rfl
theorem func120 : prog.funcs[120]? = some Tryz.f120 := by kernel_rfl
theorem underlying27 : prog.underlying 27 = some (Go.TypeDesc.slice 123) := (underlying_x 27).trans Tryz.underlying27
theorem underlying70 : prog.underlying 70 = some (Go.TypeDesc.slice 125) := (underlying_x 70).trans Tryz.underlying70
theorem underlying83 : prog.underlying 83 = some (Go.TypeDesc.slice 85) := (underlying_x 83).trans Tryz.underlying83
theorem underlying125 : prog.underlying 125 = some (Go.TypeDesc.struct #[{ name := "Stone", type := 3, offset := 0, embedded := false, tag := "", pkgPath := "", byteOffset := 0 }, { name := "Weight", type := 3, offset := 1, embedded := false, tag := "", pkgPath := "", byteOffset := 8 }, { name := "X", type := 3, offset := 2, embedded := false, tag := "", pkgPath := "", byteOffset := 16 }]) := (underlying_x 125).trans Tryz.underlying125
theorem underlying148 : prog.underlying 148 = some (Go.TypeDesc.slice 43) := (underlying_x 148).trans Tryz.underlying148
@[simp] theorem call12 (args w) : Sem.run prog (callFunc 12 args) w = .ok (.enter 12 args) w := call_x 12 args w func12
@[simp] theorem call19 (args w) : Sem.run prog (callFunc 19 args) w = .ok (.enter 19 args) w := call_x 19 args w func19
@[simp] theorem call20 (args w) : Sem.run prog (callFunc 20 args) w = .ok (.enter 20 args) w := call_x 20 args w func20
@[simp] theorem call25 (args w) : Sem.run prog (callFunc 25 args) w = .ok (.enter 25 args) w := call_x 25 args w func25
@[simp] theorem call42 (args w) : Sem.run prog (callFunc 42 args) w = .ok (.enter 42 args) w := call_x 42 args w func42
@[simp] theorem call55 (args w) : Sem.run prog (callFunc 55 args) w = .ok (.enter 55 args) w := call_x 55 args w func55
@[simp] theorem call56 (args w) : Sem.run prog (callFunc 56 args) w = .ok (.enter 56 args) w := call_x 56 args w func56
@[simp] theorem call57 (args w) : Sem.run prog (callFunc 57 args) w = .ok (.enter 57 args) w := call_x 57 args w func57
@[simp] theorem call58 (args w) : Sem.run prog (callFunc 58 args) w = .ok (.enter 58 args) w := call_x 58 args w func58
@[simp] theorem call69 (args w) : Sem.run prog (callFunc 69 args) w = .ok (.enter 69 args) w := call_x 69 args w func69
@[simp] theorem call71 (args w) : Sem.run prog (callFunc 71 args) w = .ok (.enter 71 args) w := call_x 71 args w func71
@[simp] theorem call72 (args w) : Sem.run prog (callFunc 72 args) w = .ok (.enter 72 args) w := call_x 72 args w func72
@[simp] theorem call73 (args w) : Sem.run prog (callFunc 73 args) w = .ok (.enter 73 args) w := call_x 73 args w func73
@[simp] theorem call92 (args w) : Sem.run prog (callFunc 92 args) w = .ok (.enter 92 args) w := call_x 92 args w func92
@[simp] theorem call93 (args w) : Sem.run prog (callFunc 93 args) w = .ok (.enter 93 args) w := call_x 93 args w func93
@[simp] theorem call96 (args w) : Sem.run prog (callFunc 96 args) w = .ok (.enter 96 args) w := call_x 96 args w func96
@[simp] theorem call105 (args w) : Sem.run prog (callFunc 105 args) w = .ok (.enter 105 args) w := call_x 105 args w func105
@[simp] theorem call106 (args w) : Sem.run prog (callFunc 106 args) w = .ok (.enter 106 args) w := call_x 106 args w func106
@[simp] theorem call107 (args w) : Sem.run prog (callFunc 107 args) w = .ok (.enter 107 args) w := call_x 107 args w func107
@[simp] theorem call120 (args w) : Sem.run prog (callFunc 120 args) w = .ok (.enter 120 args) w := call_x 120 args w func120
end Go.Proofs.Tryzx
end
namespace Go.Proofs.YtbpnbhemdbgmjaaGreat
namespace X
open Go.RowKit
theorem loadAt_1 {ls : List Int} {n i : Nat} (h : inB (nth ls (i * 3)) 0 ((n : Int) - 2) = false) : loadAt ls n i = false := by simp [loadAt, h]
theorem loadAt_2 {ls : List Int} (n : Nat) {i : Nat} (h : inB (nth ls (i * 3 + 1)) 0 10000 = false) : loadAt ls n i = false := by simp [loadAt, h]
theorem loadAt_3 {ls : List Int} (n : Nat) {i : Nat} (h : inB (nth ls (i * 3 + 2)) (-60) 60 = false) : loadAt ls n i = false := by simp [loadAt, h]
theorem loadAt_t {ls : List Int} {n i : Nat} (h1 : inB (nth ls (i * 3)) 0 ((n : Int) - 2) = true) (h2 : inB (nth ls (i * 3 + 1)) 0 10000 = true) (h3 : inB (nth ls (i * 3 + 2)) (-60) 60 = true) : loadAt ls n i = true := by simp [loadAt, h1, h2, h3]
theorem loadsB_1 {zs : List Int} {n : Nat} (ls : List Int) (q : Nat) (h : archB zs n = false) : loadsB zs n ls q = false := by simp [loadsB, h]
theorem loadsB_2 (zs : List Int) (n : Nat) (ls : List Int) {q : Nat} (h : ¬ q ≤ 6) : loadsB zs n ls q = false := by simp [loadsB, h]
theorem loadsB_3 (zs : List Int) {n : Nat} {ls : List Int} {q k : Nat} (hk : k < q) (h : loadAt ls n k = false) : loadsB zs n ls q = false := by simp [loadsB, allB_f hk h]
set_option maxRecDepth 100000 in
set_option maxHeartbeats 1600000 in
theorem sLoadsOk_any (A : Option Addr) (n c : Nat) (zs : List Int) (B : Option Addr) (q d : Nat) (ls : List Int) (w : World) (h : RecsAt w w.heap.size 4 A n zs) (hn : n ≤ 1048576) (hl : RecsAt w w.heap.size 3 B q ls) (hq : q ≤ 1048576) :
  Calls Tryzx.prog 92 #[.agg #[.slice A n c], .slice B q d] w fun e w' => e = .returned (.bool (loadsB zs n ls q)) ∧ Below w.heap.size w w' := by
 have HA := Lib.hid ((Below.refl w.heap.size w).alloc (Nat.le_refl _) (.cells #[.slice A n c] 26))
 have H := Lib.hid h
 have HL := Lib.hid hl
 clear h hl
 go_enter Tryzx.func92, Tryz.ntmps92
 go_wp2
 go_loopw [5] (fun i wr => ∃ k : Nat, k ≤ q ∧ i = .int .i64 k ∧ allTo (loadAt ls n) k ∧ wr.cell? ⟨w.heap.size, 0, none⟩ = some (.slice A n c) ∧ Below w.heap.size w wr) (fun i _ => q - (intOf i).toNat)
 case atStart => exact ⟨0, Nat.zero_le _, rfl, allTo_0 _, cell_new0 _ _ _, HA.out⟩
 case round =>
  clear HA
  obtain ⟨k, hk, rfl, hag, hbox, hb⟩ := hrel
  have HB := Lib.hid hb
  have hgl := World.block_lt_of_cell? wr _ hbox
  simp only at hgl
  by_cases hlt : k < q
  ·obtain ⟨b, off, rfl, hbB, hc⟩ := HL.out.2 (by omega)
   obtain ⟨x0, x1, x2⟩ := ldCells (fun i hi => (hb.cell (by exact hbB)).trans (hc i hi)) hlt
   have hz := hb.size
   have HB0 := Lib.hid (fun o => hb.alloc hz o)
   have HBX := Lib.hid (fun o => (World.cell?_alloc_lt wr o ⟨w.heap.size, 0, none⟩ (by simp; omega)).trans hbox)
   clear hb hc
   have T1 := Lib.hid (fun e => loadsB_3 zs hlt (loadAt_1 (ls := ls) (n := n) (i := k) e))
   have T2 := Lib.hid (fun e => loadsB_3 zs hlt (loadAt_2 (ls := ls) n (i := k) e))
   have T3 := Lib.hid (fun e => loadsB_3 zs hlt (loadAt_3 (ls := ls) n (i := k) e))
   have TS := Lib.hid (fun e1 e2 e3 => allTo_step hag (loadAt_t (ls := ls) (n := n) (i := k) e1 e2 e3))
   generalize nth ls (k * 3) = y0 at *
   generalize nth ls (k * 3 + 1) = y1 at *
   generalize nth ls (k * 3 + 2) = y2 at *
   clear hag
   cases h1 : inB y0 0 ((n : Int) - 2)
   ·have HF := Lib.hid (T1.out h1)
    go_wp2_with (go_at_call 126; refine (l01In_any _ _ _ _).mono ?_; rw [h1]; rintro e w' ⟨rfl, rfl⟩)
    go_ret
    exact ⟨ret_bool HF.out.symm, HB0.out _⟩
   ·cases h2 : inB y1 0 10000
    ·have HF := Lib.hid (T2.out h2)
     go_wp2_with (go_at_call 126; refine (l01In_any _ _ _ _).mono ?_; (first | rw [h1] | rw [h2]); rintro e w' ⟨rfl, rfl⟩)
     go_ret
     exact ⟨ret_bool HF.out.symm, HB0.out _⟩
    ·cases h3 : inB y2 (-60) 60
     ·have HF := Lib.hid (T3.out h3)
      go_wp2_with (go_at_call 126; refine (l01In_any _ _ _ _).mono ?_; (first | rw [h1] | rw [h2] | rw [h3]); rintro e w' ⟨rfl, rfl⟩)
      go_ret
      exact ⟨ret_bool HF.out.symm, HB0.out _⟩
     ·have HS := Lib.hid (TS.out h1 h2 h3)
      go_wp2_with (go_at_call 126; refine (l01In_any _ _ _ _).mono ?_; (first | rw [h1] | rw [h2] | rw [h3]); rintro e w' ⟨rfl, rfl⟩)
      go_roundw
      case rel => exact ⟨k + 1, by omega, by go_num, HS.out, HBX.out _, HB0.out _⟩
      case measure => first | (simp [intOf]; done) | (simp [intOf]; omega)
  ·obtain rfl : k = q := by omega
   have HAG := Lib.hid hag
   have h1 := (H.out.below hb).mono hb.size
   clear hb hag
   cases hA : archB zs n
   ·have HF := Lib.hid (loadsB_1 ls k hA)
    go_wp2_with fail
    refine (sArchOk_any _ _ _ zs _ h1 hn).mono ?_
    rw [hA]
    rintro e w1 ⟨rfl, hb1⟩
    have HB1 := Lib.hid (HB.out.trans (hb1.mono HB.out.size))
    go_wp2
    go_ret
    exact ⟨ret_bool HF.out.symm, HB1.out⟩
   ·by_cases hq6 : k ≤ 6
    ·have HF := Lib.hid (loadsB_t hA hq6 HAG.out)
     have ht : decide ((k : Int) ≤ 6) = true := by simp; omega
     go_wp2_with fail
     refine (sArchOk_any _ _ _ zs _ h1 hn).mono ?_
     rw [hA]
     rintro e w1 ⟨rfl, hb1⟩
     have HB1 := Lib.hid (HB.out.trans (hb1.mono HB.out.size))
     go_wp2
     go_ret
     exact ⟨ret_bool HF.out.symm, HB1.out⟩
    ·have HF := Lib.hid (loadsB_2 zs n ls hq6)
     have ht : decide ((k : Int) ≤ 6) = false := by simp; omega
     go_wp2_with fail
     refine (sArchOk_any _ _ _ zs _ h1 hn).mono ?_
     rw [hA]
     rintro e w1 ⟨rfl, hb1⟩
     have HB1 := Lib.hid (HB.out.trans (hb1.mono HB.out.size))
     go_wp2
     go_ret
     exact ⟨ret_bool HF.out.symm, HB1.out⟩
set_option maxRecDepth 100000 in
set_option maxHeartbeats 1600000 in
theorem iLoadsOk_any (A : Option Addr) (n c : Nat) (zs : List Int) (B : Option Addr) (q d : Nat) (ls : List Int) (w : World) (h : RecsAt w w.heap.size 4 A n zs) (hn : n ≤ 1048576) (hl : RecsAt w w.heap.size 3 B q ls) (hq : q ≤ 1048576) :
  Calls Tryzx.prog 120 #[.agg #[.slice A n c], .slice B q d] w fun e w' => e = .returned (.bool (loadsB zs n ls q)) ∧ Below w.heap.size w w' := by
 have HA := Lib.hid ((Below.refl w.heap.size w).alloc (Nat.le_refl _) (.cells #[.slice A n c] 26))
 have h1 : RecsAt (w.alloc (.cells #[.slice A n c] 26)) (w.alloc (.cells #[.slice A n c] 26)).heap.size 4 A n zs := (h.alloc (Nat.le_refl _) _).mono (by simp)
 have HL := Lib.hid hl
 clear h hl
 cases hA : archB zs n
 ·have HF := Lib.hid (loadsB_1 ls q hA)
  go_enter Tryzx.func120, Tryz.ntmps120
  go_wp2_with fail
  refine (iArchOk_any _ _ _ zs _ h1 hn).mono ?_
  rw [hA]
  rintro e w1 ⟨rfl, hb1⟩
  have HB1 := Lib.hid (HA.out.trans (hb1.mono (by simp)))
  go_wp2
  go_ret
  exact ⟨ret_bool HF.out.symm, HB1.out⟩
 by_cases hq6 : q ≤ 6
 ·have ht : ¬ (6 : Int) < (q : Int) := by omega
  have HT := Lib.hid (fun h3 => loadsB_t (ls := ls) hA hq6 h3)
  go_enter Tryzx.func120, Tryz.ntmps120
  go_wp2_with fail
  refine (iArchOk_any _ _ _ zs _ h1 hn).mono ?_
  rw [hA]
  rintro e w1 ⟨rfl, hb1⟩
  have HB1 := Lib.hid (HA.out.trans (hb1.mono (by simp)))
  have hbox1 := (hb1.cell (p := ⟨w.heap.size, 0, none⟩) (by simp)).trans (cell_new0 _ _ _)
  clear hb1
  go_wp2
  go_loopw [17] (fun i wr => ∃ k : Nat, k ≤ q ∧ i = .int .i64 k ∧ allTo (loadAt ls n) k ∧ wr.cell? ⟨w.heap.size, 0, none⟩ = some (.slice A n c) ∧ Below w.heap.size w wr) (fun i _ => q - (intOf i).toNat)
  case atStart => exact ⟨0, Nat.zero_le _, rfl, allTo_0 _, hbox1, HB1.out⟩
  case round =>
   clear HA HB1 hbox1
   obtain ⟨k, hk, rfl, hag, hbox, hb⟩ := hrel
   have HB := Lib.hid hb
   have hgl := World.block_lt_of_cell? wr _ hbox
   simp only at hgl
   by_cases hlt : k < q
   ·obtain ⟨b, off, rfl, hbB, hc⟩ := HL.out.2 (by omega)
    obtain ⟨x0, x1, x2⟩ := ldCells (fun i hi => (hb.cell (by exact hbB)).trans (hc i hi)) hlt
    have hz := hb.size
    have HB0 := Lib.hid (fun o => hb.alloc hz o)
    have HBX := Lib.hid (fun o => (World.cell?_alloc_lt wr o ⟨w.heap.size, 0, none⟩ (by simp; omega)).trans hbox)
    clear hb hc
    have T1 := Lib.hid (fun e => loadsB_3 zs hlt (loadAt_1 (ls := ls) (n := n) (i := k) e))
    have T2 := Lib.hid (fun e => loadsB_3 zs hlt (loadAt_2 (ls := ls) n (i := k) e))
    have T3 := Lib.hid (fun e => loadsB_3 zs hlt (loadAt_3 (ls := ls) n (i := k) e))
    have TS := Lib.hid (fun e1 e2 e3 => allTo_step hag (loadAt_t (ls := ls) (n := n) (i := k) e1 e2 e3))
    generalize nth ls (k * 3) = y0 at *
    generalize nth ls (k * 3 + 1) = y1 at *
    generalize nth ls (k * 3 + 2) = y2 at *
    clear hag
    cases g1 : inB y0 0 ((n : Int) - 2)
    ·have HF := Lib.hid (T1.out g1)
     go_wp2_with (go_at_call 112; refine (within_any _ _ _ _).mono ?_; rw [g1]; rintro e w' ⟨rfl, rfl⟩)
     go_ret
     exact ⟨ret_bool HF.out.symm, HB0.out _⟩
    ·cases g2 : inB y1 0 10000
     ·have HF := Lib.hid (T2.out g2)
      go_wp2_with (go_at_call 112; refine (within_any _ _ _ _).mono ?_; (first | rw [g1] | rw [g2]); rintro e w' ⟨rfl, rfl⟩)
      go_ret
      exact ⟨ret_bool HF.out.symm, HB0.out _⟩
     ·cases g3 : inB y2 (-60) 60
      ·have HF := Lib.hid (T3.out g3)
       go_wp2_with (first | (go_at_call 112; refine (within_any _ _ _ _).mono ?_; (first | rw [g1] | rw [g2]); rintro e w' ⟨rfl, rfl⟩) | (go_at_call 164; refine (isPlace_any _ _).mono ?_; rw [g3]; rintro e w' ⟨rfl, rfl⟩))
       go_ret
       exact ⟨ret_bool HF.out.symm, HB0.out _⟩
      ·have HS := Lib.hid (TS.out g1 g2 g3)
       go_wp2_with (first | (go_at_call 112; refine (within_any _ _ _ _).mono ?_; (first | rw [g1] | rw [g2]); rintro e w' ⟨rfl, rfl⟩) | (go_at_call 164; refine (isPlace_any _ _).mono ?_; rw [g3]; rintro e w' ⟨rfl, rfl⟩))
       go_roundw
       case rel => exact ⟨k + 1, by omega, by go_num, HS.out, HBX.out _, HB0.out _⟩
       case measure => first | (simp [intOf]; done) | (simp [intOf]; omega)
   ·obtain rfl : k = q := by omega
    have HF := Lib.hid (HT.out hag)
    clear hb hag
    go_wp2
    go_ret
    exact ⟨ret_bool HF.out.symm, HB.out⟩
 ·have HF := Lib.hid (loadsB_2 zs n ls hq6)
  have ht : (6 : Int) < (q : Int) := by omega
  go_enter Tryzx.func120, Tryz.ntmps120
  go_wp2_with fail
  refine (iArchOk_any _ _ _ zs _ h1 hn).mono ?_
  rw [hA]
  rintro e w1 ⟨rfl, hb1⟩
  have HB1 := Lib.hid (HA.out.trans (hb1.mono (by simp)))
  go_wp2
  go_ret
  exact ⟨ret_bool HF.out.symm, HB1.out⟩
end X
namespace X
open Go.RowKit
theorem leftW_bd {ls : List Int} {n q : Nat} (zs : List Int) (h : allTo (loadAt ls n) q) (hq : q ≤ 6) : ∀ k : Nat, -(200000 * (k : Int)) ≤ leftW zs ls q k ∧ leftW zs ls q k ≤ 200000 * (k : Int)
 | 0 => by simp [leftW]
 | k + 1 => by
  have ih := leftW_bd zs h hq k
  have := kwTo_bd zs h hq k (Nat.le_refl q)
  simp only [leftW]
  omega
theorem leftM_bd {ls : List Int} {n q : Nat} (zs : List Int) (h : allTo (loadAt ls n) q) (hq : q ≤ 6) : ∀ k : Nat, -(9000000 * (k : Int)) ≤ leftM zs ls q k ∧ leftM zs ls q k ≤ 9000000 * (k : Int)
 | 0 => by simp [leftM]
 | k + 1 => by
  have ih := leftM_bd zs h hq k
  have := kmTo_bd zs h hq k (Nat.le_refl q)
  simp only [leftM]
  omega
end X
namespace X
open Go.RowKit
section
variable {zs : List Int} {W M W' M' : Nat → Int}
theorem rowTo_congr : ∀ {n : Nat}, (∀ k, k < n → W k = W' k ∧ M k = M' k) → rowTo zs W M n = rowTo zs W' M' n
 | 0, _ => rfl
 | n + 1, h => by
  simp only [rowTo]
  rw [rowTo_congr (fun k hk => h k (by omega))]
  simp only [rowJ, (h n (by omega)).1, (h n (by omega)).2]
theorem rowsL_congr {n : Nat} (h : ∀ k, k < n → W k = W' k ∧ M k = M' k) : rowsL zs W M n = rowsL zs W' M' n := by
 unfold rowsL
 rw [rowTo_congr h]
end
end X
namespace X
open Go.RowKit
theorem infoInt : (Tryzx.prog.info? 3).map (fun i => (i.zero, i.size, i.bytes)) = some (some (.int .i64 0), 1, 8) := by kernel_rfl
end X
namespace X
open Go.RowKit
section
variable {w w1 w2 : World}
end
theorem calls_below {P : Program} {f : FuncId} {args : Array Value} {w : World} {e0 : Ending} (h : Calls P f args w fun e w' => e = e0 ∧ w = w') : Calls P f args w fun e w' => e = e0 ∧ Below w.heap.size w w' :=
 h.mono fun _ _ ⟨he, hw⟩ => ⟨he, by subst hw; exact Below.refl _ _⟩
end X
namespace Rn
open Go.Conc Go.WideShapes
section
variable {P : Program} {w : World} {r : Reach} {base : Nat} {t e u : TypeId} {fs : Array Field} {A : Option Addr} {n c : Nat}
theorem slice_atCells (ht : P.underlying t = some (.slice e)) (h : Value.okWide P w r base t (.slice A n c)) : AtCells w A := by
 simp only [Value.okWide, ht] at h
 exact cell_atCells ht h
end
section
variable {noT : TypeId} {ws : List Win} {v : World} {B K n i : Nat} {A : Option Addr} {zs : List Int}
end
end Rn
end Go.Proofs.YtbpnbhemdbgmjaaGreat
section
namespace Go.Proofs.Tryzx
theorem ntmps12 : Tryz.f12.ntmps = 45 := Tryz.ntmps12
theorem ntmps55 : Tryz.f55.ntmps = 12 := Tryz.ntmps55
theorem ntmps57 : Tryz.f57.ntmps = 23 := Tryz.ntmps57
theorem ntmps58 : Tryz.f58.ntmps = 27 := Tryz.ntmps58
theorem ntmps106 : Tryz.f106.ntmps = 14 := Tryz.ntmps106
theorem ntmps107 : Tryz.f107.ntmps = 20 := Tryz.ntmps107
end Go.Proofs.Tryzx
end
namespace Go.Proofs.YtbpnbhemdbgmjaaGreat
section
open Go.RowKit
theorem OwnR.rowInts {w : World} {base : Nat} {E : TypeId} {A : Option Addr} {n c : Nat} {xs : List Int} (h : OwnR w base E 1 (.slice A n c) n xs) (hn : 0 < n) : ∃ g, A = some ⟨g, 0, none⟩ ∧ base ≤ g ∧ RowF w g E n (Go.Proofs.YtbpnbhemdbgmjaaGreat.ints xs) := by
 rcases h.form with ⟨_, h2, _⟩ | ⟨g, cap, e, h2, _, hr⟩
 ·omega
 ·simp at e
  rw [Nat.mul_one] at hr
  exact ⟨g, e.1, h2, hr⟩
end
section
open Go.RowKit
theorem wpList_appZ2 {P : Program} (w : World) {ops : Array Oper} {rest : List Oper} {o : Oper} {a : Act} {Q : Exit → Act → World → Prop} (hgd : o.guard = none) (s x : Operand) (t : TypeId)
  (ho : o.op = .call { callee := .builtin .append, args := #[s, x], argTypes := #[t, t] })
  (base : Nat) (E : TypeId) (K bytes : Nat) (zv : Value) (ht : P.underlying t = some (.slice E)) (hinfo : (P.info? E).map (fun i => (i.zero, i.size, i.bytes)) = some (some zv, K, bytes)) (hzc : zv.cells.size = K) (hK : 0 < K) (hby : bytes ≤ 1024)
  (v : Value) (n : Nat) (xs : List Int) (hs : a.eval s = v) (hown : OwnR w base E K v n xs) (g m c : Nat) (ys : List Int) (hx : a.eval x = .slice (some ⟨g, 0, none⟩) m c) (hy : ys.length = m * K)
  (hg : ∀ i, i < m * K → w.cell? ⟨g, i, none⟩ = some (.int .i64 (nth ys i))) (hn : n + m ≤ 1048576) (B : Nat) (w0 : World) (hb : Below B w0 w) (hB : B ≤ base) (hbase : base ≤ w.heap.size) (xs' : List Int) (hxs : xs ++ ys = xs')
  (u : Value) (nu : Nat) (us : List Int) (hu : OwnR w base E K u nu us) (hap : ApartV v u)
  (h : ∀ g' cap' w', OwnR w' base E K (.slice (some ⟨g', 0, none⟩) (n + m) cap') (n + m) xs' → Below B w0 w' → OwnR w' base E K u nu us → ApartV (.slice (some ⟨g', 0, none⟩) (n + m) cap') u → (∀ g2 T m2 f, T ≠ E → RowF w g2 T m2 f → RowF w' g2 T m2 f) → wpList P ops Q rest (a.put o.dst (.slice (some ⟨g', 0, none⟩) (n + m) cap')) w') (hm : 1 ≤ m) : wpList P ops Q (o :: rest) a w := by
 subst hxs
 obtain ⟨i0, hi0, hz0, hz1, hz2⟩ := info_parts hinfo
 have hbb : (n + m) * bytes ≤ 1048576 * 1024 := Nat.mul_le_mul hn hby
 have hnews : ∀ j v, (ys.map (Value.int .i64))[j]? = some v → w.cell? ((⟨g, 0, none⟩ : Addr).add j) = some v := by
  intro j u hj
  have hjl : j < ys.length := by
   have := (List.getElem?_eq_some_iff.1 hj).1
   simpa using this
  rw [List.getElem?_map, List.getElem?_eq_getElem hjl] at hj
  simp at hj
  subst hj
  rw [Go.WideShapes.add_plain, Nat.zero_add, hg j (by rw [← hy]; exact hjl), nth_get ys j hjl]
 have hone : ∀ v ∈ ys.map (Value.int .i64), v.oneCell' = true := by
  intro u hu
  obtain ⟨z, _, rfl⟩ := List.mem_map.1 hu
  rfl
 have fin : ∀ g' cap' w', w'.ownsRow base E K (.slice (some ⟨g', 0, none⟩) (n + m) cap') (n + m) (xs.map (Value.int .i64) ++ ys.map (Value.int .i64)) → w.grownBy w' v.ownBlock → (v.ownBlock = some g' ∨ w.heap.size ≤ g') → wpList P ops Q rest (a.put o.dst (.slice (some ⟨g', 0, none⟩) (n + m) cap')) w' := by
  intro g' cap' w' ho' hgr hwhere
  refine h g' cap' w' ⟨by rw [List.map_append]; exact ho', by rw [List.length_append, hown.2, hy, Nat.add_mul]⟩ (hb.grown hgr (by omega) (fun k hk => by have := hown.ownLt k hk; omega)) (hu.other hgr (fun k hk e => hap k e hk)) ?_ (fun g2 T m2 f hT hr => hr.of_block (grown_block hgr g2 hr.lt (fun e => hT (hown.typeOf g2 e.symm hr))))
  intro k hk hk2
  simp [Value.ownBlock] at hk
  subst hk
  rcases hwhere with e | e
  ·exact hap _ e hk2
  ·have := hu.blockLt _ hk2
   omega
 by_cases hfit : ∃ g0 cap0, v = .slice (some ⟨g0, 0, none⟩) n cap0 ∧ n + m ≤ cap0
 ·obtain ⟨g0, cap0, rfl, hfit⟩ := hfit
  refine wpList_append_fits w hgd s x t ho base E i0 K ht hi0 hz1 g0 n cap0 _ hs hown.1 ⟨g, 0, none⟩ m c _ hx (by simpa using hy) hnews hone hfit ?_
  intro w' ho' hgr
  exact fin g0 cap0 w' ho' hgr (.inl rfl)
 ·obtain ⟨A0, cap0, rfl, hnc⟩ := hown.slice
  have hA : A0 = none → n = 0 ∧ cap0 = 0 := by
   intro e
   subst e
   rcases hown.form with ⟨e, e2, _⟩ | ⟨g0, c0, e, _⟩
   ·simp at e
    exact ⟨e2, e.2⟩
   ·simp at e
  have hrec := hown.recs
  have hfull : cap0 < n + m := by
   rcases hown.form with ⟨e, e2, _⟩ | ⟨g0, c0, e, _⟩
   ·simp at e
    omega
   ·simp at e
    obtain ⟨rfl, rfl⟩ := e
    have : ¬ n + m ≤ cap0 := fun hh => hfit ⟨g0, cap0, rfl, hh⟩
    omega
  refine wpList_append_grows w hgd s x t ho E i0 zv K bytes ht hi0 hz0 hz1 hz2 hzc hK A0 n cap0 (xs.map (Value.int .i64)) hs hA (by simpa using hown.2) ?_ ⟨g, 0, none⟩ m c _ hx (by simpa using hy) hnews hone hfull (by unfold maxLen; omega) (by omega) ?_
  ·intro b hb' j v hj
   subst hb'
   have hjl : j < xs.length := by
    have := (List.getElem?_eq_some_iff.1 hj).1
    simpa using this
   rw [List.getElem?_map, List.getElem?_eq_getElem hjl] at hj
   simp at hj
   subst hj
   have hn0 : 0 < n := by
    rcases Nat.eq_zero_or_pos n with e | e
    ·rw [hown.2, e, Nat.zero_mul] at hjl; omega
    ·exact e
   obtain ⟨b', off, e, _, hcc⟩ := hrec.2 hn0
   simp at e
   subst e
   rw [Go.WideShapes.add_plain, hcc j (by rw [← hown.2]; exact hjl), nth_get xs j hjl]
  ·intro v' w' ho' hgr
   have hgr' : w.grownBy w' (Value.slice A0 n cap0).ownBlock := by
    obtain ⟨a1, a2, a3, a4, a5⟩ := hgr
    exact ⟨a1, a2, a3, a4, fun k hk _ => a5 k hk (by simp)⟩
   rcases ho'.2 with ⟨_, h2⟩ | ⟨g', cap', cur, rfl, hg', hr⟩
   ·omega
   ·refine fin g' cap' w' ⟨ho'.1, .inr ⟨g', cap', cur, rfl, by omega, hr⟩⟩ hgr' (.inr hg')
end
namespace X
open Go.RowKit
theorem lwL_nth {zs ls : List Int} {q k j : Nat} (h : j < k) : nth (lwL zs ls q k) j = leftW zs ls q j := by simp [nth, lwL, List.getD, h]
theorem lmL_nth {zs ls : List Int} {q k j : Nat} (h : j < k) : nth (lmL zs ls q k) j = leftM zs ls q j := by simp [nth, lmL, List.getD, h]
theorem lwL_step (zs ls : List Int) (q k : Nat) : lwL zs ls q (k + 1) ++ [leftW zs ls q k + kwTo zs ls k q] = lwL zs ls q (k + 1 + 1) := by simp [lwL, List.range_succ, leftW]
theorem lmL_step (zs ls : List Int) (q k : Nat) : lmL zs ls q (k + 1) ++ [leftM zs ls q k + kmTo zs ls k q] = lmL zs ls q (k + 1 + 1) := by simp [lmL, List.range_succ, leftM]
def LeftPostO (w : World) (zs ls : List Int) (q n : Nat) (e : Ending) (w' : World) : Prop :=
 ∃ A c A' c', e = .returned (.tuple #[.slice A n c, .slice A' n c']) ∧ OwnR w' (w.heap.size + 1) 3 1 (.slice A n c) n (lwL zs ls q n) ∧ OwnR w' (w.heap.size + 1) 3 1 (.slice A' n c') n (lmL zs ls q n) ∧ Below w.heap.size w w'
theorem LRel.drewN {w wr : World} {zs ls : List Int} {q j : Nat} {va v6 v7 : Value} (h : LRel w zs ls q j va v6 v7 wr) (m : Nat) : LRel w zs ls q j va v6 v7 (wr.drewN m) := ⟨h.ws, h.ms, h.apart, h.box.drewN m, below_drewN h.below m⟩
set_option maxRecDepth 100000 in
set_option maxHeartbeats 3200000 in
theorem sLeftO_any (A : Option Addr) (n c : Nat) (zs : List Int) (B : Option Addr) (q d : Nat) (ls : List Int) (w : World) (h : RecsAt w w.heap.size 4 A n zs) (hl : RecsAt w w.heap.size 3 B q ls) (hL : loadsB zs n ls q = true) :
  Calls Tryzx.prog 93 #[.agg #[.slice A n c], .slice B q d] w (LeftPostO w zs ls q n) := by
 obtain ⟨hA, hq6, hLA⟩ := loadsB_out hL
 obtain ⟨hn8, hpt⟩ := archB_out hA
 have HPT := Lib.hid hpt
 have HLA := Lib.hid hLA
 have HKB := Lib.hid (fun k i hi => kwTo_bd zs hLA hq6 k (i := i) hi)
 have HMB := Lib.hid (fun k i hi => kmTo_bd zs hLA hq6 k (i := i) hi)
 have HWB := Lib.hid (leftW_bd zs hLA hq6)
 have HNB := Lib.hid (leftM_bd zs hLA hq6)
 obtain ⟨b, off, rfl, hbB, hcell⟩ := h.2 (by omega)
 have HC := Lib.hid (fun j (hj : j < n) => jtCells hcell hj)
 have HLD := Lib.hid hl
 have HR0 : Hid (LRel w zs ls q 1 (.slice (some ⟨b, off, none⟩) n c) (.slice (some ⟨w.heap.size + 1, 0, none⟩) 1 1) (.slice (some ⟨w.heap.size + 1 + 1, 0, none⟩) 1 1) (((w.alloc (.cells #[.slice (some ⟨b, off, none⟩) n c] 26)).alloc (.cells #[.int .i64 0] 3)).alloc (.cells #[.int .i64 0] 3))) := by
  have e1 : (w.alloc (.cells #[.slice (some ⟨b, off, none⟩) n c] 26)).heap.size = w.heap.size + 1 := World.size_alloc _ _
  have e2 : ((w.alloc (.cells #[.slice (some ⟨b, off, none⟩) n c] 26)).alloc (.cells #[.int .i64 0] 3)).heap.size = w.heap.size + 1 + 1 := by rw [World.size_alloc, e1]
  have h1 := World.ownsRow_lit (base := w.heap.size + 1) (e := 3) (size := 1) (w.alloc (.cells #[.slice (some ⟨b, off, none⟩) n c] 26)) #[.int .i64 0] 1 (by omega) (by simp [maxLen]) (by simp)
  have h2 := World.ownsRow_lit (base := w.heap.size + 1) (e := 3) (size := 1) ((w.alloc (.cells #[.slice (some ⟨b, off, none⟩) n c] 26)).alloc (.cells #[.int .i64 0] 3)) #[.int .i64 0] 1 (by omega) (by simp [maxLen]) (by simp)
  rw [e1] at h1
  rw [e2] at h2
  refine ⟨⟨World.ownsRow.alloc h1 _, by simp [lwL]⟩, ⟨h2, by simp [lmL]⟩, ?_, ((rowF_new1S w _ _).alloc _).alloc _, (((Below.refl _ _).alloc (Nat.le_refl _) _).alloc (by simp) _).alloc (by simp; omega) _⟩
  intro k hk hk2
  simp [Value.ownBlock] at hk hk2
  omega
 clear hcell h hl hL hA hLA hpt
 go_enter Tryzx.func93, Tryz.ntmps93
 go_wp2
 go_loopw [6, 7, 8] (fun v6 v7 v8 wr => ∃ k : Nat, k + 1 ≤ n ∧ v8 = .int .i64 ((k : Int) + 1) ∧ Hid (LRel w zs ls q (k + 1) (.slice (some ⟨b, off, none⟩) n c) v6 v7 wr)) (fun _ _ v8 _ => n - (intOf v8).toNat)
 case atStart => exact ⟨0, by omega, rfl, HR0⟩
 case round =>
  clear HR0
  obtain ⟨k, hk, rfl, HR⟩ := hrel
  obtain ⟨A6, c6, rfl, hc6⟩ := HR.out.ws.slice
  obtain ⟨A7, c7, rfl, hc7⟩ := HR.out.ms.slice
  have hz := HR.out.below.size
  have hbox : wr.cell? ⟨w.heap.size, 0, none⟩ = some (.slice (some ⟨b, off, none⟩) n c) := HR.out.box.cell (by omega)
  have hgl := HR.out.box.lt
  by_cases hlt : k + 1 < n
  ·have hq := HC.out k (by omega)
   have hq2 := HC.out (k + 1) (by omega)
   have hbr : b < wr.heap.size := by omega
   have x0 := (HR.out.below.cell (p := ⟨b, off + k * 4, none⟩) hbB).trans hq.1
   have x1 := (HR.out.below.cell (p := ⟨b, off + k * 4 + 1, none⟩) hbB).trans hq.2.1
   have x2 := (HR.out.below.cell (p := ⟨b, off + k * 4 + 2, none⟩) hbB).trans hq.2.2.1
   have x3 := (HR.out.below.cell (p := ⟨b, off + k * 4 + 3, none⟩) hbB).trans hq.2.2.2
   have y0 := (HR.out.below.cell (p := ⟨b, off + (k + 1) * 4, none⟩) hbB).trans hq2.1
   have y1 := (HR.out.below.cell (p := ⟨b, off + (k + 1) * 4 + 1, none⟩) hbB).trans hq2.2.1
   have y2 := (HR.out.below.cell (p := ⟨b, off + (k + 1) * 4 + 2, none⟩) hbB).trans hq2.2.2.1
   have y3 := (HR.out.below.cell (p := ⟨b, off + (k + 1) * 4 + 3, none⟩) hbB).trans hq2.2.2.2
   have i1 : IntKind.i64.wrap (k : Int) = (k : Int) := IntWalk.i64_in _ (by omega)
   have i1' : IntKind.i64.wrap ((k : Int) + 1 - 1) = (k : Int) := by rw [Int.add_sub_cancel]; exact i1
   have i2 : (k : Int) < (n : Int) := by omega
   have i3 : (k : Int) + 1 < (n : Int) := by omega
   have i4 : (0 : Int) ≤ (k : Int) + 1 := by omega
   have i5 : ((k : Int) + 1).toNat = k + 1 := by omega
   have i6 : (0 : Int) ≤ (k : Int) := by omega
   have i7 : (k : Int) < (k : Int) + 1 := by omega
   have i8 : (k : Int) < ((k + 1 : Nat) : Int) := by omega
   have ne1 : wr.heap.size ≠ w.heap.size := by omega
   have ne2 : wr.heap.size ≠ b := by omega
   have HST : Hid (btwA zs k = btw (nth zs (k * 4)) (nth zs (k * 4 + 1)) (nth zs (k * 4 + 2)) (nth zs (k * 4 + 3)) (nth zs ((k + 1) * 4)) (nth zs ((k + 1) * 4 + 1)) (nth zs ((k + 1) * 4 + 2)) (nth zs ((k + 1) * 4 + 3))) := rfl
   have hS : stoneB (btw (nth zs (k * 4)) (nth zs (k * 4 + 1)) (nth zs (k * 4 + 2)) (nth zs (k * 4 + 3)) (nth zs ((k + 1) * 4)) (nth zs ((k + 1) * 4 + 1)) (nth zs ((k + 1) * 4 + 2)) (nth zs ((k + 1) * 4 + 3))) 4 = true := by
    have := HPT.out k (by omega)
    simp only [pairB, Bool.and_eq_true] at this
    exact this.1
   clear hq hq2
   obtain ⟨wk, rfl⟩ : ∃ wk : World, wk = wr := ⟨_, rfl⟩
   go_upto_region 6 with fail
   go_cut [9] (fun s9 wx => ∃ gs gq : Nat, s9 = .pointer (some ⟨gs, 0, none⟩) ∧ wk.heap.size ≤ gs ∧ Hid (Box wx gs (.slice (some ⟨gq, 0, none⟩) 4 4)) ∧ Hid (RecsAt wx wx.heap.size 2 (some ⟨gq, 0, none⟩) 4 (btwA zs k)) ∧ Hid (Below wk.heap.size wk wx))
   case first =>
    go_region_held3 (fun w' => w'.cell? ⟨w.heap.size, 0, none⟩ = some (.slice (some ⟨b, off, none⟩) n c) ∧ (w'.cell? ⟨b, off + k * 4, none⟩ = some (.int .i64 (nth zs (k * 4))) ∧ w'.cell? ⟨b, off + k * 4 + 1, none⟩ = some (.int .i64 (nth zs (k * 4 + 1))) ∧ w'.cell? ⟨b, off + k * 4 + 2, none⟩ = some (.int .i64 (nth zs (k * 4 + 2))) ∧ w'.cell? ⟨b, off + k * 4 + 3, none⟩ = some (.int .i64 (nth zs (k * 4 + 3)))) ∧ (w'.cell? ⟨b, off + (k + 1) * 4, none⟩ = some (.int .i64 (nth zs ((k + 1) * 4))) ∧ w'.cell? ⟨b, off + (k + 1) * 4 + 1, none⟩ = some (.int .i64 (nth zs ((k + 1) * 4 + 1))) ∧ w'.cell? ⟨b, off + (k + 1) * 4 + 2, none⟩ = some (.int .i64 (nth zs ((k + 1) * 4 + 2))) ∧ w'.cell? ⟨b, off + (k + 1) * 4 + 3, none⟩ = some (.int .i64 (nth zs ((k + 1) * 4 + 3))))) (first | exact ⟨hbox, ⟨x0, x1, x2, x3⟩, ⟨y0, y1, y2, y3⟩⟩ | (refine keepA (by assumption) (fun i => ?_) ?_ <;> first | exact cell_alloc_lt (by first | (simp; done) | (simp; omega) | omega) | exact (cell_alloc_lt (by first | (simp; done) | (simp; omega) | omega)).trans (cell_alloc_lt (by first | (simp; done) | (simp; omega) | omega)).symm | exact hcc _ _ (by first | (simp; done) | (simp; omega) | omega) | exact World.cell?_setCell_far _ _ _ _ (by first | (simp; done) | (simp; omega) | omega))) ((go_at_call 134; refine (sBetween_any _ _ _ _ _ _ _ _ _).mono ?_; rintro e w1 ⟨A1, n1, c1, rfl, ht, _, hb1⟩; obtain ⟨rfl, rfl, gq, rfl, hrq, hgq⟩ := ht hS; rw [hS]; obtain ⟨hcc, hff⟩ := bcell hb1; have k1 := hb1.size; simp at k1; have k2 : w1.heap.size ≠ w.heap.size := (by omega); have k3 : w1.heap.size ≠ b := (by omega)))
    ·go_wp2_with fail
     go_meet
     have hzk := hb1.size
     simp at hzk
     have hgl2 := hrq.lt
     exact ⟨w1.heap.size, gq, rfl, by omega, Lib.hid (Box.new _ _ _), Lib.hid ((show RowF (w1.alloc _) gq 43 (4 * 2) (ints (btwA zs k)) from hrq.alloc _).recs rfl), Lib.hid (((below_drewN (Below.refl wk.heap.size wk) 1).trans (hb1.mono (by simp))).alloc (by omega) _)⟩
    ·go_wp2_with fail
     go_meet
     have hzk := hb1.size
     simp at hzk
     have hgl2 := hrq.lt
     have hrw := (rowF_new1S wk.drew (.slice none 0 0) 150).after hb1
     simp at hgq
     exact ⟨wk.heap.size, gq, rfl, by omega, Lib.hid (box_setS _ hrw), Lib.hid ((show RowF (w1.setCell _ _) gq 43 (4 * 2) (ints (btwA zs k)) from hrq.set_other (by simp; omega) _).recs rfl), Lib.hid ((((below_drewN (Below.refl wk.heap.size wk) 1).alloc (Nat.le_refl _) _).trans (hb1.mono (by simp))).setCell (by simp) _)⟩
   case rest =>
    clear x0 x1 x2 x3 y0 y1 y2 y3 hbox
    obtain ⟨gs, gq, rfl, hgs, HBX, HRQ, HBW⟩ := hcut
    have HRc := Lib.hid (HR.out.after HBW.out)
    clear HR
    obtain ⟨g6, o6, rfl, hg6, hc6'⟩ := HRc.out.ws.ints.2 (by omega)
    obtain ⟨g7, o7, rfl, hg7, hc7'⟩ := HRc.out.ms.ints.2 (by omega)
    have z6 := hc6' k (by omega)
    have z7 := hc7' k (by omega)
    rw [lwL_nth (by omega)] at z6
    rw [lmL_nth (by omega)] at z7
    have bxc := HBX.out.1
    have hgsl := HBX.out.2
    have hkw := HKB.out k 0 (by omega)
    have hkm := HMB.out k 0 (by omega)
    have hlw := HWB.out k
    have hlm := HNB.out k
    have e7 : IntKind.i64.wrap (leftW zs ls q k + weightI (btwA zs k) 4) = leftW zs ls q k + kwTo zs ls k 0 := by
     have e : weightI (btwA zs k) 4 = kwTo zs ls k 0 := (kwTo_0 zs ls k).symm
     rw [e]; exact IntWalk.i64_in _ (by omega)
    have e8 : IntKind.i64.wrap (leftM zs ls q k + overI facX (btwA zs k) 4) = leftM zs ls q k + kmTo zs ls k 0 := by
     have e : overI facX (btwA zs k) 4 = kmTo zs ls k 0 := (kmTo_0 zs ls k).symm
     rw [e]; exact IntWalk.i64_in _ (by omega)
    clear hc6' hc7'
    go_wp2
    go_region_held3 (fun w' => w'.cell? ⟨g6, o6 + k, none⟩ = some (.int .i64 (leftW zs ls q k)) ∧ w'.cell? ⟨gs, 0, none⟩ = some (.slice (some ⟨gq, 0, none⟩) 4 4)) (first | exact ⟨z6, bxc⟩ | exact ⟨(hcc _ _ (by simp; omega)).trans z6, (hcc _ _ (by simp; omega)).trans bxc⟩)
     ((go_at_call 131; refine (sWeightOf_any _ _ _ (btwA zs k) _ (by exact HRQ.out) (by omega)).mono ?_; rintro e w1 ⟨rfl, hb1⟩; obtain ⟨hcc, hff⟩ := bcell hb1))
    have HR1 := Lib.hid (HRc.out.drew.after hb1)
    have HRQ1 := Lib.hid ((show RecsAt wc.drew wc.drew.heap.size _ _ _ _ from HRQ.out).after hb1)
    have z71 : w1.cell? ⟨g7, o7 + k, none⟩ = some (.int .i64 (leftM zs ls q k)) := (hcc _ _ (by simp; omega)).trans z7
    have bx1 : w1.cell? ⟨gs, 0, none⟩ = some (.slice (some ⟨gq, 0, none⟩) 4 4) := (hcc _ _ (by simp; omega)).trans bxc
    have hz1 := hb1.size
    simp at hz1
    have hl1 : gs < w1.heap.size ∧ g7 < w1.heap.size := by omega
    have l1 := hl1.1
    have l2 := hl1.2
    clear hcc hff hb1 z6 z7 bxc HRc HRQ hl1
    go_wp2
    go_region_held3 (fun w' => w'.cell? ⟨g7, o7 + k, none⟩ = some (.int .i64 (leftM zs ls q k)) ∧ w'.cell? ⟨gs, 0, none⟩ = some (.slice (some ⟨gq, 0, none⟩) 4 4)) (first | exact ⟨z71, bx1⟩ | exact ⟨(hcc _ _ (by simp; omega)).trans z71, (hcc _ _ (by simp; omega)).trans bx1⟩)
     ((go_at_call 132; refine (sMomentOf_any _ _ _ (btwA zs k) _ (by exact HRQ1.out) (by omega)).mono ?_; rintro e w2 ⟨rfl, hb2⟩; obtain ⟨hcc, hff⟩ := bcell hb2))
    have HR2 := Lib.hid (HR1.out.drew.after hb2)
    clear hcc hff hb2 z71 bx1 HR1 HRQ1 e7 e8
    go_wp2
    go_loopw [11, 12, 13] (fun v11 v12 v13 wr => ∃ i : Nat, i ≤ q ∧ v13 = .int .i64 i ∧ v11 = .int .i64 (leftW zs ls q k + kwTo zs ls k i) ∧ v12 = .int .i64 (leftM zs ls q k + kmTo zs ls k i) ∧ Hid (LRel w zs ls q (k + 1) (.slice (some ⟨b, off, none⟩) n c) (.slice (some ⟨g6, o6, none⟩) (k + 1) c6) (.slice (some ⟨g7, o7, none⟩) (k + 1) c7) wr)) (fun _ _ v13 _ => q - (intOf v13).toNat)
    case atStart => exact ⟨0, Nat.zero_le _, rfl, rfl, rfl, HR2⟩
    case round =>
     clear HR2
     obtain ⟨i, hi, rfl, rfl, rfl, HR⟩ := hrel
     have hkw := HKB.out k i hi
     have hkm := HMB.out k i hi
     by_cases hli : i < q
     ·obtain ⟨b2, off2, rfl, hb2B, hc2⟩ := HLD.out.2 (by omega)
      have hlc := ldCells hc2 hli
      have x0 := (HR.out.below.cell (p := ⟨b2, off2 + i * 3, none⟩) hb2B).trans hlc.1
      have x1 := (HR.out.below.cell (p := ⟨b2, off2 + i * 3 + 1, none⟩) hb2B).trans hlc.2.1
      have x2 := (HR.out.below.cell (p := ⟨b2, off2 + i * 3 + 2, none⟩) hb2B).trans hlc.2.2
      have hlo := loadAt_out (HLA.out i hli)
      have hkw2 := HKB.out k (i + 1) (by omega)
      have hkm2 := HMB.out k (i + 1) (by omega)
      have hwx := wx_bd hlo.2.1 hlo.2.2
      have ii1 : (i : Int) < (q : Int) := by omega
      have ii0 : (0 : Int) ≤ (i : Int) := by omega
      clear hlc hc2
      by_cases hs : nth ls (i * 3) = (k : Int)
      ·have HW := Lib.hid (kwTo_t zs hs)
       have HM := Lib.hid (kmTo_t zs hs)
       have hd : (nth ls (i * 3) == (k : Int)) = true := by simp [hs]
       have e4 : IntKind.i64.wrap (nth ls (i * 3 + 1) * nth ls (i * 3 + 2)) = nth ls (i * 3 + 1) * nth ls (i * 3 + 2) := IntWalk.i64_in _ (by omega)
       have e3 : IntKind.i64.wrap (leftW zs ls q k + kwTo zs ls k i + nth ls (i * 3 + 1)) = leftW zs ls q k + kwTo zs ls k (i + 1) := by
        have h := HW.out
        rw [h, ← Int.add_assoc]
        exact IntWalk.i64_in _ (by omega)
       have e5 : IntKind.i64.wrap (leftM zs ls q k + kmTo zs ls k i + nth ls (i * 3 + 1) * nth ls (i * 3 + 2)) = leftM zs ls q k + kmTo zs ls k (i + 1) := by
        have h := HM.out
        rw [h, ← Int.add_assoc]
        exact IntWalk.i64_in _ (by omega)
       have HE : Hid (leftW zs ls q k + kwTo zs ls k i + nth ls (i * 3 + 1) = leftW zs ls q k + kwTo zs ls k (i + 1)) := by
        have h := HW.out
        show _ = _
        omega
       clear hs hlo hkw hkm hkw2 hkm2 hlw hlm hwx
       go_wp2
       go_quiet (fail)
       go_wp2
       go_roundw
       case rel => exact ⟨i + 1, by omega, by go_num, by first | rfl | rw [HE.out], by rfl, Lib.hid (HR.out.drewN _)⟩
       case measure => simp [intOf]; omega
      ·have HW := Lib.hid (kwTo_f zs hs)
       have HM := Lib.hid (kmTo_f zs hs)
       have hd : (nth ls (i * 3) == (k : Int)) = false := by simp [hs]
       clear hs hlo hkw hkm hkw2 hkm2 hlw hlm hwx
       go_wp2
       go_roundw
       case rel => exact ⟨i + 1, by omega, by go_num, by rw [HW.out], by rw [HM.out], HR⟩
       case measure => simp [intOf]; omega
     ·obtain rfl : q = i := by omega
      have HSW := Lib.hid (lwL_step zs ls q k)
      have HSM := Lib.hid (lmL_step zs ls q k)
      have hz2 := HR.out.below.size
      generalize leftW zs ls q k + kwTo zs ls k q = nw at *
      generalize leftM zs ls q k + kmTo zs ls k q = nm at *
      have HB1 := Lib.hid (HR.out.below.alloc hz2 (.cells #[.int .i64 nw] 3))
      have hcn : ∀ i, i < 1 * 1 → (wr.alloc (.cells #[.int .i64 nw] 3)).cell? ⟨wr.heap.size, i, none⟩ = some (.int .i64 (nth [nw] i)) := fun i hi => by
       obtain rfl : i = 0 := by omega
       exact cell_new1 _ _ _
      have HCN := Lib.hid hcn
      clear hcn
      have hbxl := HR.out.box.lt
      have HBXA := Lib.hid (HR.out.box.alloc (.cells #[.int .i64 nw] 3))
      go_wp2_with (first
       | (at_builtin; refine wpList_appZ2 _ rfl (.tmp 88) (.tmp 90) 54 rfl (w.heap.size + 1) 3 1 8 (.int .i64 0) Tryzx.underlying54 infoInt rfl (by decide) (by decide) _ (k + 1) (lwL zs ls q (k + 1)) rfl (by exact HR.out.ws.alloc _) wr.heap.size 1 1 [nw] rfl rfl (by exact HCN.out) (by omega) w.heap.size w (by exact HB1.out) (by omega) (by simp; omega) _ HSW.out _ _ _ (by exact HR.out.ms.alloc _) HR.out.apart ?_ (by omega); intro g' cap' w3 hown3 hb3 hoth3 hap3 hrow3; have hcn3 : ∀ i, i < 1 * 1 → (w3.alloc (.cells #[.int .i64 nm] 3)).cell? ⟨w3.heap.size, i, none⟩ = some (.int .i64 (nth [nm] i)) := (fun i hi => by obtain rfl : i = 0 := (by omega); exact cell_new1 _ _ _); have HCN3 := Lib.hid hcn3; have hbx3 := hrow3 _ _ _ _ (by decide) HBXA.out; have hbx3l := hbx3.lt; clear hcn3 hrow3)
       | (at_builtin; refine wpList_appZ2 _ rfl (.tmp 92) (.tmp 94) 54 rfl (w.heap.size + 1) 3 1 8 (.int .i64 0) Tryzx.underlying54 infoInt rfl (by decide) (by decide) _ (k + 1) (lmL zs ls q (k + 1)) rfl (by exact hoth3.alloc _) w3.heap.size 1 1 [nm] rfl rfl (by exact HCN3.out) (by omega) w.heap.size w (by exact hb3.alloc hb3.size _) (by omega) (by simp; omega) _ HSM.out _ _ _ (by exact hown3.alloc _) hap3.symm ?_ (by omega); intro g4 cap4 w4 hown4 hb4 hoth4 hap4 hrow4))
      have HR4 : Hid (LRel w zs ls q (k + 1 + 1) (.slice (some ⟨b, off, none⟩) n c) (.slice (some ⟨g', 0, none⟩) (k + 1 + 1) cap') (.slice (some ⟨g4, 0, none⟩) (k + 1 + 1) cap4) w4) :=
       ⟨hoth4, hown4, hap4.symm, hrow4 _ _ _ _ (by decide) (hbx3.alloc _), hb4⟩
      clear hown3 hb3 hoth3 hap3 hown4 hb4 hoth4 hap4 hrow4 hbx3
      go_wp2
      go_roundw
      case rel => exact ⟨k + 1, by omega, by go_num, HR4⟩
      case measure => simp [intOf]; omega
  ·obtain rfl : n = k + 1 := by omega
   go_wp2
   go_ret2
   exact ⟨_, _, _, _, rfl, HR.out.ws, HR.out.ms, HR.out.below⟩
end X
end Go.Proofs.YtbpnbhemdbgmjaaGreat
