/-
  Texts that the law stands on, part 13.
-/
import Derived.Test.YtbpnbhemdbgmjaaGreatC1
import Derived.Test.YtbpnbhemdbgmjaaGreatC11
import Derived.Test.YtbpnbhemdbgmjaaGreatC12
import Derived.Test.YtbpnbhemdbgmjaaGreatC9
import Derived.Deep.RegionLaw
import Derived.WalkMore
import Derived.Deep.DeepCutAuto
import Derived.ScopeJumps
set_option linter.unusedVariables false
set_option linter.unusedSimpArgs false
namespace Go.Proofs.YtbpnbhemdbgmjaaGreat
section
open Go.RowKit
structure R3 (w wr : World) (pa pb pc pd qa qb qc qd ra rb rc rd : Int) : Prop where
 p : Box4 wr w.heap.size pa pb pc pd
 q : Box4 wr (w.heap.size + 1) qa qb qc qd
 r : Box4 wr (w.heap.size + 1 + 1) ra rb rc rd
 below : Below w.heap.size w wr
theorem R3.after {w wr w1 : World} {pa pb pc pd qa qb qc qd ra rb rc rd : Int} (h : R3 w wr pa pb pc pd qa qb qc qd ra rb rc rd) (hb : Below wr.heap.size wr w1) : R3 w w1 pa pb pc pd qa qb qc qd ra rb rc rd := ⟨h.p.after hb, h.q.after hb, h.r.after hb, h.below.trans (hb.mono h.below.size)⟩
theorem R3.start (w : World) (pa pb pc pd qa qb qc qd ra rb rc rd : Int) (T : TypeId) : R3 w (((w.alloc (.cells #[.int .i64 pa, .int .i64 pb, .int .i64 pc, .int .i64 pd] T)).alloc (.cells #[.int .i64 qa, .int .i64 qb, .int .i64 qc, .int .i64 qd] T)).alloc (.cells #[.int .i64 ra, .int .i64 rb, .int .i64 rc, .int .i64 rd] T)) pa pb pc pd qa qb qc qd ra rb rc rd := by
 have h2 := Box4.new (w.alloc (.cells #[.int .i64 pa, .int .i64 pb, .int .i64 pc, .int .i64 pd] T)) qa qb qc qd T
 have h3 := Box4.new ((w.alloc (.cells #[.int .i64 pa, .int .i64 pb, .int .i64 pc, .int .i64 pd] T)).alloc (.cells #[.int .i64 qa, .int .i64 qb, .int .i64 qc, .int .i64 qd] T)) ra rb rc rd T
 simp only [World.size_alloc] at h2 h3
 exact ⟨((Box4.new w pa pb pc pd T).after ((Below.refl _ _).alloc (Nat.le_refl _) _)).after ((Below.refl _ _).alloc (Nat.le_refl _) _), h2.after ((Below.refl _ _).alloc (Nat.le_refl _) _), h3, (((Below.refl _ _).alloc (Nat.le_refl _) _).alloc (by simp) _).alloc (by simp; omega) _⟩
def solOk (pa pb pc pd qa qb qc qd ra rb rc rd : Int) : Bool := rowB pa pb pc pd && (rowB qa qb qc qd && rowB ra rb rc rd)
theorem solD_f {pa pb pc pd qa qb qc qd ra rb rc rd : Int} (h : solOk pa pb pc pd qa qb qc qd ra rb rc rd = false) : solD pa pb pc pd qa qb qc qd ra rb rc rd = 0 := by
 unfold solOk at h; simp [solD, h]
theorem solD_t {pa pb pc pd qa qb qc qd ra rb rc rd : Int} (h : solOk pa pb pc pd qa qb qc qd ra rb rc rd = true) : solD pa pb pc pd qa qb qc qd ra rb rc rd = det9 pa pb pc qa qb qc ra rb rc := by
 unfold solOk at h; simp [solD, h]
def solB (pa pb pc pd qa qb qc qd ra rb rc rd : Int) : Bool := mkB (det9 pd pb pc qd qb qc rd rb rc) (det9 pa pd pc qa qd qc ra rd rc) (det9 pa pb pd qa qb qd ra rb rd) (solD pa pb pc pd qa qb qc qd ra rb rc rd)
def solI (pa pb pc pd qa qb qc qd ra rb rc rd x : Int) : Int := mkI (det9 pd pb pc qd qb qc rd rb rc) (det9 pa pd pc qa qd qc ra rd rc) (det9 pa pb pd qa qb qd ra rb rd) (solD pa pb pc pd qa qb qc qd ra rb rc rd) x
def solV (pa pb pc pd qa qb qc qd ra rb rc rd : Int) : Value := mkV (det9 pd pb pc qd qb qc rd rb rc) (det9 pa pd pc qa qd qc ra rd rc) (det9 pa pb pd qa qb qd ra rb rd) (solD pa pb pc pd qa qb qc qd ra rb rc rd)
theorem solV_0 {pa pb pc pd qa qb qc qd ra rb rc rd : Int} (h : solD pa pb pc pd qa qb qc qd ra rb rc rd = 0) : solV pa pb pc pd qa qb qc qd ra rb rc rd = thrV 0 0 0 0 false := mkV_f (mkB_0 _ _ _ h)
theorem solD_ne {pa pb pc pd qa qb qc qd ra rb rc rd : Int} (h : ¬ solD pa pb pc pd qa qb qc qd ra rb rc rd = 0) : rowB pa pb pc pd = true ∧ rowB qa qb qc qd = true ∧ rowB ra rb rc rd = true := by
 cases e : solOk pa pb pc pd qa qb qc qd ra rb rc rd
 ·exact absurd (solD_f e) h
 ·simp only [solOk, Bool.and_eq_true] at e
  exact ⟨e.1, e.2.1, e.2.2⟩
end
section
open Go.RowKit
def hasAt (xs : List Int) (H V M D : Int) (k : Nat) : Bool := decide (nth xs (k * 4) = H) && (decide (nth xs (k * 4 + 1) = V) && (decide (nth xs (k * 4 + 2) = M) && decide (nth xs (k * 4 + 3) = D)))
def hasTo (xs : List Int) (H V M D : Int) : Nat → Bool
 | 0 => false
 | k + 1 => hasTo xs H V M D k || hasAt xs H V M D k
theorem hasTo_mem {xs : List Int} {H V M D : Int} {k : Nat} (h : hasAt xs H V M D k = true) : ∀ {n : Nat}, k < n → hasTo xs H V M D n = true
 | n + 1, hk => by
  by_cases e : k = n
  ·subst e; simp [hasTo, h]
  ·simp [hasTo, hasTo_mem h (n := n) (by omega)]
theorem hasTo_step {xs : List Int} {H V M D : Int} {k : Nat} (h0 : hasTo xs H V M D k = false) (h : hasAt xs H V M D k = false) : hasTo xs H V M D (k + 1) = false := by simp [hasTo, h0, h]
section
variable (rs : List Int) (n : Nat)
def crB (i k m : Nat) : Bool := solB (nth rs (i * 4)) (nth rs (i * 4 + 1)) (nth rs (i * 4 + 2)) (nth rs (i * 4 + 3)) (nth rs (k * 4)) (nth rs (k * 4 + 1)) (nth rs (k * 4 + 2)) (nth rs (k * 4 + 3)) (nth rs (m * 4)) (nth rs (m * 4 + 1)) (nth rs (m * 4 + 2)) (nth rs (m * 4 + 3))
def crI (i k m : Nat) (x : Int) : Int := solI (nth rs (i * 4)) (nth rs (i * 4 + 1)) (nth rs (i * 4 + 2)) (nth rs (i * 4 + 3)) (nth rs (k * 4)) (nth rs (k * 4 + 1)) (nth rs (k * 4 + 2)) (nth rs (k * 4 + 3)) (nth rs (m * 4)) (nth rs (m * 4 + 1)) (nth rs (m * 4 + 2)) (nth rs (m * 4 + 3)) x
def crH (i k m : Nat) : Int := crI rs i k m (det9 (nth rs (i * 4 + 3)) (nth rs (i * 4 + 1)) (nth rs (i * 4 + 2)) (nth rs (k * 4 + 3)) (nth rs (k * 4 + 1)) (nth rs (k * 4 + 2)) (nth rs (m * 4 + 3)) (nth rs (m * 4 + 1)) (nth rs (m * 4 + 2)))
def crV (i k m : Nat) : Int := crI rs i k m (det9 (nth rs (i * 4)) (nth rs (i * 4 + 3)) (nth rs (i * 4 + 2)) (nth rs (k * 4)) (nth rs (k * 4 + 3)) (nth rs (k * 4 + 2)) (nth rs (m * 4)) (nth rs (m * 4 + 3)) (nth rs (m * 4 + 2)))
def crM (i k m : Nat) : Int := crI rs i k m (det9 (nth rs (i * 4)) (nth rs (i * 4 + 1)) (nth rs (i * 4 + 3)) (nth rs (k * 4)) (nth rs (k * 4 + 1)) (nth rs (k * 4 + 3)) (nth rs (m * 4)) (nth rs (m * 4 + 1)) (nth rs (m * 4 + 3)))
def crD (i k m : Nat) : Int := crI rs i k m (solD (nth rs (i * 4)) (nth rs (i * 4 + 1)) (nth rs (i * 4 + 2)) (nth rs (i * 4 + 3)) (nth rs (k * 4)) (nth rs (k * 4 + 1)) (nth rs (k * 4 + 2)) (nth rs (k * 4 + 3)) (nth rs (m * 4)) (nth rs (m * 4 + 1)) (nth rs (m * 4 + 2)) (nth rs (m * 4 + 3)))
theorem crV_eq (i k m : Nat) : solV (nth rs (i * 4)) (nth rs (i * 4 + 1)) (nth rs (i * 4 + 2)) (nth rs (i * 4 + 3)) (nth rs (k * 4)) (nth rs (k * 4 + 1)) (nth rs (k * 4 + 2)) (nth rs (k * 4 + 3)) (nth rs (m * 4)) (nth rs (m * 4 + 1)) (nth rs (m * 4 + 2)) (nth rs (m * 4 + 3)) = thrV (crH rs i k m) (crV rs i k m) (crM rs i k m) (crD rs i k m) (crB rs i k m) := rfl
theorem cr_thr {i k m : Nat} (h : crB rs i k m = true) : thrB (crH rs i k m) (crV rs i k m) (crM rs i k m) (crD rs i k m) = true := mkI_thr h
def metAt (H V M D : Int) (x : Nat) : Bool := metB (nth rs (x * 4)) (nth rs (x * 4 + 1)) (nth rs (x * 4 + 2)) (nth rs (x * 4 + 3)) H V M D
def crAll (i k m : Nat) : Bool := allB (metAt rs (crH rs i k m) (crV rs i k m) (crM rs i k m) (crD rs i k m)) n
def crHas (acc : List Int) (i k m : Nat) : Bool := hasTo acc (crH rs i k m) (crV rs i k m) (crM rs i k m) (crD rs i k m) (acc.length / 4)
def crStep (i k m : Nat) (acc : List Int) : List Int := if (crB rs i k m && (!crHas rs acc i k m && crAll rs n i k m)) = true then acc ++ [crH rs i k m, crV rs i k m, crM rs i k m, crD rs i k m] else acc
def foldN (f : Nat → List Int → List Int) : Nat → List Int → List Int
 | 0, a => a
 | j + 1, a => f j (foldN f j a)
def corM (i k : Nat) (acc : List Int) (t : Nat) : List Int := foldN (fun j a => crStep rs n i k (k + 1 + j) a) t acc
def corK (i : Nat) (acc : List Int) (t : Nat) : List Int := foldN (fun j a => corM rs n i (i + 1 + j) a (n - (i + 1 + j + 1))) t acc
def corI (t : Nat) : List Int := foldN (fun i a => corK rs n i a (n - (i + 1))) t []
def cornB : Bool := allB (rowAt rs) n && inB (n : Int) 3 20
def cornL : List Int := if cornB rs n = true then corI rs n n else []
end
variable {rs : List Int} {n : Nat}
theorem corM_s (i k : Nat) (acc : List Int) (t : Nat) : corM rs n i k acc (t + 1) = crStep rs n i k (k + 1 + t) (corM rs n i k acc t) := rfl
theorem corK_s (i : Nat) (acc : List Int) (t : Nat) : corK rs n i acc (t + 1) = corM rs n i (i + 1 + t) (corK rs n i acc t) (n - (i + 1 + t + 1)) := rfl
theorem corI_s (t : Nat) : corI rs n (t + 1) = corK rs n t (corI rs n t) (n - (t + 1)) := rfl
theorem cornL_f (h : cornB rs n = false) : cornL rs n = [] := by simp [cornL, h]
theorem cornL_t (h : cornB rs n = true) : cornL rs n = corI rs n n := by simp [cornL, h]
structure CorAcc (acc : List Int) (q b : Nat) : Prop where
 len : acc.length = q * 4
 few : q ≤ b
theorem crStep_acc {i k m : Nat} {acc : List Int} {q b : Nat} (h : CorAcc acc q b) : ∃ q', CorAcc (crStep rs n i k m acc) q' (b + 1) := by
 unfold crStep
 split
 ·exact ⟨q + 1, by simp [h.len]; omega, by have := h.few; omega⟩
 ·exact ⟨q, h.len, by have := h.few; omega⟩
theorem corM_acc {i k : Nat} {acc : List Int} {q b : Nat} (h : CorAcc acc q b) : ∀ t, ∃ q', CorAcc (corM rs n i k acc t) q' (b + t)
 | 0 => ⟨q, h⟩
 | t + 1 => by obtain ⟨q', h'⟩ := corM_acc h t; rw [corM_s]; exact crStep_acc h'
theorem corK_acc {i : Nat} {acc : List Int} {q b : Nat} (hn : n ≤ 20) (h : CorAcc acc q b) : ∀ t, ∃ q', CorAcc (corK rs n i acc t) q' (b + 20 * t)
 | 0 => ⟨q, h⟩
 | t + 1 => by
  obtain ⟨q', h'⟩ := corK_acc hn h t
  obtain ⟨q2, h2⟩ := corM_acc (rs := rs) (n := n) (i := i) (k := i + 1 + t) h' (n - (i + 1 + t + 1))
  rw [corK_s]
  exact ⟨q2, h2.len, by have := h2.few; omega⟩
theorem corI_acc (hn : n ≤ 20) : ∀ t, ∃ q', CorAcc (corI rs n t) q' (400 * t)
 | 0 => ⟨0, rfl, Nat.le_refl _⟩
 | t + 1 => by
  obtain ⟨q', h'⟩ := corI_acc hn t
  obtain ⟨q2, h2⟩ := corK_acc (rs := rs) (n := n) (i := t) hn h' (n - (t + 1))
  rw [corI_s]
  exact ⟨q2, h2.len, by have := h2.few; omega⟩
def cornN (rs : List Int) (n : Nat) : Nat := (cornL rs n).length / 4
theorem corn_acc (rs : List Int) (n : Nat) : CorAcc (cornL rs n) (cornN rs n) 8000 := by
 cases e : cornB rs n
 ·rw [cornN, cornL_f e]; exact ⟨rfl, by simp⟩
 ·have hn : n ≤ 20 := by simp only [cornB, Bool.and_eq_true, inB_iff] at e; omega
  obtain ⟨q, h⟩ := corI_acc (rs := rs) hn n
  rw [cornN, cornL_t e]
  have h1 := h.len
  exact ⟨by omega, by have := h.few; omega⟩
end
section
open Go.RowKit
def OwnR (w : World) (base : Nat) (E : TypeId) (K : Nat) (v : Value) (n : Nat) (xs : List Int) : Prop := w.ownsRow base E K v n (xs.map (Value.int .i64)) ∧ xs.length = n * K
section
variable {w w' : World} {base : Nat} {E : TypeId} {K n : Nat} {v : Value} {xs : List Int}
theorem OwnR.nil (w : World) (base : Nat) (E : TypeId) (K : Nat) : OwnR w base E K (.slice none 0 0) 0 [] := ⟨World.ownsRow_nil _ _ _ _, by simp⟩
theorem OwnR.alloc (h : OwnR w base E K v n xs) (o : Obj) : OwnR (w.alloc o) base E K v n xs := ⟨World.ownsRow.alloc h.1 o, h.2⟩
theorem OwnR.drew (h : OwnR w base E K v n xs) : OwnR w.drew base E K v n xs := h
theorem OwnR.ownLt (h : OwnR w base E K v n xs) : ∀ k, v.ownBlock = some k → base ≤ k := fun k hk => (World.ownsRow.lt h.1 k hk).1
theorem OwnR.form (h : OwnR w base E K v n xs) : (v = .slice none 0 0 ∧ n = 0 ∧ xs = []) ∨ ∃ g cap, v = .slice (some ⟨g, 0, none⟩) n cap ∧ base ≤ g ∧ n ≤ cap ∧ RowF w g E (n * K) (ints xs) := by
 rcases h.1.2 with ⟨h1, h2⟩ | ⟨g, cap, cur, h1, h2, h3, h4, h5, h6, h7⟩
 ·refine .inl ⟨h1, h2, List.eq_nil_of_length_eq_zero ?_⟩
  rw [h.2, h2, Nat.zero_mul]
 ·refine .inr ⟨g, cap, h1, h2, h4, cur, h3, by rw [h6]; exact Nat.mul_le_mul_right _ h4, fun i hi => ?_⟩
  have hil : i < xs.length := by rw [h.2]; exact hi
  have e : (cur.toList.take (n * K))[i]? = (xs.map (Value.int .i64))[i]? := by rw [h7]
  rw [List.getElem?_take, if_pos hi, List.getElem?_map, List.getElem?_eq_getElem hil] at e
  simp at e
  simp [ints, nth_get xs i hil, e]
theorem OwnR.slice (h : OwnR w base E K v n xs) : ∃ A c, v = .slice A n c ∧ n ≤ c := by
 rcases h.form with ⟨rfl, rfl, _⟩ | ⟨g, cap, rfl, _, hc, _⟩
 ·exact ⟨_, _, rfl, Nat.le_refl _⟩
 ·exact ⟨_, _, rfl, hc⟩
theorem OwnR.recs {A : Option Addr} {c : Nat} (h : OwnR w base E K (.slice A n c) n xs) : RecsAt w w.heap.size K A n xs := by
 rcases h.form with ⟨e, rfl, rfl⟩ | ⟨g, cap, e, _, _, hr⟩
 ·exact RecsAt.nil
 ·simp at e
  obtain ⟨rfl, rfl⟩ := e
  exact hr.recs h.2
theorem OwnR.below (h : OwnR w base E K v n xs) (hb : Below w.heap.size w w') : OwnR w' base E K v n xs := by
 refine ⟨⟨h.1.1, ?_⟩, h.2⟩
 rcases h.1.2 with h2 | ⟨g, cap, cur, h1, h2, h3, hr⟩
 ·exact .inl h2
 ·refine .inr ⟨g, cap, cur, h1, h2, (hb.block g ?_).trans h3, hr⟩
  exact (Array.getElem?_eq_some_iff.1 h3).1
theorem OwnR.new (w : World) (E : TypeId) (K : Nat) : OwnR (w.alloc (.cells #[] E)) w.heap.size E K (.slice (some ⟨w.heap.size, 0, none⟩) 0 0) 0 [] :=
 ⟨World.ownsRow_lit (base := w.heap.size) (e := E) (size := K) w #[] 0 (Nat.le_refl _) (by simp [maxLen]) (by simp), by simp⟩
end
theorem wpList_appR {P : Program} (w : World) {ops : Array Oper} {rest : List Oper} {o : Oper} {a : Act} {Q : Exit → Act → World → Prop} (hgd : o.guard = none) (s x : Operand) (t : TypeId)
  (ho : o.op = .call { callee := .builtin .append, args := #[s, x], argTypes := #[t, t] })
  (base : Nat) (E : TypeId) (K bytes : Nat) (zc : Array Value) (ht : P.underlying t = some (.slice E)) (hinfo : (P.info? E).map (fun i => (i.zero, i.size, i.bytes)) = some (some (.agg zc), K, bytes)) (hzc : zc.size = K) (hK : 0 < K) (hby : bytes ≤ 1024)
  (v : Value) (n : Nat) (xs : List Int) (hs : a.eval s = v) (hown : OwnR w base E K v n xs) (g m c : Nat) (ys : List Int) (hx : a.eval x = .slice (some ⟨g, 0, none⟩) m c) (hy : ys.length = m * K)
  (hg : ∀ i, i < m * K → w.cell? ⟨g, i, none⟩ = some (.int .i64 (nth ys i))) (hn : n + m ≤ 1048576) (B : Nat) (w0 : World) (hb : Below B w0 w) (hB : B ≤ base) (hbase : base ≤ w.heap.size) (xs' : List Int) (hxs : xs ++ ys = xs')
  (h : ∀ g' cap' w', OwnR w' base E K (.slice (some ⟨g', 0, none⟩) (n + m) cap') (n + m) xs' → Below B w0 w' → wpList P ops Q rest (a.put o.dst (.slice (some ⟨g', 0, none⟩) (n + m) cap')) w') (hm : 1 ≤ m) : wpList P ops Q (o :: rest) a w := by
 subst hxs
 obtain ⟨i0, hi0, hz0, hz1, hz2⟩ := info_parts hinfo
 have hbb : (n + m) * bytes ≤ 1048576 * 1024 := Nat.mul_le_mul hn hby
 refine wpList_append_own (P := P) w hgd s x t ho base E i0 (.agg zc) K bytes ht hi0 hz0 hz1 hz2 (by simpa [Value.cells] using hzc) hK v n _ hs hown.1 ⟨g, 0, none⟩ m c (ys.map (Value.int .i64)) hx (by simpa using hy) ?_ ?_ (by unfold maxLen; omega) (by omega) hbase ?_
 ·intro j u hj
  have hjl : j < ys.length := by
   have := (List.getElem?_eq_some_iff.1 hj).1
   simpa using this
  rw [List.getElem?_map, List.getElem?_eq_getElem hjl] at hj
  simp at hj
  subst hj
  rw [Go.WideShapes.add_plain, Nat.zero_add, hg j (by rw [← hy]; exact hjl), nth_get ys j hjl]
 ·intro u hu
  obtain ⟨z, _, rfl⟩ := List.mem_map.1 hu
  rfl
 ·intro v' w' hown' hgr _
  have h' : OwnR w' base E K v' (n + m) (xs ++ ys) := ⟨by rw [List.map_append]; exact hown', by rw [List.length_append, hown.2, hy, Nat.add_mul]⟩
  rcases h'.form with ⟨_, h2, _⟩ | ⟨g', cap', rfl, _⟩
  ·omega
  ·exact h g' cap' w' h' (hb.grown hgr (by omega) (fun k hk => by have := hown.ownLt k hk; omega))
theorem grown_block {w w' : World} {row : Option Nat} (h : w.grownBy w' row) (k : Nat) (hk : k < w.heap.size) (hne : some k ≠ row) : w'.heap[k]? = w.heap[k]? := by
 obtain ⟨_, _, _, _, hgg⟩ := h
 exact hgg k hk hne
def ApartV (u v : Value) : Prop := ∀ k, u.ownBlock = some k → v.ownBlock ≠ some k
theorem ApartV.nil (v : Value) : ApartV (.slice none 0 0) v := fun k h => by simp [Value.ownBlock] at h
theorem ApartV.symm {u v : Value} (h : ApartV u v) : ApartV v u := fun k h1 h2 => h k h2 h1
end
section
open Go.RowKit
theorem infoThr : (Tryz.prog.info? 31).map (fun i => (i.zero, i.size, i.bytes)) = some (some (.agg #[.int .i64 0, .int .i64 0, .int .i64 0, .int .i64 0]), 4, 32) := by kernel_rfl
theorem keep12 {w1 w2 : World} {b off i k m : Nat} {pa pb pc pd qa qb qc qd ra rb rc rd : Int} (h : (w1.cell? ⟨b, off + i * 4, none⟩ = some (.int .i64 pa) ∧ w1.cell? ⟨b, off + i * 4 + 1, none⟩ = some (.int .i64 pb) ∧ w1.cell? ⟨b, off + i * 4 + 2, none⟩ = some (.int .i64 pc) ∧ w1.cell? ⟨b, off + i * 4 + 3, none⟩ = some (.int .i64 pd)) ∧ (w1.cell? ⟨b, off + k * 4, none⟩ = some (.int .i64 qa) ∧ w1.cell? ⟨b, off + k * 4 + 1, none⟩ = some (.int .i64 qb) ∧ w1.cell? ⟨b, off + k * 4 + 2, none⟩ = some (.int .i64 qc) ∧ w1.cell? ⟨b, off + k * 4 + 3, none⟩ = some (.int .i64 qd)) ∧ (w1.cell? ⟨b, off + m * 4, none⟩ = some (.int .i64 ra) ∧ w1.cell? ⟨b, off + m * 4 + 1, none⟩ = some (.int .i64 rb) ∧ w1.cell? ⟨b, off + m * 4 + 2, none⟩ = some (.int .i64 rc) ∧ w1.cell? ⟨b, off + m * 4 + 3, none⟩ = some (.int .i64 rd))) (e : ∀ x, w2.cell? ⟨b, x, none⟩ = w1.cell? ⟨b, x, none⟩) :
  (w2.cell? ⟨b, off + i * 4, none⟩ = some (.int .i64 pa) ∧ w2.cell? ⟨b, off + i * 4 + 1, none⟩ = some (.int .i64 pb) ∧ w2.cell? ⟨b, off + i * 4 + 2, none⟩ = some (.int .i64 pc) ∧ w2.cell? ⟨b, off + i * 4 + 3, none⟩ = some (.int .i64 pd)) ∧ (w2.cell? ⟨b, off + k * 4, none⟩ = some (.int .i64 qa) ∧ w2.cell? ⟨b, off + k * 4 + 1, none⟩ = some (.int .i64 qb) ∧ w2.cell? ⟨b, off + k * 4 + 2, none⟩ = some (.int .i64 qc) ∧ w2.cell? ⟨b, off + k * 4 + 3, none⟩ = some (.int .i64 qd)) ∧ (w2.cell? ⟨b, off + m * 4, none⟩ = some (.int .i64 ra) ∧ w2.cell? ⟨b, off + m * 4 + 1, none⟩ = some (.int .i64 rb) ∧ w2.cell? ⟨b, off + m * 4 + 2, none⟩ = some (.int .i64 rc) ∧ w2.cell? ⟨b, off + m * 4 + 3, none⟩ = some (.int .i64 rd)) := by
 simp only [e]
 exact h
end
section
open Go.RowKit
set_option maxRecDepth 100000 in
set_option maxHeartbeats 1600000 in
theorem indexThr_any (A : Option Addr) (n c : Nat) (xs : List Int) (H V M D : Int) (w : World) (h : RecsAt w w.heap.size 4 A n xs) (hn : n ≤ 1048576) :
  Calls Tryz.prog 163 #[.slice A n c, .agg #[.int .i64 H, .int .i64 V, .int .i64 M, .int .i64 D]] w fun e w' => (∃ r : Int, e = .returned (.int .i64 r) ∧ ((hasTo xs H V M D n = false ∧ r = -1) ∨ (hasTo xs H V M D n = true ∧ 0 ≤ r))) ∧ Below w.heap.size w w' := by
 have HL := Lib.hid h
 have BX := Lib.hid (Box4.new w H V M D 31)
 have B0 := Lib.hid ((Below.refl w.heap.size w).alloc (Nat.le_refl _) (.cells #[.int .i64 H, .int .i64 V, .int .i64 M, .int .i64 D] 31))
 clear h
 go_enter Tryz.func163, Tryz.ntmps163
 go_wp2
 go_loopw [8] (fun i wr => ∃ k : Nat, k ≤ n ∧ i = .int .i64 k ∧ Hid (hasTo xs H V M D k = false) ∧ Hid (Box4 wr w.heap.size H V M D) ∧ Hid (Below w.heap.size w wr)) (fun i _ => n - (intOf i).toNat)
 case atStart => exact ⟨0, Nat.zero_le _, rfl, Lib.hid rfl, BX, B0⟩
 case round =>
  clear BX B0
  obtain ⟨k, hk, rfl, HP, HX, HB⟩ := hrel
  by_cases hlt : k < n
  ·obtain ⟨b, off, rfl, hbB, hc⟩ := HL.out.2 (by omega)
   obtain ⟨x0, x1, x2, x3⟩ := rwCells (fun i hi => (HB.out.cell (by exact hbB)).trans (hc i hi)) hlt
   have HT := Lib.hid (fun e => hasTo_mem (xs := xs) (H := H) (V := V) (M := M) (D := D) e hlt)
   have HS := Lib.hid (fun e => hasTo_step HP.out (k := k) e)
   have HE : Hid (hasAt xs H V M D k = (decide (nth xs (k * 4) = H) && (decide (nth xs (k * 4 + 1) = V) && (decide (nth xs (k * 4 + 2) = M) && decide (nth xs (k * 4 + 3) = D))))) := Lib.hid rfl
   clear hc
   generalize nth xs (k * 4) = y0 at *
   generalize nth xs (k * 4 + 1) = y1 at *
   generalize nth xs (k * 4 + 2) = y2 at *
   generalize nth xs (k * 4 + 3) = y3 at *
   obtain ⟨c0, c1, c2, c3⟩ := HX.out.1
   have ki : (k : Int) < (n : Int) := by omega
   by_cases e0 : H = y0
   rotate_left
   ·have HS1 := Lib.hid (HS.out (HE.out.trans (by simp [Ne.symm e0])))
    go_wp2
    go_region
    go_wp2
    go_roundw
    case rel => exact ⟨k + 1, by omega, by go_num, HS1, HX.out.after (below_dr (Below.refl _ _)) |> Lib.hid, Lib.hid (below_dr HB.out)⟩
    case measure => simp [intOf]; omega
   by_cases e1 : V = y1
   rotate_left
   ·have HS1 := Lib.hid (HS.out (HE.out.trans (by simp [e0, Ne.symm e1])))
    go_wp2
    go_region
    go_wp2
    go_roundw
    case rel => exact ⟨k + 1, by omega, by go_num, HS1, HX.out.after (below_dr (Below.refl _ _)) |> Lib.hid, Lib.hid (below_dr HB.out)⟩
    case measure => simp [intOf]; omega
   by_cases e2 : M = y2
   rotate_left
   ·have HS1 := Lib.hid (HS.out (HE.out.trans (by simp [e0, e1, Ne.symm e2])))
    go_wp2
    go_region
    go_wp2
    go_roundw
    case rel => exact ⟨k + 1, by omega, by go_num, HS1, HX.out.after (below_dr (Below.refl _ _)) |> Lib.hid, Lib.hid (below_dr HB.out)⟩
    case measure => simp [intOf]; omega
   by_cases e3 : D = y3
   rotate_left
   ·have HS1 := Lib.hid (HS.out (HE.out.trans (by simp [e0, e1, e2, Ne.symm e3])))
    go_wp2
    go_region
    go_wp2
    go_roundw
    case rel => exact ⟨k + 1, by omega, by go_num, HS1, HX.out.after (below_dr (Below.refl _ _)) |> Lib.hid, Lib.hid (below_dr HB.out)⟩
    case measure => simp [intOf]; omega
   have HT1 := Lib.hid (HT.out (HE.out.trans (by simp [e0, e1, e2, e3])))
   go_wp2
   go_region
   go_wp2
   go_ret
   exact ⟨⟨k, rfl, .inr ⟨HT1.out, by omega⟩⟩, below_dr HB.out⟩
  ·obtain rfl : k = n := by omega
   go_wp2
   go_ret
   exact ⟨⟨-1, rfl, .inl ⟨HP.out, rfl⟩⟩, HB.out⟩
set_option maxHeartbeats 1600000 in
theorem containsThr_any (A : Option Addr) (n c : Nat) (xs : List Int) (H V M D : Int) (w : World) (h : RecsAt w w.heap.size 4 A n xs) (hn : n ≤ 1048576) :
  Calls Tryz.prog 119 #[.slice A n c, .agg #[.int .i64 H, .int .i64 V, .int .i64 M, .int .i64 D]] w fun e w' => e = .returned (.bool (hasTo xs H V M D n)) ∧ Below w.heap.size w w' := by
 have HB := Lib.hid ((Below.refl w.heap.size w).alloc (Nat.le_refl _) (.cells #[.int .i64 H, .int .i64 V, .int .i64 M, .int .i64 D] 31))
 have HL := Lib.hid (RecsAt.after h HB.out)
 clear h
 go_enter Tryz.func119, Tryz.ntmps119
 go_wp2_with fail
 refine (indexThr_any _ _ _ xs _ _ _ _ _ HL.out hn).mono ?_
 rintro e w1 ⟨⟨r, rfl, hr⟩, hb⟩
 have HB1 := Lib.hid (HB.out.trans (hb.mono HB.out.size))
 clear hb
 rcases hr with ⟨hp, rfl⟩ | ⟨hp, hr⟩
 ·have HF := Lib.hid hp
  clear hp
  go_wp2
  go_ret
  exact ⟨ret_bool HF.out.symm, HB1.out⟩
 ·have HF := Lib.hid hp
  clear hp
  go_wp2
  go_ret
  exact ⟨ret_bool HF.out.symm, HB1.out⟩
end
section
open Go.RowKit
def RestZ (w : World) (E : TypeId) (K : Nat) (v : Value) : Prop := ∀ g n c cur, v = .slice (some ⟨g, 0, none⟩) n c → w.heap[g]? = some (.cells cur E (0, 0)) → ∀ i, n * K ≤ i → i < cur.size → cur[i]? = some (.int .i64 0)
structure OwnZ (w : World) (base : Nat) (E : TypeId) (K : Nat) (v : Value) (n : Nat) (xs : List Int) : Prop where
 own : OwnR w base E K v n xs
 rest : RestZ w E K v
 nz : xs = [] → v = .slice none 0 0
section
variable {w w' : World} {base : Nat} {E : TypeId} {K n : Nat} {v : Value} {xs : List Int}
theorem RestZ.block (h : RestZ w E K v) (hb : ∀ g, v.ownBlock = some g → w'.heap[g]? = w.heap[g]?) : RestZ w' E K v := fun g n c cur e hh => by
 subst e
 rw [hb g rfl] at hh
 exact h g n c cur rfl hh
theorem OwnZ.nil (w : World) (base : Nat) (E : TypeId) (K : Nat) : OwnZ w base E K (.slice none 0 0) 0 [] := ⟨OwnR.nil _ _ _ _, fun g n c cur e => by simp at e, fun _ => rfl⟩
theorem OwnZ.alloc (h : OwnZ w base E K v n xs) (o : Obj) : OwnZ (w.alloc o) base E K v n xs := ⟨h.own.alloc o, h.rest.block fun g hg => heap_alloc_old w o (World.ownsRow.lt h.own.1 g hg).2, h.nz⟩
theorem OwnZ.below (h : OwnZ w base E K v n xs) (hb : Below w.heap.size w w') : OwnZ w' base E K v n xs := ⟨h.own.below hb, h.rest.block fun g hg => hb.block g (World.ownsRow.lt h.own.1 g hg).2, h.nz⟩
theorem OwnZ.slice (h : OwnZ w base E K v n xs) : ∃ A c, v = .slice A n c ∧ n ≤ c := h.own.slice
theorem OwnZ.recs {A : Option Addr} {c : Nat} (h : OwnZ w base E K (.slice A n c) n xs) : RecsAt w w.heap.size K A n xs := h.own.recs
end
theorem zeroCells_at {zc : Array Value} (hzz : ∀ j, j < zc.size → zc[j]? = some (.int .i64 0)) {n i : Nat} (hi : i < (Builtin.zeroCells zc n).size) : (Builtin.zeroCells zc n)[i]? = some (.int .i64 0) := by
 have hs := size_zeroCells zc n
 have hz : 0 < zc.size := by
  rcases Nat.eq_zero_or_pos zc.size with e | e
  ·rw [hs, e, Nat.mul_zero] at hi; omega
  ·exact e
 have hm := Nat.mod_lt i hz
 have h1 := hzz _ hm
 rw [hs] at hi
 simp only [Builtin.zeroCells, Array.getElem?_map, Array.getElem?_range, if_pos hi, Option.map_some, Option.some.injEq]
 rw [getElem!_def, h1]
theorem append_rest {P : Program} (w : World) (base : Nat) (t ty e : TypeId) (i : TypeInfo) (zc : Array Value) (size bytes : Nat) (ht : P.underlying t = some (.slice e)) (hi : P.info? e = some i) (hz : i.zero = some (.agg zc))
  (hsize : i.size = size) (hby : i.bytes = bytes) (hzs : zc.size = size) (hzz : ∀ j, j < zc.size → zc[j]? = some (.int .i64 0))
  (v : Value) (n : Nat) (xs : List Value) (hown : w.ownsRow base e size v n xs) (hrest : RestZ w e size v)
  (a : Addr) (m c : Nat) (news : List Value) (hl : news.length = m * size) (hnews : ∀ j u, news[j]? = some u → w.cell? (a.add j) = some u) (h1 : ∀ u ∈ news, u.oneCell' = true)
  (h63 : n + m ≤ maxLen) (hbytes : (n + m) * bytes ≤ 140737488355328) (hm : 1 ≤ m) {v' : Value} {w' : World}
  (hr : (Builtin.append_ #[t, t] ty #[v, .slice (some a) m c]).run P w = .ok v' w') : RestZ w' e size v' := by
 subst hsize
 subst hby
 have hsmall : n + m ≤ 9223372036854775807 := by simp only [maxLen] at h63; omega
 have fin : ∀ (ys : List Value) (k cap : Nat), ys.length = k * i.size → RestZ (w.drew.alloc (.cells (ys.toArray ++ Builtin.zeroCells zc (cap - k)) e)) e i.size (.slice (some ⟨w.heap.size, 0, none⟩) k cap) := by
  intro ys k cap hys g n c cur e1 hh j hj1 hj2
  simp only [Value.slice.injEq, Option.some.injEq, Addr.mk.injEq] at e1
  obtain ⟨⟨rfl, _, _⟩, rfl, rfl⟩ := e1
  have hh2 := heap_alloc_new w.drew (.cells (ys.toArray ++ Builtin.zeroCells zc (cap - k)) e)
  have hh3 := hh.symm.trans hh2
  simp only [Option.some.injEq, Obj.cells.injEq] at hh3
  obtain ⟨rfl, _, _⟩ := hh3
  rw [Array.getElem?_append, if_neg (by simp [hys]; omega)]
  refine zeroCells_at hzz ?_
  simp only [Array.size_append, List.size_toArray, hys] at hj2 ⊢
  omega
 rcases hown.2 with ⟨rfl, rfl⟩ | ⟨g, cap, cur, rfl, hbg, hg, hnc, hcm, hcs, htake⟩
 ·have hr2 := run_append_nil (P := P) w t ty e i (.agg zc) ht hi hz a m c news hl hnews (by omega) (by omega) (by have hb := hbytes; simp only [Nat.zero_add] at hb; omega)
  rw [hr2] at hr
  cases hr
  exact fin news m _ hl
 ·by_cases hroom : n + m ≤ cap
  ·have hfit : n * i.size + news.length ≤ cur.size := by rw [hl, hcs, ← Nat.add_mul]; exact Nat.mul_le_mul_right _ hroom
   have hr2 := run_append_room (P := P) w t ty e i ht hi g n cap cur hg a m c news hl hnews h1 hroom hfit
   rw [hr2] at hr
   cases hr
   intro g2 n2 c2 cur2 e1 hh j hj1 hj2
   simp only [Value.slice.injEq, Option.some.injEq, Addr.mk.injEq] at e1
   obtain ⟨⟨rfl, _, _⟩, rfl, rfl⟩ := e1
   rw [setRow_heap w g cur _ e _ hg] at hh
   simp only [Option.some.injEq, Obj.cells.injEq] at hh
   obtain ⟨rfl, _, _⟩ := hh
   have hk := hrest g n cap cur rfl hg j (by rw [Nat.add_mul] at hj1; omega)
   have hnn : n * i.size + news.length = (n + m) * i.size := by rw [hl, Nat.add_mul]
   simp only [List.size_toArray, List.length_append, List.length_take, List.length_drop, Array.length_toList] at hj2
   have hj3 : j < cur.size := by omega
   have hk2 := hk hj3
   simp only [List.getElem?_toArray]
   rw [List.getElem?_append_right (by simp; omega), List.getElem?_drop]
   simp only [List.length_append, List.length_take, Array.length_toList]
   rw [show n * i.size + news.length + (j - (min (n * i.size) cur.size + news.length)) = j by omega]
   simpa using hk2
  ·have holds : ∀ j u, xs[j]? = some u → w.cell? ((⟨g, 0, none⟩ : Addr).add j) = some u := hown.cells (g := g) rfl
   have hr2 := run_append_grow (P := P) w t ty e i (.agg zc) ht hi hz ⟨g, 0, none⟩ n cap xs hown.1 holds a m c news hl hnews (by omega) (by omega) (growslice_fits (by omega) hbytes)
   rw [hr2] at hr
   cases hr
   have := fin (xs ++ news) (n + m) (grownCap w (n + m) cap e) (by rw [List.length_append, hown.1, hl, Nat.add_mul])
   simpa [Value.cells] using this
theorem wpList_appZ {P : Program} (w : World) {ops : Array Oper} {rest : List Oper} {o : Oper} {a : Act} {Q : Exit → Act → World → Prop} (hgd : o.guard = none) (s x : Operand) (t : TypeId)
  (ho : o.op = .call { callee := .builtin .append, args := #[s, x], argTypes := #[t, t] })
  (base : Nat) (E : TypeId) (K bytes : Nat) (zc : Array Value) (ht : P.underlying t = some (.slice E)) (hinfo : (P.info? E).map (fun i => (i.zero, i.size, i.bytes)) = some (some (.agg zc), K, bytes)) (hzc : zc.size = K) (hzz : ∀ j, j < zc.size → zc[j]? = some (.int .i64 0)) (hK : 0 < K) (hby : bytes ≤ 1024)
  (v : Value) (n : Nat) (xs : List Int) (hs : a.eval s = v) (hown : OwnZ w base E K v n xs) (g m c : Nat) (ys : List Int) (hx : a.eval x = .slice (some ⟨g, 0, none⟩) m c) (hy : ys.length = m * K)
  (hg : ∀ i, i < m * K → w.cell? ⟨g, i, none⟩ = some (.int .i64 (nth ys i))) (hn : n + m ≤ 1048576) (B : Nat) (w0 : World) (hb : Below B w0 w) (hB : B ≤ base) (hbase : base ≤ w.heap.size) (xs' : List Int) (hxs : xs ++ ys = xs')
  (h : ∀ g' cap' w', OwnZ w' base E K (.slice (some ⟨g', 0, none⟩) (n + m) cap') (n + m) xs' → Below B w0 w' → wpList P ops Q rest (a.put o.dst (.slice (some ⟨g', 0, none⟩) (n + m) cap')) w') (hm : 1 ≤ m) : wpList P ops Q (o :: rest) a w := by
 subst hxs
 obtain ⟨i0, hi0, hz0, hz1, hz2⟩ := info_parts hinfo
 have hbb : (n + m) * bytes ≤ 1048576 * 1024 := Nat.mul_le_mul hn hby
 have hnews : ∀ j u, (ys.map (Value.int .i64))[j]? = some u → w.cell? ((⟨g, 0, none⟩ : Addr).add j) = some u := by
  intro j u hj
  have hjl : j < ys.length := by
   have := (List.getElem?_eq_some_iff.1 hj).1
   simpa using this
  rw [List.getElem?_map, List.getElem?_eq_getElem hjl] at hj
  simp at hj
  subst hj
  rw [Go.WideShapes.add_plain, Nat.zero_add, hg j (by rw [← hy]; exact hjl), nth_get ys j hjl]
 have hone : ∀ u ∈ ys.map (Value.int .i64), u.oneCell' = true := by
  intro u hu
  obtain ⟨z, _, rfl⟩ := List.mem_map.1 hu
  rfl
 refine wpList_plain hgd fun _ hK' => ?_
 obtain ⟨v', w', hr, h2, h3, h4⟩ := run_append_own (P := P) w base t o.type E i0 (.agg zc) K bytes ht hi0 hz0 hz1 hz2 (by simpa [Value.cells] using hzc) hK v n _ hown.own.1 ⟨g, 0, none⟩ m c (ys.map (Value.int .i64)) (by simpa using hy) hnews hone (by unfold maxLen; omega) (by omega) hbase
 have hrz := append_rest (P := P) w base t o.type E i0 zc K bytes ht hi0 hz0 hz1 hz2 hzc hzz v n _ hown.own.1 hown.rest ⟨g, 0, none⟩ m c (ys.map (Value.int .i64)) (by simpa using hy) hnews hone (by unfold maxLen; omega) (by omega) hm hr
 unfold Oper.wp execOp
 simp only [ho, resolve, invoke, builtin, Sem.run_bind, Sem.run_pure, Result.andThen_ok, List.map_toArray, List.map_cons, List.map_nil, hs, hx, hr]
 refine hK' _ _ ?_
 have h' : OwnR w' base E K v' (n + m) (xs ++ ys) := ⟨by rw [List.map_append]; exact h2, by rw [List.length_append, hown.own.2, hy, Nat.add_mul]⟩
 rcases h'.form with ⟨_, h2, _⟩ | ⟨g', cap', rfl, _⟩
 ·omega
 ·exact h g' cap' w' ⟨h', hrz, fun e => by have := congrArg List.length e; rw [List.length_append, hy, List.length_nil] at this; have : 0 < m * K := Nat.mul_pos (by omega) hK; omega⟩ (hb.grown h3 (by omega) (fun k hk => by have := hown.own.ownLt k hk; omega))
end
section
open Go.RowKit
def ddStep (zs acc : List Int) (j : Nat) : List Int := if hasTo acc (nth zs (j * 4)) (nth zs (j * 4 + 1)) (nth zs (j * 4 + 2)) (nth zs (j * 4 + 3)) (acc.length / 4) = true then acc else acc ++ [nth zs (j * 4), nth zs (j * 4 + 1), nth zs (j * 4 + 2), nth zs (j * 4 + 3)]
def ddRow (zs acc : List Int) (t : Nat) : List Int := foldN (fun j a => ddStep zs a j) t acc
def ddAll (zs : Nat → List Int) (t : Nat) : List Int := foldN (fun i a => ddRow (zs i) a ((zs i).length / 4)) t []
theorem ddRow_s (zs acc : List Int) (t : Nat) : ddRow zs acc (t + 1) = ddStep zs (ddRow zs acc t) t := rfl
theorem ddAll_s (zs : Nat → List Int) (t : Nat) : ddAll zs (t + 1) = ddRow (zs t) (ddAll zs t) ((zs t).length / 4) := rfl
theorem zz4 : ∀ j, j < (#[Value.int .i64 0, .int .i64 0, .int .i64 0, .int .i64 0] : Array Value).size → (#[Value.int .i64 0, .int .i64 0, .int .i64 0, .int .i64 0] : Array Value)[j]? = some (.int .i64 0) := fun j hj => by
 match j, hj with
 | 0, _ => rfl
 | 1, _ => rfl
 | 2, _ => rfl
 | 3, _ => rfl
def FndAt (w : World) (C n : Nat) (zs : Nat → List Int) : Prop :=
 ∀ i, i < n → ∃ A m c, w.cell? ⟨C, i, none⟩ = some (.slice A m c) ∧ RecsAt w w.heap.size 4 A m (zs i) ∧ m ≤ 400
theorem FndAt.after {w w1 : World} {C n : Nat} {zs : Nat → List Int} (h : FndAt w C n zs) (hC : C < w.heap.size) (hb : Below w.heap.size w w1) : FndAt w1 C n zs := fun i hi => by
 obtain ⟨A, m, c, h1, h2, h3⟩ := h i hi
 exact ⟨A, m, c, (hb.cell hC).trans h1, h2.after hb, h3⟩
structure DdFacts (zs acc : List Int) (j q : Nat) (H V M D : Int) : Prop where
 has : hasTo acc H V M D q = true → ddStep zs acc j = acc
 no : hasTo acc H V M D q = false → ddStep zs acc j = acc ++ [H, V, M, D]
theorem ddFacts {zs acc : List Int} {j q b : Nat} (h : CorAcc acc q b) : DdFacts zs acc j q (nth zs (j * 4)) (nth zs (j * 4 + 1)) (nth zs (j * 4 + 2)) (nth zs (j * 4 + 3)) := by
 have e : acc.length / 4 = q := by have := h.len; omega
 constructor <;> intro hh <;> unfold ddStep <;> rw [e]
 ·rw [if_pos hh]
 ·rw [if_neg (by rw [hh]; simp)]
set_option maxRecDepth 100000 in
set_option maxHeartbeats 6400000 in
theorem epiW (v0 v1 v2 v4 v5 v6 v7 v8 v9 v10 v11 v12 v13 v14 v15 v16 v17 v18 v19 v20 v21 v22 v23 v24 v25 v26 v27 v28 v29 v30 v31 v32 v33 v34 v35 v36 v37 v38 v39 v40 v41 v42 v43 v44 v45 v46 v47 v48 v49 v50 v51 v52 v53 v54 : Value) (fb C n : Nat) (zs : Nat → List Int) (w : World) (hfb : w.cell? ⟨fb, 0, none⟩ = some (.slice (some ⟨C, 0, none⟩) n n)) (hC : C < w.heap.size) (hF : FndAt w C n zs) (hn : n ≤ 20)
  (r0 pr r3 r4 r5 l rw ce : Code) (e : pbody = .seq r0 (.seq pr (.seq r3 (.seq r4 (.seq (.seq r5 l) (.seq rw ce)))))) :
  ce.wp Tryz.prog (bodyPost Tryz.prog Tryz.f68 fun e w' => ∃ v q, e = .returned v ∧ OwnZ w' w.heap.size 31 4 v q (ddAll zs n) ∧ Below w.heap.size w w') ⟨#[v0, v1, v2, .pointer (some ⟨fb, 0, none⟩), v4, v5, v6, v7, v8, v9, v10, v11, v12, v13, v14, v15, v16, v17, v18, v19, v20, v21, v22, v23, v24, v25, v26, v27, v28, v29, v30, v31, v32, v33, v34, v35, v36, v37, v38, v39, v40, v41, v42, v43, v44, v45, v46, v47, v48, v49, v50, v51, v52, v53, v54], []⟩ w := by
 have HF := Lib.hid hF
 have HC := Lib.hid hC
 clear hF hC
 simp only [pbody, Tryz.f68, Option.getD, Code.seq.injEq] at e
 obtain ⟨e1, e2, e3, e4, ⟨e5, e6⟩, e7, rfl⟩ := e
 clear e1 e2 e3 e4 e5 e6 e7
 go_wp2
 go_loopw [6, 34] (fun v6 v34 wr => ∃ i q : Nat, i ≤ n ∧ v34 = .int .i64 i ∧ Hid (CorAcc (ddAll zs i) q (400 * i)) ∧ Hid (OwnZ wr w.heap.size 31 4 v6 q (ddAll zs i)) ∧ Hid (Below w.heap.size w wr)) (fun _ v34 _ => n - (intOf v34).toNat)
 case atStart => exact ⟨0, 0, Nat.zero_le _, rfl, Lib.hid ⟨rfl, Nat.le_refl _⟩, Lib.hid (OwnZ.nil _ _ _ _), Lib.hid (Below.refl _ _)⟩
 case round =>
  obtain ⟨i, q, hi, rfl, HA, HO, HB⟩ := hrel
  by_cases hli : i < n
  ·have ii : (i : Int) < (n : Int) := by omega
   obtain ⟨Ai, m, ci, hx, hrec, hm⟩ := HF.out i hli
   have hx1 : wr.cell? ⟨C, i, none⟩ = some (.slice Ai m ci) := (HB.out.cell (by exact HC.out)).trans hx
   have HR := Lib.hid hrec
   have HI1 := Lib.hid (show ddAll zs (i + 1) = ddRow (zs i) (ddAll zs i) ((zs i).length / 4) from ddAll_s zs i)
   have HM : Hid ((zs i).length / 4 = m) := Lib.hid (by have := hrec.1; omega)
   obtain ⟨a2, ha2⟩ : ∃ a, ddAll zs i = a := ⟨_, rfl⟩
   rw [ha2] at HA HO HI1
   clear ha2 hx hrec
   generalize zs i = zi at *
   have im : i < 9223372036854775808 := by omega
   go_wp2
   go_loopw [6, 40] (fun v6 v40 wr => ∃ j q : Nat, j ≤ m ∧ v40 = .int .i64 j ∧ Hid (CorAcc (ddRow zi a2 j) q (400 * i + j)) ∧ Hid (OwnZ wr w.heap.size 31 4 v6 q (ddRow zi a2 j)) ∧ Hid (Below w.heap.size w wr)) (fun _ v40 _ => m - (intOf v40).toNat)
   case atStart => exact ⟨0, q, Nat.zero_le _, rfl, HA, HO, HB⟩
   case round =>
    clear HA HO HB
    obtain ⟨j, q, hj, rfl, HA, HO, HB⟩ := hrel
    by_cases hlj : j < m
    ·have jj : (j : Int) < (m : Int) := by omega
     have HJ1 := Lib.hid (show ddRow zi a2 (j + 1) = ddStep zi (ddRow zi a2 j) j from ddRow_s zi a2 j)
     obtain ⟨a3, ha3⟩ : ∃ a, ddRow zi a2 j = a := ⟨_, rfl⟩
     rw [ha3] at HA HO HJ1
     clear ha3
     obtain ⟨b, off, rfl, hbB, hc⟩ := HR.out.2 (by omega)
     obtain ⟨x0, x1, x2, x3⟩ := rwCells (fun i hi => (HB.out.cell (by exact hbB)).trans (hc i hi)) hlj
     have HD := Lib.hid (ddFacts (zs := zi) (j := j) HA.out)
     clear hc
     generalize nth zi (j * 4) = y0 at *
     generalize nth zi (j * 4 + 1) = y1 at *
     generalize nth zi (j * 4 + 2) = y2 at *
     generalize nth zi (j * 4 + 3) = y3 at *
     obtain ⟨A3, c3, rfl, hc3⟩ := HO.out.slice
     have BX := Lib.hid (Box4.new wr y0 y1 y2 y3 31)
     have HB1 := Lib.hid (HB.out.alloc HB.out.size (.cells #[.int .i64 y0, .int .i64 y1, .int .i64 y2, .int .i64 y3] 31))
     have HO1 := Lib.hid (HO.out.alloc (.cells #[.int .i64 y0, .int .i64 y1, .int .i64 y2, .int .i64 y3] 31))
     have HRC := Lib.hid HO1.out.recs
     have hq8 : q ≤ 8400 := by have := HA.out.few; omega
     obtain ⟨t0, t1, t2, t3⟩ := BX.out.1
     clear HB HO
     go_wp2_with fail
     refine (containsThr_any _ _ _ a3 _ _ _ _ _ HRC.out (by omega)).mono ?_
     rintro e w1 ⟨rfl, hb1⟩
     have HB2 := Lib.hid (below_then HB1.out hb1)
     have HO2 := Lib.hid (HO1.out.below hb1)
     have BX2 := Lib.hid (BX.out.after hb1)
     clear hb1 t0 t1 t2 t3 HRC HO1 HB1 BX x0 x1 x2 x3
     cases hh : hasTo a3 y0 y1 y2 y3 q
     rotate_left
     ·have HEQ := Lib.hid (HD.out.has hh)
      clear hh
      have HAX : Hid (CorAcc (ddRow zi a2 (j + 1)) q (400 * i + (j + 1))) := by rw [HJ1.out, HEQ.out]; exact Lib.hid ⟨HA.out.len, by have := HA.out.few; omega⟩
      have HOX := HO2
      rw [← HJ1.out.trans HEQ.out] at HOX
      go_wp2
      go_roundw
      case rel => exact ⟨j + 1, q, by omega, by go_num, HAX, HOX, HB2⟩
      case measure => simp [intOf]; omega
     have HEQ := Lib.hid (HD.out.no hh)
     clear hh
     obtain ⟨t0, t1, t2, t3⟩ := BX2.out.1
     have hcn : ∀ y, y < 1 * 4 → (w1.alloc (.cells #[.int .i64 y0, .int .i64 y1, .int .i64 y2, .int .i64 y3] 31)).cell? ⟨w1.heap.size, y, none⟩ = some (.int .i64 (nth [y0, y1, y2, y3] y)) := fun y hy =>
      World.rowIs.cell (World.rowIs_alloc w1 #[.int .i64 y0, .int .i64 y1, .int .i64 y2, .int .i64 y3] 31 (ints [y0, y1, y2, y3]) (fun i hi => by simp at hi; match i, hi with | 0, _ => rfl | 1, _ => rfl | 2, _ => rfl | 3, _ => rfl)) (by simpa using hy)
     have HCN := Lib.hid hcn
     have HBA := Lib.hid (HB2.out.alloc HB2.out.size (.cells #[.int .i64 y0, .int .i64 y1, .int .i64 y2, .int .i64 y3] 31))
     have hW0 : w.heap.size ≤ (w1.alloc (.cells #[.int .i64 y0, .int .i64 y1, .int .i64 y2, .int .i64 y3] 31)).heap.size := HBA.out.size
     have HXX : Hid (a3 ++ [y0, y1, y2, y3] = ddRow zi a2 (j + 1)) := Lib.hid (by rw [HJ1.out, HEQ.out])
     have HAX : Hid (CorAcc (ddRow zi a2 (j + 1)) (q + 1) (400 * i + (j + 1))) := by rw [HJ1.out, HEQ.out]; exact Lib.hid ⟨by simp [HA.out.len]; omega, by have := HA.out.few; omega⟩
     clear hcn
     go_wp2_with (at_builtin; refine wpList_appZ _ rfl (.tmp 48) (.tmp 50) 34 rfl w.heap.size 31 4 32 #[.int .i64 0, .int .i64 0, .int .i64 0, .int .i64 0] Tryz.underlying34 infoThr rfl zz4 (by decide) (by decide) _ q a3 rfl (by exact HO2.out.alloc _) w1.heap.size 1 1 [y0, y1, y2, y3] rfl rfl (by exact HCN.out) (by omega) w.heap.size w (by exact HBA.out) (Nat.le_refl _) hW0 _ HXX.out ?_ (by omega); intro g' cap' w7 hown7 hb7; have HO7 := Lib.hid hown7; have HB7 := Lib.hid hb7)
     go_roundw
     case rel => exact ⟨j + 1, q + 1, by omega, by go_num, HAX, HO7, HB7⟩
     case measure => simp [intOf]; omega
    ·obtain rfl : m = j := by omega
     have nn : ¬ (m : Int) < (m : Int) := by omega
     have HA1 : Hid (CorAcc (ddAll zs (i + 1)) q (400 * (i + 1))) := by rw [HI1.out, HM.out]; exact Lib.hid ⟨HA.out.len, by have := HA.out.few; omega⟩
     have HO1 := HO
     rw [← HM.out, ← HI1.out] at HO1
     go_wp2
     go_roundw
     case rel => exact ⟨i + 1, q, by omega, by go_num, HA1, HO1, HB⟩
     case measure => simp [intOf]; omega
  ·obtain rfl : n = i := by omega
   have nn : ¬ (n : Int) < (n : Int) := by omega
   go_wp2
   go_ret
   exact ⟨_, rfl, ⟨q, HO.out⟩, HB.out⟩
end
namespace Rn
open Go.Conc Go.RowKit
def epiL : List Nat := [119, 163]
def epiF : Nat → Bool := fun k => epiL.contains k
theorem epi_all : epiL.all (fun f => (f != 68) && match Tryz.prog.funcs[f]? with | some fn => (fn.name != "runtime.NumGoroutine") && (match fn.body with | some c => okC Tryz.prog.toTables epiF (fun _ => true) c | none => false) | none => false) = true := by decide +kernel
theorem epi_one {f : Nat} (h : epiF f = true) : f ≠ 68 ∧ ∃ fn c, Tryz.prog.funcs[f]? = some fn ∧ (fn.name == "runtime.NumGoroutine") = false ∧ fn.body = some c ∧ okC Tryz.prog.toTables epiF (fun _ => true) c = true := by
 have hm : f ∈ epiL := by simpa [epiF] using h
 have := List.all_eq_true.1 epi_all f hm
 rw [Bool.and_eq_true] at this
 obtain ⟨hne, this⟩ := this
 refine ⟨by simpa using hne, ?_⟩
 cases hf : Tryz.prog.funcs[f]? with
 | none => rw [hf] at this; cases this
 | some fn =>
  rw [hf] at this
  dsimp only at this
  cases hb : fn.body with
  | none => rw [hb] at this; simp at this
  | some c =>
   rw [hb] at this
   simp only [Bool.and_eq_true] at this
   exact ⟨fn, c, rfl, by simpa using this.1, hb, this.2⟩
def cendD : Nat → Bool := fun i => i == 2 || i == 3 || i == 6 || i == 8 || i == 10 || decide (32 ≤ i)
theorem cendD_form : ∀ i, i < 55 → cendD i = true → i = 2 ∨ i = 3 ∨ i ∈ freshL := by decide
noncomputable def ectx (noT : TypeId) (n : Nat) (offs : Nat → Nat) : Ctx where
 tb := Tryz.prog.toTables
 fx := Tryz.prog.funcs
 fs := Tryz.prog.funcs
 F := epiF
 RO := fun a => Tryz.prog.globals.size ≤ a ∧ a < Tryz.prog.globals.size + 2 + n
 sh := fun a => if Tryz.prog.globals.size + 2 ≤ a ∧ a < Tryz.prog.globals.size + 2 + n then offs (a - (Tryz.prog.globals.size + 2)) else 0
 noT := noT
 D := fun f => if f = 68 then cendD else fun _ => true
section
variable {noT : TypeId} {n : Nat} {m cc bl offs : Nat → Nat} {zs : Nat → List Int} {fb C : Nat} {v : World}
theorem epi_fine : ∀ f, (ectx noT n offs).F f = true → Fine (ectx noT n offs) f := fun f h => by
 obtain ⟨hne, fn, c, h1, _, h3, h4⟩ := epi_one h
 refine ⟨rfl, fn, c, h1, h3, ?_⟩
 show okC Tryz.prog.toTables epiF (if f = 68 then cendD else fun _ => true) c = true
 rw [if_neg hne]
 exact h4
theorem epi_sp (k f : Nat) : (ectx noT n offs).D k (specAt f) = true := by
 show (if k = 68 then cendD else fun _ => true) (specAt f) = true
 split
 ·have : decide (32 ≤ specAt f) = true := decide_eq_true (by show 32 ≤ 1000000000 + f; exact Nat.le_trans (by decide) (Nat.le_add_right 1000000000 f))
  simp only [cendD, this, Bool.or_true]
 ·rfl
theorem epi_ok : CtxOk (ectx noT n offs) := by
 have k : ∀ f, epiF f = true → ∃ fn, Tryz.prog.funcs[f]? = some fn ∧ (fn.name == "runtime.NumGoroutine") = false ∧ fn.body.isNone = false := fun f h => by
  obtain ⟨_, fn, c, h1, h2, h3, _⟩ := epi_one h
  exact ⟨fn, h1, h2, by rw [h3]; rfl⟩
 refine ⟨k, k, fun f fn hf => ?_, fun k f h => (by rw [epi_sp] at h; cases h), fun k f h => (by rw [epi_sp] at h; cases h)⟩
 show resD fn (if f = 68 then cendD else fun _ => true) = true
 by_cases e : f = 68
 ·subst e
  rw [if_pos rfl]
  have hf' : Tryz.prog.funcs[(68 : Nat)]? = some fn := hf
  rw [Tryz.func68] at hf'
  obtain rfl := Option.some.inj hf'
  decide +kernel
 ·rw [if_neg e]
  exact resD_all fn
noncomputable def cellE (n : Nat) (m cc : Nat → Nat) (i : Nat) : Value := if m i = 0 then .slice none 0 (cc i) else .slice (some ⟨Tryz.prog.globals.size + 2 + i, 0, none⟩) (m i) (cc i)
noncomputable def fE (noT : TypeId) (n : Nat) (m cc : Nat → Nat) (zs : Nat → List Int) (a : Nat) : Obj :=
 if a < Tryz.prog.globals.size then .map #[] 0 else
 if a = Tryz.prog.globals.size then .cells #[.slice (some ⟨Tryz.prog.globals.size + 1, 0, none⟩) n n] noT (0, 1) else
 if a = Tryz.prog.globals.size + 1 then .cells ((Array.range n).map (cellE n m cc)) noT (0, n) else
 .cells ((Array.range (4 * m (a - (Tryz.prog.globals.size + 2)))).map fun k => Value.int .i64 (nth (zs (a - (Tryz.prog.globals.size + 2))) k)) noT (0, 4 * m (a - (Tryz.prog.globals.size + 2)))
noncomputable def eWorld (v : World) (noT : TypeId) (n : Nat) (m cc : Nat → Nat) (zs : Nat → List Int) : World := { v with heap := (Array.range (Tryz.prog.globals.size + 2 + n)).map (fE noT n m cc zs) }
theorem e_at {a : Nat} (h : a < Tryz.prog.globals.size + 2 + n) : (eWorld v noT n m cc zs).heap[a]? = some (fE noT n m cc zs a) := by
 show ((Array.range (Tryz.prog.globals.size + 2 + n)).map (fE noT n m cc zs))[a]? = _
 rw [Array.getElem?_map, Array.getElem?_range, if_pos h]
 rfl
theorem e_size : (eWorld v noT n m cc zs).heap.size = Tryz.prog.globals.size + 2 + n := by
 show ((Array.range (Tryz.prog.globals.size + 2 + n)).map (fE noT n m cc zs)).size = _
 simp
def eR (n : Nat) (m bl : Nat → Nat) (fb C : Nat) : Ren := fun a b => (a = Tryz.prog.globals.size ∧ b = fb) ∨ (a = Tryz.prog.globals.size + 1 ∧ b = C) ∨ ∃ i, i < n ∧ 0 < m i ∧ a = Tryz.prog.globals.size + 2 + i ∧ b = bl i
structure EpiAt (v : World) (fb C n : Nat) (m cc bl offs : Nat → Nat) (zs : Nat → List Int) : Prop where
 n1 : 1 ≤ n
 n20 : n ≤ 20
 glob : Tryz.prog.globals.size ≤ v.heap.size
 fbx : v.cell? ⟨fb, 0, none⟩ = some (.slice (some ⟨C, 0, none⟩) n n)
 cel : ∀ i, i < n → v.cell? ⟨C, i, none⟩ = some (if m i = 0 then .slice none 0 (cc i) else .slice (some ⟨bl i, offs i, none⟩) (m i) (cc i))
 row : ∀ i, i < n → ∀ k, k < 4 * m i → v.cell? ⟨bl i, offs i + k, none⟩ = some (.int .i64 (nth (zs i) k))
 len : ∀ i, i < n → (zs i).length = m i * 4
 few : ∀ i, i < n → m i ≤ 400
theorem cells_of {w : World} {b o : Nat} {x : Value} (h : w.cell? ⟨b, o, none⟩ = some x) : ∃ c T z, w.heap[b]? = some (.cells c T z) ∧ c[o]? = some x := by
 unfold World.cell? at h
 revert h
 cases w.heap[b]? with
 | none => intro h; cases h
 | some o => cases o <;> intro h <;> first | exact ⟨_, _, _, rfl, by simpa using h⟩ | cases h
theorem cell_of {w : World} {b o : Nat} {c : Array Value} {T : TypeId} {z : Nat × Nat} (h : w.heap[b]? = some (.cells c T z)) : w.cell? ⟨b, o, none⟩ = c[o]? := by simp [World.cell?, h]
theorem eR_ro {a b : Nat} (h : eR n m bl fb C a b) : Tryz.prog.globals.size ≤ a ∧ a < Tryz.prog.globals.size + 2 + n := by
 rcases h with ⟨rfl, _⟩ | ⟨rfl, _⟩ | ⟨i, hi, _, rfl, _⟩ <;> omega
theorem esh {a : Nat} : (ectx noT n offs).sh a = if Tryz.prog.globals.size + 2 ≤ a ∧ a < Tryz.prog.globals.size + 2 + n then offs (a - (Tryz.prog.globals.size + 2)) else 0 := rfl
theorem eWR (hno : Tryz.prog.toTables.info? noT = none) (h : EpiAt v fb C n m cc bl offs zs) : WR (ectx noT n offs) (eR n m bl fb C) (eWorld v noT n m cc zs) v where
 lt := by
  intro a b ab
  refine ⟨by rw [e_size]; exact (eR_ro ab).2, ?_⟩
  rcases ab with ⟨_, rfl⟩ | ⟨_, rfl⟩ | ⟨i, hi, hm, _, rfl⟩
  ·obtain ⟨_, _, _, k, _⟩ := cells_of h.fbx; exact (Array.getElem?_eq_some_iff.1 k).1
  ·obtain ⟨_, _, _, k, _⟩ := cells_of (h.cel 0 h.n1); exact (Array.getElem?_eq_some_iff.1 k).1
  ·obtain ⟨_, _, _, k, _⟩ := cells_of (h.row i hi 0 (by omega)); exact (Array.getElem?_eq_some_iff.1 k).1
 fn := by
  intro a b b' k1 k2
  rcases k1 with ⟨h1, e1⟩ | ⟨h1, e1⟩ | ⟨i, hi, hm, h1, e1⟩ <;> rcases k2 with ⟨h2, e2⟩ | ⟨h2, e2⟩ | ⟨i', hi', hm', h2, e2⟩ <;> rw [e1, e2] <;> first | (exfalso; omega) | exact congrArg bl (by omega)
 inj := fun a a' b ab ab' => .inr ⟨eR_ro ab, eR_ro ab'⟩
 obj := fun a b ab hr => absurd (eR_ro ab) hr
 win := by
  intro a b ab hr
  rw [e_at hr.2]
  have ab0 := ab
  rcases ab with ⟨rfl, rfl⟩ | ⟨rfl, rfl⟩ | ⟨i, hi, hm, rfl, rfl⟩
  ·obtain ⟨c, T, z, k1, k2⟩ := cells_of h.fbx
   have ef : fE noT n m cc zs Tryz.prog.globals.size = .cells #[.slice (some ⟨Tryz.prog.globals.size + 1, 0, none⟩) n n] noT (0, 1) := by
    unfold fE
    rw [if_neg (by omega), if_pos rfl]
   refine ⟨_, 1, c, T, z, by rw [ef]; rfl, by simp, k1, fun j u hu => ?_⟩
   match j, hu with
   | 0, hu =>
    cases hu
    have hs : (ectx noT n offs).sh Tryz.prog.globals.size = 0 := by rw [esh, if_neg (by omega)]
    have hs1 : (ectx noT n offs).sh (Tryz.prog.globals.size + 1) = 0 := by rw [esh, if_neg (by omega)]
    exact ⟨.slice (some ⟨C, 0, none⟩) n n, by rw [hs]; exact k2, .sl n n ⟨.inr (.inl ⟨rfl, rfl⟩), by show 0 = 0 + (ectx noT n offs).sh (Tryz.prog.globals.size + 1); rw [hs1], rfl⟩⟩
   | j + 1, hu => simp at hu
  ·obtain ⟨c, T, z, k1, k2⟩ := cells_of (h.cel 0 h.n1)
   have ef : fE noT n m cc zs (Tryz.prog.globals.size + 1) = .cells ((Array.range n).map (cellE n m cc)) noT (0, n) := by
    unfold fE
    rw [if_neg (by omega), if_neg (by omega), if_pos rfl]
   refine ⟨_, n, c, T, z, by rw [ef]; rfl, by simp, k1, fun j u hu => ?_⟩
   rw [Array.getElem?_map] at hu
   obtain ⟨y, hy, rfl⟩ := Option.map_eq_some_iff.1 hu
   obtain ⟨hlt, rfl⟩ := Array.getElem?_eq_some_iff.1 hy
   simp only [Array.size_range] at hlt
   simp only [Array.getElem_range]
   have hc := h.cel j hlt
   rw [cell_of k1] at hc
   have hs1 : (ectx noT n offs).sh (Tryz.prog.globals.size + 1) = 0 := by rw [esh, if_neg (by omega)]
   refine ⟨_, by rw [hs1]; exact hc, ?_⟩
   unfold cellE
   by_cases h0 : m j = 0
   ·rw [if_pos h0, if_pos h0]; exact .sl0 _ _
   ·rw [if_neg h0, if_neg h0]
    refine .sl _ _ ⟨.inr (.inr ⟨j, hlt, by omega, rfl, rfl⟩), ?_, rfl⟩
    show offs j = 0 + (if Tryz.prog.globals.size + 2 ≤ Tryz.prog.globals.size + 2 + j ∧ Tryz.prog.globals.size + 2 + j < Tryz.prog.globals.size + 2 + n then offs (Tryz.prog.globals.size + 2 + j - (Tryz.prog.globals.size + 2)) else 0)
    rw [if_pos (by omega), Nat.zero_add, Nat.add_sub_cancel_left]
  ·obtain ⟨c, T, z, k1, k2⟩ := cells_of (h.row i hi 0 (by omega))
   have ei : Tryz.prog.globals.size + 2 + i - (Tryz.prog.globals.size + 2) = i := Nat.add_sub_cancel_left ..
   have ef : fE noT n m cc zs (Tryz.prog.globals.size + 2 + i) = .cells ((Array.range (4 * m i)).map fun k => Value.int .i64 (nth (zs i) k)) noT (0, 4 * m i) := by
    unfold fE
    rw [if_neg (by omega), if_neg (by omega), if_neg (by omega), ei]
   refine ⟨_, 4 * m i, c, T, z, by rw [ef]; rfl, by simp, k1, fun j u hu => ?_⟩
   rw [Array.getElem?_map] at hu
   obtain ⟨y, hy, rfl⟩ := Option.map_eq_some_iff.1 hu
   obtain ⟨hlt, rfl⟩ := Array.getElem?_eq_some_iff.1 hy
   simp only [Array.size_range] at hlt
   simp only [Array.getElem_range]
   have hc := h.row i hi j hlt
   rw [cell_of k1] at hc
   refine ⟨_, ?_, .int _ _⟩
   show c[j + (if Tryz.prog.globals.size + 2 ≤ Tryz.prog.globals.size + 2 + i ∧ Tryz.prog.globals.size + 2 + i < Tryz.prog.globals.size + 2 + n then offs (Tryz.prog.globals.size + 2 + i - (Tryz.prog.globals.size + 2)) else 0)]? = _
   rw [if_pos (by omega), ei, Nat.add_comm]
   exact hc
 winG := fun a b ab hr => hr.1
 glob := fun a b ab hr => absurd (eR_ro ab) hr
 big := ⟨by rw [e_size]; show Tryz.prog.globals.size ≤ _; omega, h.glob⟩
 shz := by
  intro a hr
  show (if _ then _ else 0) = 0
  rw [if_neg (fun k => hr ⟨by omega, k.2⟩)]
 roLt := fun a hr => by rw [e_size]; exact hr.2
 noInfo := hno
theorem e_fnd (h : EpiAt v fb C n m cc bl offs zs) (t : Tp) (d : Nat) : FndAt ((eWorld v noT n m cc zs).tp t d) (Tryz.prog.globals.size + 1) n zs := fun i hi => by
 have hC : ((eWorld v noT n m cc zs).tp t d).cell? ⟨Tryz.prog.globals.size + 1, i, none⟩ = some (cellE n m cc i) := by
  have k := e_at (noT := noT) (n := n) (m := m) (cc := cc) (zs := zs) (v := v) (a := Tryz.prog.globals.size + 1) (by omega)
  have ef : fE noT n m cc zs (Tryz.prog.globals.size + 1) = .cells ((Array.range n).map (cellE n m cc)) noT (0, n) := by
   unfold fE
   rw [if_neg (by omega), if_neg (by omega), if_pos rfl]
  rw [ef] at k
  rw [cell_of (w := (eWorld v noT n m cc zs).tp t d) k, Array.getElem?_map, Array.getElem?_range, if_pos hi]
  rfl
 by_cases h0 : m i = 0
 ·refine ⟨none, 0, cc i, by rw [hC]; simp [cellE, h0], ⟨by rw [h.len i hi, h0], fun k => absurd k (by omega)⟩, by omega⟩
 ·refine ⟨some ⟨Tryz.prog.globals.size + 2 + i, 0, none⟩, m i, cc i, by rw [hC]; simp [cellE, h0], ⟨h.len i hi, fun _ => ⟨_, 0, rfl, by show _ < (eWorld v noT n m cc zs).heap.size; rw [e_size]; omega, fun k hk => ?_⟩⟩, h.few i hi⟩
  have k1 := e_at (noT := noT) (n := n) (m := m) (cc := cc) (zs := zs) (v := v) (a := Tryz.prog.globals.size + 2 + i) (by omega)
  have ei : Tryz.prog.globals.size + 2 + i - (Tryz.prog.globals.size + 2) = i := Nat.add_sub_cancel_left ..
  have ef : fE noT n m cc zs (Tryz.prog.globals.size + 2 + i) = .cells ((Array.range (4 * m i)).map fun k => Value.int .i64 (nth (zs i) k)) noT (0, 4 * m i) := by
   unfold fE
   rw [if_neg (by omega), if_neg (by omega), if_neg (by omega), ei]
  rw [ef] at k1
  rw [cell_of (w := (eWorld v noT n m cc zs).tp t d) k1, Array.getElem?_map, Array.getElem?_range, if_pos (by omega)]
  simp
end
end Rn
end Go.Proofs.YtbpnbhemdbgmjaaGreat
