/-
  Texts that the law stands on, part 16.
-/
import Derived.Test.YtjcgklifabcfkaaGreatN1
import Derived.Test.YtjcgklifabcfkaaGreatN14
import Derived.Test.YtjcgklifabcfkaaGreatN15
import Derived.Test.YtjcgklifabcfkaaGreatN10
import Derived.WalkKit
import Derived.Outline
import Derived.Deep.RegionHeld3
import Derived.Deep.QuietTactic
import Derived.BigQuiet
import Derived.BigRegion
import Derived.IntWalk
set_option maxRecDepth 100000
set_option linter.unusedVariables false
set_option linter.unusedSimpArgs false
section
namespace Go.Proofs.Tryzx
def lawL:List Nat := [3,5,6,7,8,9,10,11,14,15,18,20,22,23,24,25,26,27,28,29,30,31,32,33,34,37,38,39,41,43,45,47,48,49,50,51,52,53,54,55,56,57,63,64,65,66,67,68,69,72,73,75,76,77,78,79,80,81,82,83,88,89,90,91,92,93,94,95,96,97,99,101,102,103,104,111,112,113,114,115,116,117,118,119,120,121,122,123,124,146,147,148,149,150,151,152,153,154,155,156,167,168,169,170,172]
end Go.Proofs.Tryzx
end
namespace Go.Proofs.YtjcgklifabcfkaaGreat
namespace Rn
open Go.Conc
def lawF:Nat→Bool:=fun k=>Tryzx.lawL.contains k
def lawD:Nat→Bool:=fun i=>i != specAt 87 && i != chanAt
theorem law_all : Tryzx.lawL.all (fun f => (f != 87) && match Tryz.prog.funcs[f]? with | some fn => (fn.name != "runtime.NumGoroutine") && (match fn.body with | some c => okC Tryz.prog.toTables lawF lawD c | none => false) | none => false) = true := by decide +kernel
theorem law_one {f : Nat} (h : lawF f = true) : f ≠ 87 ∧ ∃ fn c, Tryz.prog.funcs[f]? = some fn ∧ (fn.name == "runtime.NumGoroutine") = false ∧ fn.body = some c ∧ okC Tryz.prog.toTables lawF lawD c = true := by
 have hm : f ∈ Tryzx.lawL := by simpa [lawF] using h
 have := List.all_eq_true.1 law_all f hm;rw [Bool.and_eq_true] at this;obtain ⟨hne, this⟩ := this;refine ⟨by simpa using hne, ?_⟩;cases hf : Tryz.prog.funcs[f]? with
 | none => rw [hf] at this; cases this
 | some fn =>
  rw [hf] at this;dsimp only at this;cases hb : fn.body with
  | none => rw [hb] at this; simp at this
  | some c =>
   rw [hb] at this;simp only [Bool.and_eq_true] at this;exact ⟨fn, c, rfl, by simpa using this.1, hb, this.2⟩
theorem xset:Tryzx.prog.funcs=Tryz.prog.funcs.setIfInBounds 87 Tryzx.f87:=by kernel_rfl
theorem xfuncs (f:Nat) (hf:f ≠ 87):Tryzx.prog.funcs[f]?=Tryz.prog.funcs[f]?:=by
 rw [xset,Array.getElem?_setIfInBounds_ne (Ne.symm hf)]
theorem lawD_spec {f:Nat} (h:lawD (specAt f)=false):f=87:=by
 simp only [lawD,specAt,chanAt,Bool.and_eq_false_iff,bne_eq_false_iff_eq] at h;omega
theorem small_res {fn:Func} (h:(fn.results.toList.all fun x=>match x with | .tmp t=>decide (t<1000000) | .cell a _=>decide (a<1000000))=true):resD fn lawD=true:=by
 unfold resD;rw [List.all_eq_true] at h ⊢;intro x hx;have:=h x hx;have key:∀ t,t<1000000→lawD t=true:=fun t ht=>by simp only [lawD,specAt,chanAt,Bool.and_eq_true,bne_iff_ne,ne_eq]; omega
 cases x with
 | tmp t=>exact key t (by simpa using this)
 | cell a _=>exact key a (by simpa using this)
theorem law_res:(Tryzx.prog.funcs.toList.all fun fn=>fn.results.toList.all fun x=>match x with | .tmp t=>decide (t<1000000) | .cell a _=>decide (a<1000000))=true:=by decide +kernel
theorem law_resD {f:Nat} {fn:Func} (h:Tryzx.prog.funcs[f]?=some fn):resD fn lawD=true:=by
 refine small_res (List.all_eq_true.1 law_res fn ?_);obtain ⟨hi,rfl⟩:=Array.getElem?_eq_some_iff.1 h;simp
structure Win where
 live:Bool
 blk:Nat
 off:Nat
 cells:Array Value
noncomputable def gctx (noT:TypeId) (ws:List Win):Ctx where
 tb:=Tryz.prog.toTables
 fx:=Tryzx.prog.funcs
 fs:=Tryz.prog.funcs
 F:=lawF
 RO:=fun a=>Tryz.prog.globals.size≤a∧a<Tryz.prog.globals.size+ws.length
 sh:=fun a=>if Tryz.prog.globals.size≤a∧a<Tryz.prog.globals.size+ws.length then ((ws[a - Tryz.prog.globals.size]?).map (·.off)).getD 0 else 0
 noT:=noT
 D:=fun _=>lawD
noncomputable def sctx (noT:TypeId) (ws:List Win):Ctx where
 tb:=Tryz.prog.toTables
 fx:=Tryzx.prog.funcs
 fs:=Tryzx.prog.funcs
 F:=lawF
 RO:=fun a=>Tryz.prog.globals.size≤a∧a<Tryz.prog.globals.size+ws.length
 sh:=fun _=>0
 noT:=noT
 D:=fun _=>lawD
section
variable {noT : TypeId} {ws : List Win}
theorem gok:CtxOk (gctx noT ws):=by
 refine ⟨fun f h => ?_,fun f h => ?_,fun f fn h=>law_resD h,fun k f h => ?_,fun k f h => ?_⟩
 ·obtain ⟨hne,fn,c,h1,h2,h3,_⟩:=law_one h
  exact ⟨fn,(xfuncs f hne).trans h1,h2,by rw [h3]; rfl⟩
 ·obtain ⟨hne,fn,c,h1,h2,h3,_⟩:=law_one h
  exact ⟨fn,h1,h2,by rw [h3]; rfl⟩
 ·obtain rfl:=lawD_spec h
  exact ⟨_,Tryzx.func87,by decide,rfl⟩
 ·obtain rfl:=lawD_spec h
  exact ⟨_,Tryz.func87,by decide +kernel,by rw [pbody_body]; rfl⟩
theorem gfine {f:Nat} (h:lawF f=true):Fine (gctx noT ws) f:=by
 obtain ⟨hne,fn,c,h1,h2,h3,h4⟩:=law_one h;exact ⟨(xfuncs f hne).symm,fn,c,(xfuncs f hne).trans h1,h3,h4⟩
theorem sok : CtxOk (sctx noT ws) := by
 have one : ∀ f, lawF f = true → ∃ fn, Tryzx.prog.funcs[f]? = some fn ∧ (fn.name == "runtime.NumGoroutine") = false ∧ fn.body.isNone = false := fun f h => by
  obtain ⟨hne, fn, c, h1, h2, h3, _⟩ := law_one h;exact ⟨fn, (xfuncs f hne).trans h1, h2, by rw [h3]; rfl⟩
 have two : ∀ k f, (sctx noT ws).D k (specAt f) = false → ∃ fn, Tryzx.prog.funcs[f]? = some fn ∧ (fn.name == "runtime.NumGoroutine") = false ∧ fn.body.isNone = false := fun k f h => by
  obtain rfl := lawD_spec h;exact ⟨_, Tryzx.func87, by decide, rfl⟩
 exact ⟨one, one, fun f fn h => law_resD h, two, two⟩
theorem bodyX_ok:okC Tryz.prog.toTables lawF lawD Tryzx.bodyX=true:=by decide +kernel
theorem sfine:∀ f n,Entered (sctx noT ws) f n→Fine (sctx noT ws) f:=by
 rintro f n (h | ⟨⟨k,h⟩,_⟩)
 ·obtain ⟨hne,fn,c,h1,h2,h3,h4⟩:=law_one h
  exact ⟨rfl,fn,c,(xfuncs f hne).trans h1,h3,h4⟩
 ·obtain rfl:=lawD_spec h
  exact ⟨rfl,_,_,Tryzx.func87,rfl,bodyX_ok⟩
theorem cfine:Fine (sctx noT ws) 87:=⟨rfl,_,_,Tryzx.func87,rfl,bodyX_ok⟩
def dg (r:Ren):Ren:=fun a a'=>a=a'∧∃ b,r a b
variable {r : Ren} {w v : World}
theorem ar_self {a b:Addr} (h:AR (gctx noT ws) r a b):AR (sctx noT ws) (dg r) a a:=⟨⟨rfl,_,h.1⟩,rfl,rfl⟩
theorem vr_self {x y:Value} (h:VR (gctx noT ws) r x y):VR (sctx noT ws) (dg r) x x:=by
 induction h with
 | bool b=>exact .bool b
 | int k n=>exact .int k n
 | ptr0=>exact .ptr0
 | ptr a=>exact .ptr (ar_self a)
 | sl0 n c=>exact .sl0 n c
 | slE a b=>exact .slE a a
 | sl n c a=>exact .sl n c (ar_self a)
 | ch0=>exact .ch0
 | ch a n=>exact .ch ⟨rfl,_,a⟩ n
 | map0=>exact .map0
 | map a=>exact .map ⟨rfl,_,a⟩
 | @func f xs ys xs' ys' hf e _ e' _ ih ih' =>
  refine .func hf rfl (fun i x y hx hy => ?_) rfl (fun i x y hx hy => ?_)
  ·rw [hx] at hy; cases hy
   have hi:=(Array.getElem?_eq_some_iff.1 hx).1;exact ih i x _ hx (Array.getElem?_eq_getElem (e ▸ hi))
  ·rw [hx] at hy; cases hy
   have hi:=(Array.getElem?_eq_some_iff.1 hx).1;exact ih' i x _ hx (Array.getElem?_eq_getElem (e' ▸ hi))
 | nilFunc=>exact .nilFunc
 | @agg xs ys e _ ih =>
  refine .agg rfl fun i x y hx hy => ?_
  rw [hx] at hy; cases hy;have hi:=(Array.getElem?_eq_some_iff.1 hx).1;exact ih i x _ hx (Array.getElem?_eq_getElem (e ▸ hi))
 | @tuple xs ys e _ ih =>
  refine .tuple rfl fun i x y hx hy => ?_
  rw [hx] at hy; cases hy;have hi:=(Array.getElem?_eq_some_iff.1 hx).1;exact ih i x _ hx (Array.getElem?_eq_getElem (e ▸ hi))
theorem vall_self {xs ys:Array Value} (h:VAll (gctx noT ws) r xs ys):VAll (sctx noT ws) (dg r) xs xs:=by
 refine ⟨rfl,fun i x y hx hy => ?_⟩;rw [hx] at hy; cases hy;obtain ⟨y,_,hy⟩:=h.get? hx;exact vr_self hy
theorem or_self {x y:Option Obj} (h:OR (gctx noT ws) r x y):OR (sctx noT ws) (dg r) x x:=by
 cases h with
 | cells va=>exact .cells (vall_self va)
 | @map es es' k m =>
  refine .map ⟨rfl,fun i e e' he he' => ?_⟩;rw [he] at he'; cases he';have hi:=(Array.getElem?_eq_some_iff.1 he).1;have:=m.get i e _ he (Array.getElem?_eq_getElem (m.size ▸ hi));exact ⟨vr_self this.key,vr_self this.val,rfl⟩
 | number l a=>exact .number l (ar_self a)
 | chan cap cl s q tm hc va=>exact .chan cap cl s q tm hc (vall_self va)
theorem wr_self (h:WR (gctx noT ws) r w v):WR (sctx noT ws) (dg r) w w where
 lt:=by rintro a _ ⟨rfl,b,hb⟩; exact ⟨(h.lt _ _ hb).1,(h.lt _ _ hb).1⟩
 fn:=by rintro a b b' ⟨rfl,_⟩ ⟨rfl,_⟩; rfl
 inj:=by rintro a a' b ⟨rfl,_⟩ ⟨rfl,_⟩; exact .inl rfl
 obj:=by rintro a _ ⟨rfl,b,hb⟩ hr; exact or_self (h.obj _ _ hb hr)
 win:=by
  rintro a _ ⟨rfl,b,hb⟩ hr;obtain ⟨c,hi,c',t',z',h1,h2,h3,h4⟩:=h.win _ _ hb hr;refine ⟨c,hi,c,_,_,h1,h2,h1,fun i u hu=>⟨u,by simpa [sctx] using hu,?_⟩⟩;obtain ⟨u',_,hv⟩:=h4 i u hu;exact vr_self hv
 winG:=by rintro a _ ⟨rfl,b,hb⟩ hr; exact h.winG _ _ hb hr
 glob:=by rintro a _ ⟨rfl,b,hb⟩ _ _; rfl
 big:=⟨h.big.1,h.big.1⟩
 shz:=fun a _=>rfl
 roLt:=h.roLt
 noInfo:=h.noInfo
end
end Rn
namespace X
open Go.RowKit
theorem l01In_any (x a b:Int) (w:World):Calls Tryzx.prog 52 #[.int .i64 x,.int .i64 a,.int .i64 b] w fun e w'=>e = .returned (.bool (inB x a b))∧w=w':=by
 by_cases c1:a≤x
 ·by_cases c2:x≤b
  ·have H:=Lib.hid (inB_t ⟨c1,c2⟩)
   go_enter Tryzx.func52,Tryz.ntmps52;go_wp2;go_ret;exact ⟨ret_bool H.out.symm,rfl⟩
  ·have H:=Lib.hid (inB_f (x:=x) (a:=a) (b:=b) (by omega))
   go_enter Tryzx.func52,Tryz.ntmps52;go_wp2;go_ret;exact ⟨ret_bool H.out.symm,rfl⟩
 ·have H:=Lib.hid (inB_f (x:=x) (a:=a) (b:=b) (by omega))
  go_enter Tryzx.func52,Tryz.ntmps52;go_wp2;go_ret;exact ⟨ret_bool H.out.symm,rfl⟩
theorem within_any (x a b:Int) (w:World):Calls Tryzx.prog 43 #[.int .i64 x,.int .i64 a,.int .i64 b] w fun e w'=>e = .returned (.bool (inB x a b))∧w=w':=by
 by_cases c1:a≤x
 ·by_cases c2:x≤b
  ·have H:=Lib.hid (inB_t ⟨c1,c2⟩)
   go_enter Tryzx.func43,Tryz.ntmps43;go_wp2;go_ret;exact ⟨ret_bool H.out.symm,rfl⟩
  ·have H:=Lib.hid (inB_f (x:=x) (a:=a) (b:=b) (by omega))
   go_enter Tryzx.func43,Tryz.ntmps43;go_wp2;go_ret;exact ⟨ret_bool H.out.symm,rfl⟩
 ·have H:=Lib.hid (inB_f (x:=x) (a:=a) (b:=b) (by omega))
  go_enter Tryzx.func43,Tryz.ntmps43;go_wp2;go_ret;exact ⟨ret_bool H.out.symm,rfl⟩
end X
namespace X
open Go.RowKit
theorem isPlace_any (x:Int) (w:World):Calls Tryzx.prog 73 #[.int .i64 x] w fun e w'=>e = .returned (.bool (inB x (-60) 60))∧w=w':=by
 go_enter Tryzx.func73,Tryz.ntmps73;go_wp2_with (go_at_call 43; refine (within_any _ _ _ _).mono ?_; rintro e w' ⟨rfl,rfl⟩);go_ret;exact ⟨rfl,rfl⟩
theorem ok_any (x y:Int) (w:World):Calls Tryzx.prog 155 #[.agg #[.int .i64 x,.int .i64 y]] w fun e w'=>e = .returned (.bool (ptB x y))∧Below w.heap.size w w':=by
 cases h1:inB x (-60) 60
 ·have HF:=Lib.hid (show ptB x y=false by simp [ptB,h1])
  go_enter Tryzx.func155,Tryz.ntmps155;go_wp2_with (go_at_call 73; refine (isPlace_any _ _).mono ?_; rintro e w' ⟨rfl,rfl⟩);go_ret;exact ⟨ret_bool HF.out.symm,(Below.refl _ _).alloc (Nat.le_refl _) _⟩
 ·have HF:=Lib.hid (show ptB x y=inB y (-60) 60 by simp [ptB,h1])
  go_enter Tryzx.func155,Tryz.ntmps155;go_wp2_with (go_at_call 73; refine (isPlace_any _ _).mono ?_; rintro e w' ⟨rfl,rfl⟩);go_ret;exact ⟨ret_bool HF.out.symm,(Below.refl _ _).alloc (Nat.le_refl _) _⟩
theorem pointOk_any (x y:Int) (w:World):Calls Tryzx.prog 149 #[.agg #[.int .i64 x,.int .i64 y]] w fun e w'=>e = .returned (.bool (ptB x y))∧Below w.heap.size w w':=by
 cases h1:inB x (-60) 60
 ·have HF:=Lib.hid (show ptB x y=false by simp [ptB,h1])
  go_enter Tryzx.func149,Tryz.ntmps149;go_wp2_with (go_at_call 52; refine (l01In_any _ _ _ _).mono ?_; rintro e w' ⟨rfl,rfl⟩);go_ret;exact ⟨ret_bool HF.out.symm,(Below.refl _ _).alloc (Nat.le_refl _) _⟩
 ·have HF:=Lib.hid (show ptB x y=inB y (-60) 60 by simp [ptB,h1])
  go_enter Tryzx.func149,Tryz.ntmps149;go_wp2_with (go_at_call 52; refine (l01In_any _ _ _ _).mono ?_; rintro e w' ⟨rfl,rfl⟩);go_ret;exact ⟨ret_bool HF.out.symm,(Below.refl _ _).alloc (Nat.le_refl _) _⟩
set_option maxHeartbeats 800000 in
theorem side_any (ax ay bx b_y cx cy:Int) (w:World) (ha:ptB ax ay=true) (hb:ptB bx b_y=true) (hc:ptB cx cy=true) :
  Calls Tryzx.prog 156 #[.agg #[.int .i64 cx,.int .i64 cy],.agg #[.int .i64 ax,.int .i64 ay],.agg #[.int .i64 bx,.int .i64 b_y]] w fun e w'=>e = .returned (.int .i64 (sideI ax ay bx b_y cx cy))∧Below w.heap.size w w':=by
 have hbd:=sideI_bd ha hb hc;have HS:Hid (sideI ax ay bx b_y cx cy=(bx - ax)*(cy - ay) - (b_y - ay)*(cx - ax)):=rfl;rw [HS.out] at hbd;rw [ptB_iff] at ha hb hc;have h1:=mul120 (a:=bx - ax) (b:=cy - ay) (by omega) (by omega);have h2:=mul120 (a:=b_y - ay) (b:=cx - ax) (by omega) (by omega);go_enter Tryzx.func156,Tryz.ntmps156;go_wp2;go_ret;exact ⟨rfl,(((Below.refl _ _).alloc (Nat.le_refl _) _).alloc (by simp) _).alloc (by simp; omega) _⟩
theorem l02Side_any (ax ay bx b_y cx cy:Int) (w:World) (ha:ptB ax ay=true) (hb:ptB bx b_y=true) (hc:ptB cx cy=true) :
  Calls Tryzx.prog 150 #[.agg #[.int .i64 ax,.int .i64 ay],.agg #[.int .i64 bx,.int .i64 b_y],.agg #[.int .i64 cx,.int .i64 cy]] w fun e w'=>e = .returned (.int .i64 (sideI ax ay bx b_y cx cy))∧Below w.heap.size w w':=by
 have hbd:=sideI_bd ha hb hc;have HS:Hid (sideI ax ay bx b_y cx cy=(bx - ax)*(cy - ay) - (b_y - ay)*(cx - ax)):=rfl;rw [HS.out] at hbd;rw [ptB_iff] at ha hb hc;have h1:=mul120 (a:=bx - ax) (b:=cy - ay) (by omega) (by omega);have h2:=mul120 (a:=b_y - ay) (b:=cx - ax) (by omega) (by omega);go_enter Tryzx.func150,Tryz.ntmps150;go_wp2;go_ret;exact ⟨rfl,(((Below.refl _ _).alloc (Nat.le_refl _) _).alloc (by simp) _).alloc (by simp; omega) _⟩
end X
namespace X
open Go.RowKit
section
variable {P : Program} {ops : Array Oper} {Q : Exit → Act → World → Prop} {md : Region.Mode}
theorem take_held {i d:Nat} {oi:Oper} {v:Value} {fuel:Nat} {listed:Array Bool} {a:Act} {w:World} (hi:ops[i]?=some oi) (hd:oi.dst=some d)
  (h:wpAnyH P md ops Q (fun _=>True) fuel (listed.setIfInBounds i true) (a.put (some d) v) w)
  (hs:Region.noSelect ops=true:=by kernel_rfl) (hf:Region.free md ops listed i=true:=by kernel_rfl) (hr:(Region.ready md ops listed).contains i=true:=by kernel_rfl) (hQ:∀ c a w,Q (.panic c) (a.put (some d) v) w→Q (.panic c) a w:=by exact fun _ _ _ h=>h)
  (hw:Region.wanted oi (yielded ops a.tmps)=true:=by kernel_rfl) (hy:∀ w,True→(execOp a.eval oi).run P w = .ok (.value v) w:=by intro w _; go_simp; try rfl):wpAnyH P md ops Q (fun _=>True) (fuel+1) listed a w :=
 wpAnyH_take (v:=v) hi hs hf hr (by rw [hd]; exact hQ) (Or.inl ⟨hw,hy⟩) trivial (by rw [hd]; exact h)
theorem skip_held {i d:Nat} {oi:Oper} {fuel:Nat} {listed:Array Bool} {a:Act} {w:World} (hi:ops[i]?=some oi) (hd:oi.dst=some d)
  (h:wpAnyH P md ops Q (fun _=>True) fuel (listed.setIfInBounds i true) (a.put (some d) undef) w)
  (hs:Region.noSelect ops=true:=by kernel_rfl) (hf:Region.free md ops listed i=true:=by kernel_rfl) (hr:(Region.ready md ops listed).contains i=true:=by kernel_rfl) (hQ:∀ c a w,Q (.panic c) (a.put (some d) undef) w→Q (.panic c) a w:=by exact fun _ _ _ h=>h)
  (hw:Region.wanted oi (yielded ops a.tmps)=false:=by kernel_rfl):wpAnyH P md ops Q (fun _=>True) (fuel+1) listed a w :=
 wpAnyH_take (v:=undef) hi hs hf hr (by rw [hd]; exact hQ) (Or.inr ⟨hw,rfl⟩) trivial (by rw [hd]; exact h)
end
theorem cell_new0 (w:World) (u:Value) (t:TypeId):(w.alloc (.cells #[u] t)).cell? ⟨w.heap.size,0,none⟩=some u:=World.rowIs.cell (World.rowIs_alloc w #[u] t (fun _=>u) (fun i hi=>by simp at hi; subst hi; rfl)) (by simp)
theorem rem_nat (a n:Nat):Int.tmod (a:Int) (n:Int)=((a % n:Nat):Int):=by rw [Int.tmod_eq_emod_of_nonneg (by omega)]; rfl
theorem ptCells {wr:World} {b off n j:Nat} {zs:List Int} (hc:∀ i,i<n*2→wr.cell? ⟨b,off+i,none⟩=some (.int .i64 (nth zs i))) (hj:j<n) :
  wr.cell? ⟨b,off+j*2,none⟩=some (.int .i64 (nth zs (j*2)))∧wr.cell? ⟨b,off+j*2+1,none⟩=some (.int .i64 (nth zs (j*2+1))) :=
 ⟨hc (j*2) (by omega),by have:=hc (j*2+1) (by omega); rwa [← Nat.add_assoc] at this⟩
set_option maxHeartbeats 1000000 in
theorem sStoneOk_any (A:Option Addr) (n c:Nat) (zs:List Int) (w:World) (h:RecsAt w w.heap.size 2 A n zs) :
  Calls Tryzx.prog 114 #[.agg #[.slice A n c]] w fun e w'=>e = .returned (.bool (stoneB zs n))∧Below w.heap.size w w':=by
 have HA:=Lib.hid ((Below.refl w.heap.size w).alloc (Nat.le_refl _) (.cells #[.slice A n c] 127));cases hB:inB (n:Int) 3 6
 ·have HF:=Lib.hid (stoneB_f1 (zs:=zs) hB)
  go_enter Tryzx.func114,Tryz.ntmps114;go_wp2_with (go_at_call 52; refine (l01In_any _ _ _ _).mono ?_; rintro e w' ⟨rfl,rfl⟩);go_ret;exact ⟨ret_bool HF.out.symm,HA.out⟩
 ·have hn:=inB_iff.1 hB
  have hn3:3≤n:=by omega
  have hn6:n≤6:=by omega
  clear hn;obtain ⟨b,off,rfl,hbB,hc⟩:=h.2 (by omega);have HC:=Lib.hid hc;clear h hc;go_enter Tryzx.func114,Tryz.ntmps114;go_wp2_with (go_at_call 52; refine (l01In_any _ _ _ _).mono ?_; rintro e w' ⟨rfl,rfl⟩);go_loopw [4] (fun i wr=>∃ k:Nat,k≤n∧i = .int .i64 k∧ptsTo zs k∧wr.cell? ⟨w.heap.size,0,none⟩=some (.slice (some ⟨b,off,none⟩) n c)∧Below w.heap.size w wr) (fun i _=>n - (intOf i).toNat)
  case atStart=>exact ⟨0,Nat.zero_le _,rfl,ptsTo_0 _,cell_new0 _ _ _,HA.out⟩
  case round =>
   clear HA;obtain ⟨k,hk,rfl,hag,hbox,hb⟩:=hrel;have HB:=Lib.hid hb;have hgl:=World.block_lt_of_cell? wr _ hbox;simp only at hgl;by_cases hlt:k<n
   ·obtain ⟨x0,x1⟩:=ptCells (fun i hi=>(hb.cell (by exact hbB)).trans (HC.out i hi)) hlt
    clear hb;have HBOX:=Lib.hid hbox;cases hp:ptA zs k
    ·have HF:=Lib.hid (stoneB_f2 hlt hp)
     have hp':ptB (nth zs (k*2)) (nth zs (k*2+1))=false:=hp;go_wp2_with fail
     refine (pointOk_any _ _ _).mono ?_;rw [hp'];rintro e w1 ⟨rfl,hb1⟩;have HB1:=Lib.hid (HB.out.trans (hb1.mono HB.out.size));go_wp2;go_ret;exact ⟨ret_bool HF.out.symm,HB1.out⟩
    ·have HS:=Lib.hid (ptsTo_step hag hp)
     have hp':ptB (nth zs (k*2)) (nth zs (k*2+1))=true:=hp;go_wp2_with fail
     refine (pointOk_any _ _ _).mono ?_;rw [hp'];rintro e w1 ⟨rfl,hb1⟩;have HB1:=Lib.hid (HB.out.trans (hb1.mono HB.out.size));have HBX:=Lib.hid ((hb1.cell (p:=⟨w.heap.size,0,none⟩) hgl).trans HBOX.out);clear hb1;go_wp2;go_roundw
     case rel=>exact ⟨k+1,by omega,by go_num,HS.out,HBX.out,HB1.out⟩
     case measure=>first | (simp [intOf]; done) | (simp [intOf]; omega)
   ·obtain rfl:k=n:=by omega
    have HPT:=Lib.hid hag;clear hb hag;go_wp2;go_loopw [5] (fun i wr=>∃ j:Nat,j≤k∧i = .int .i64 j∧turnTo zs k j∧wr.cell? ⟨w.heap.size,0,none⟩=some (.slice (some ⟨b,off,none⟩) k c)∧Below w.heap.size w wr) (fun i _=>k - (intOf i).toNat)
    case atStart=>exact ⟨0,Nat.zero_le _,rfl,turnTo_0 _ _,hbox,HB.out⟩
    case round =>
     clear HB hgl hbox hlt hk;obtain ⟨j,hj,rfl,hag,hbox,hb⟩:=hrel;have HB:=Lib.hid hb;have hgl:=World.block_lt_of_cell? _ _ hbox;simp only at hgl;by_cases hlt:j<k
     ·have hm1:(j+1) % k<k:=Nat.mod_lt _ (by omega)
      have hm2:(j+2) % k<k:=Nat.mod_lt _ (by omega);obtain ⟨x0,x1⟩:=ptCells (fun i hi=>(hb.cell (by exact hbB)).trans (HC.out i hi)) hlt;obtain ⟨y0,y1⟩:=ptCells (fun i hi=>(hb.cell (by exact hbB)).trans (HC.out i hi)) hm1;obtain ⟨z0,z1⟩:=ptCells (fun i hi=>(hb.cell (by exact hbB)).trans (HC.out i hi)) hm2;obtain ⟨o0,o1⟩:=ptCells (fun i hi=>(hb.cell (by exact hbB)).trans (HC.out i hi)) (show 0<k by omega);clear hb;have r1:Int.tmod ((j:Int)+1) (k:Int)=(((j+1) % k:Nat):Int):=rem_nat (j+1) k;have r2:Int.tmod ((j:Int)+2) (k:Int)=(((j+2) % k:Nat):Int):=rem_nat (j+2) k;have hpk:=HPT.out j hlt;have hp1:=HPT.out _ hm1;have hp2:=HPT.out _ hm2;have hp0:=HPT.out 0 (by omega);have HTA:=Lib.hid (turnB_f1 (zs:=zs) (n:=k) (k:=j));have HTB:=Lib.hid (turnB_f2 (zs:=zs) (n:=k) (k:=j));have HTC:=Lib.hid (turnB_t1 (zs:=zs) (n:=k) (k:=j));have HTD:=Lib.hid (turnB_t2 (zs:=zs) (n:=k) (k:=j));generalize (j+1) % k=j1 at *
      generalize (j+2) % k=j2 at *
      have hsd:sd zs j j1 j2=sideI (nth zs (j*2)) (nth zs (j*2+1)) (nth zs (j1*2)) (nth zs (j1*2+1)) (nth zs (j2*2)) (nth zs (j2*2+1)):=rfl;have hbd:=sideI_bd hpk hp1 hp2;unfold ptA at hpk hp1 hp2 hp0;have i1:IntKind.i64.wrap ((j:Int)+1)=(j:Int)+1:=IntWalk.i64_in _ (by omega);have i2:IntKind.i64.wrap ((j:Int)+2)=(j:Int)+2:=IntWalk.i64_in _ (by omega);have i3:IntKind.i64.wrap (j1:Int)=(j1:Int):=IntWalk.i64_in _ (by omega);have i4:IntKind.i64.wrap (j2:Int)=(j2:Int):=IntWalk.i64_in _ (by omega);have i5:(j:Int)<(k:Int):=by omega
      have i6:(j1:Int)<(k:Int):=by omega
      have i7:(j2:Int)<(k:Int):=by omega
      have i8:¬ k=0:=by omega
      have i9:¬ (k:Int)=0:=by omega
      have i10:((k:Int) == 0)=false:=by simp; omega
      by_cases hneg:sd zs j j1 j2≤0
      ·have HF:=Lib.hid (stoneB_f3 hlt (HTA.out hneg))
       rw [hsd] at hneg;clear hsd;go_wp2;go_region_held3 (fun w'=>w'.cell? ⟨w.heap.size,0,none⟩=some (.slice (some ⟨b,off,none⟩) k c)∧(w'.cell? ⟨b,off+j*2,none⟩=some (.int .i64 (nth zs (j*2)))∧w'.cell? ⟨b,off+j*2+1,none⟩=some (.int .i64 (nth zs (j*2+1))))∧(w'.cell? ⟨b,off+j1*2,none⟩=some (.int .i64 (nth zs (j1*2)))∧w'.cell? ⟨b,off+j1*2+1,none⟩=some (.int .i64 (nth zs (j1*2+1))))∧(w'.cell? ⟨b,off+j2*2,none⟩=some (.int .i64 (nth zs (j2*2)))∧w'.cell? ⟨b,off+j2*2+1,none⟩=some (.int .i64 (nth zs (j2*2+1))))) (first | (simp [*]; done) | (refine ⟨?_,⟨?_,?_⟩,⟨?_,?_⟩,⟨?_,?_⟩⟩ <;> (rw [hcc _ _ (by simp <;> omega)]; simp [*]))) ((go_at_call 150; refine (l02Side_any _ _ _ _ _ _ _ hpk hp1 hp2).mono ?_; rintro e w1 ⟨rfl,hb1⟩; obtain ⟨hcc,hff⟩:=bcell hb1));have HB1:=Lib.hid (HB.out.drew.trans (hb1.mono (by have:=HB.out.size; simp; omega)))
       have HBX:Hid (w1.cell? ⟨w.heap.size,0,none⟩=some (.slice (some ⟨b,off,none⟩) k c)):=(hb1.cell (p:=⟨w.heap.size,0,none⟩) (by simp; omega)).trans hbox
       have hgl1:w.heap.size<w1.heap.size:=by have:=hb1.size; simp at this; omega
       clear hcc hff hb1;go_wp2;go_ret;exact ⟨ret_bool HF.out.symm,HB1.out⟩
      ·have hpos:0<sd zs j j1 j2:=by omega
       by_cases hlast:j+1<k
       ·obtain ⟨v0,v1⟩:=ptCells (fun i hi=>(HB.out.cell (by exact hbB)).trans (HC.out i hi)) hlast
        have hpn:=HPT.out _ hlast;unfold ptA at hpn;simp only [Nat.zero_mul,Nat.add_zero,Nat.zero_add] at o0 o1 hp0;have hsd2:sd zs 0 j (j+1)=sideI (nth zs 0) (nth zs 1) (nth zs (j*2)) (nth zs (j*2+1)) (nth zs ((j+1)*2)) (nth zs ((j+1)*2+1)):=rfl;have i11:(j:Int)+1<(k:Int):=by omega
        have i12:(0:Int)<(k:Int):=by omega
        have i13:((j:Int)+1).toNat=j+1:=by omega
        have i14:(0:Int)≤(j:Int)+1:=by omega
        have i15:0<k:=by omega
        by_cases hneg2:sd zs 0 j (j+1)<0
        ·have HF:=Lib.hid (stoneB_f3 hlt (HTB.out hlast hneg2))
         rw [hsd] at hneg hpos;rw [hsd2] at hneg2;clear hsd hsd2;go_wp2;go_region_held3 (fun w'=>w'.cell? ⟨w.heap.size,0,none⟩=some (.slice (some ⟨b,off,none⟩) k c)∧(w'.cell? ⟨b,off+j*2,none⟩=some (.int .i64 (nth zs (j*2)))∧w'.cell? ⟨b,off+j*2+1,none⟩=some (.int .i64 (nth zs (j*2+1))))∧(w'.cell? ⟨b,off+j1*2,none⟩=some (.int .i64 (nth zs (j1*2)))∧w'.cell? ⟨b,off+j1*2+1,none⟩=some (.int .i64 (nth zs (j1*2+1))))∧(w'.cell? ⟨b,off+j2*2,none⟩=some (.int .i64 (nth zs (j2*2)))∧w'.cell? ⟨b,off+j2*2+1,none⟩=some (.int .i64 (nth zs (j2*2+1))))) (first | (simp [*]; done) | (refine ⟨?_,⟨?_,?_⟩,⟨?_,?_⟩,⟨?_,?_⟩⟩ <;> (rw [hcc _ _ (by simp <;> omega)]; simp [*]))) ((go_at_call 150; refine (l02Side_any _ _ _ _ _ _ _ hpk hp1 hp2).mono ?_; rintro e w1 ⟨rfl,hb1⟩; obtain ⟨hcc,hff⟩:=bcell hb1));have HB1:=Lib.hid (HB.out.drew.trans (hb1.mono (by have:=HB.out.size; simp; omega)))
         have HBX:Hid (w1.cell? ⟨w.heap.size,0,none⟩=some (.slice (some ⟨b,off,none⟩) k c)):=(hb1.cell (p:=⟨w.heap.size,0,none⟩) (by simp; omega)).trans hbox
         have hgl1:w.heap.size<w1.heap.size:=by have:=hb1.size; simp at this; omega
         replace o0:=(hb1.cell (p:=⟨b,off,none⟩) (by simp; omega)).trans o0
         replace o1:=(hb1.cell (p:=⟨b,off+1,none⟩) (by simp; omega)).trans o1
         replace x0:=(hb1.cell (p:=⟨b,off+j*2,none⟩) (by simp; omega)).trans x0
         replace x1:=(hb1.cell (p:=⟨b,off+j*2+1,none⟩) (by simp; omega)).trans x1
         replace v0:=(hb1.cell (p:=⟨b,off+(j+1)*2,none⟩) (by simp; omega)).trans v0
         replace v1:=(hb1.cell (p:=⟨b,off+(j+1)*2+1,none⟩) (by simp; omega)).trans v1
         replace hbox:=HBX.out
         clear hcc hff hb1 y0 y1 z0 z1;go_wp2;go_region_held3 (fun w'=>w'.cell? ⟨w.heap.size,0,none⟩=some (.slice (some ⟨b,off,none⟩) k c)∧(w'.cell? ⟨b,off,none⟩=some (.int .i64 (nth zs 0))∧w'.cell? ⟨b,off+1,none⟩=some (.int .i64 (nth zs 1)))∧(w'.cell? ⟨b,off+j*2,none⟩=some (.int .i64 (nth zs (j*2)))∧w'.cell? ⟨b,off+j*2+1,none⟩=some (.int .i64 (nth zs (j*2+1))))∧(w'.cell? ⟨b,off+(j+1)*2,none⟩=some (.int .i64 (nth zs ((j+1)*2)))∧w'.cell? ⟨b,off+(j+1)*2+1,none⟩=some (.int .i64 (nth zs ((j+1)*2+1))))) (first | (simp [*]; done) | (refine ⟨?_,⟨?_,?_⟩,⟨?_,?_⟩,⟨?_,?_⟩⟩ <;> (rw [hcc _ _ (by simp <;> omega)]; simp [*]))) ((go_at_call 150; refine (l02Side_any _ _ _ _ _ _ _ hp0 hpk hpn).mono ?_; rintro e w2 ⟨rfl,hb2⟩; obtain ⟨hcc,hff⟩:=bcell hb2));have HB2:=Lib.hid (HB1.out.drew.trans (hb2.mono (by have:=HB1.out.size; simp; omega)))
         have HBX2:Hid (w2.cell? ⟨w.heap.size,0,none⟩=some (.slice (some ⟨b,off,none⟩) k c)):=(hb2.cell (p:=⟨w.heap.size,0,none⟩) (by simp; omega)).trans HBX.out
         clear hcc hff hb2;go_wp2;go_ret;exact ⟨ret_bool HF.out.symm,HB2.out⟩
        ·have HS:=Lib.hid (turnTo_step hag (HTD.out hpos hlast (by omega)))
         rw [hsd] at hneg hpos;rw [hsd2] at hneg2;clear hsd hsd2;go_wp2;go_region_held3 (fun w'=>w'.cell? ⟨w.heap.size,0,none⟩=some (.slice (some ⟨b,off,none⟩) k c)∧(w'.cell? ⟨b,off+j*2,none⟩=some (.int .i64 (nth zs (j*2)))∧w'.cell? ⟨b,off+j*2+1,none⟩=some (.int .i64 (nth zs (j*2+1))))∧(w'.cell? ⟨b,off+j1*2,none⟩=some (.int .i64 (nth zs (j1*2)))∧w'.cell? ⟨b,off+j1*2+1,none⟩=some (.int .i64 (nth zs (j1*2+1))))∧(w'.cell? ⟨b,off+j2*2,none⟩=some (.int .i64 (nth zs (j2*2)))∧w'.cell? ⟨b,off+j2*2+1,none⟩=some (.int .i64 (nth zs (j2*2+1))))) (first | (simp [*]; done) | (refine ⟨?_,⟨?_,?_⟩,⟨?_,?_⟩,⟨?_,?_⟩⟩ <;> (rw [hcc _ _ (by simp <;> omega)]; simp [*]))) ((go_at_call 150; refine (l02Side_any _ _ _ _ _ _ _ hpk hp1 hp2).mono ?_; rintro e w1 ⟨rfl,hb1⟩; obtain ⟨hcc,hff⟩:=bcell hb1));have HB1:=Lib.hid (HB.out.drew.trans (hb1.mono (by have:=HB.out.size; simp; omega)))
         have HBX:Hid (w1.cell? ⟨w.heap.size,0,none⟩=some (.slice (some ⟨b,off,none⟩) k c)):=(hb1.cell (p:=⟨w.heap.size,0,none⟩) (by simp; omega)).trans hbox
         have hgl1:w.heap.size<w1.heap.size:=by have:=hb1.size; simp at this; omega
         replace o0:=(hb1.cell (p:=⟨b,off,none⟩) (by simp; omega)).trans o0
         replace o1:=(hb1.cell (p:=⟨b,off+1,none⟩) (by simp; omega)).trans o1
         replace x0:=(hb1.cell (p:=⟨b,off+j*2,none⟩) (by simp; omega)).trans x0
         replace x1:=(hb1.cell (p:=⟨b,off+j*2+1,none⟩) (by simp; omega)).trans x1
         replace v0:=(hb1.cell (p:=⟨b,off+(j+1)*2,none⟩) (by simp; omega)).trans v0
         replace v1:=(hb1.cell (p:=⟨b,off+(j+1)*2+1,none⟩) (by simp; omega)).trans v1
         replace hbox:=HBX.out
         clear hcc hff hb1 y0 y1 z0 z1;go_wp2;go_region_held3 (fun w'=>w'.cell? ⟨w.heap.size,0,none⟩=some (.slice (some ⟨b,off,none⟩) k c)∧(w'.cell? ⟨b,off,none⟩=some (.int .i64 (nth zs 0))∧w'.cell? ⟨b,off+1,none⟩=some (.int .i64 (nth zs 1)))∧(w'.cell? ⟨b,off+j*2,none⟩=some (.int .i64 (nth zs (j*2)))∧w'.cell? ⟨b,off+j*2+1,none⟩=some (.int .i64 (nth zs (j*2+1))))∧(w'.cell? ⟨b,off+(j+1)*2,none⟩=some (.int .i64 (nth zs ((j+1)*2)))∧w'.cell? ⟨b,off+(j+1)*2+1,none⟩=some (.int .i64 (nth zs ((j+1)*2+1))))) (first | (simp [*]; done) | (refine ⟨?_,⟨?_,?_⟩,⟨?_,?_⟩,⟨?_,?_⟩⟩ <;> (rw [hcc _ _ (by simp <;> omega)]; simp [*]))) ((go_at_call 150; refine (l02Side_any _ _ _ _ _ _ _ hp0 hpk hpn).mono ?_; rintro e w2 ⟨rfl,hb2⟩; obtain ⟨hcc,hff⟩:=bcell hb2));have HB2:=Lib.hid (HB1.out.drew.trans (hb2.mono (by have:=HB1.out.size; simp; omega)))
         have HBX2:Hid (w2.cell? ⟨w.heap.size,0,none⟩=some (.slice (some ⟨b,off,none⟩) k c)):=(hb2.cell (p:=⟨w.heap.size,0,none⟩) (by simp; omega)).trans HBX.out
         clear hcc hff hb2;clear i13 r1 r2 i1 i2 i3 i4;go_wp2;go_roundw
         case rel=>exact ⟨j+1,by omega,by go_num,HS.out,HBX2.out,HB2.out⟩
         case measure=>first | (simp [intOf]; done) | (simp [intOf]; omega)
       ·have HS:=Lib.hid (turnTo_step hag (HTC.out hpos hlast))
        have i11:¬ (j:Int)+1<(k:Int):=by omega
        rw [hsd] at hneg hpos;clear hsd;go_wp2;go_region_held3 (fun w'=>w'.cell? ⟨w.heap.size,0,none⟩=some (.slice (some ⟨b,off,none⟩) k c)∧(w'.cell? ⟨b,off+j*2,none⟩=some (.int .i64 (nth zs (j*2)))∧w'.cell? ⟨b,off+j*2+1,none⟩=some (.int .i64 (nth zs (j*2+1))))∧(w'.cell? ⟨b,off+j1*2,none⟩=some (.int .i64 (nth zs (j1*2)))∧w'.cell? ⟨b,off+j1*2+1,none⟩=some (.int .i64 (nth zs (j1*2+1))))∧(w'.cell? ⟨b,off+j2*2,none⟩=some (.int .i64 (nth zs (j2*2)))∧w'.cell? ⟨b,off+j2*2+1,none⟩=some (.int .i64 (nth zs (j2*2+1))))) (first | (simp [*]; done) | (refine ⟨?_,⟨?_,?_⟩,⟨?_,?_⟩,⟨?_,?_⟩⟩ <;> (rw [hcc _ _ (by simp <;> omega)]; simp [*]))) ((go_at_call 150; refine (l02Side_any _ _ _ _ _ _ _ hpk hp1 hp2).mono ?_; rintro e w1 ⟨rfl,hb1⟩; obtain ⟨hcc,hff⟩:=bcell hb1));have HB1:=Lib.hid (HB.out.drew.trans (hb1.mono (by have:=HB.out.size; simp; omega)))
        have HBX:Hid (w1.cell? ⟨w.heap.size,0,none⟩=some (.slice (some ⟨b,off,none⟩) k c)):=(hb1.cell (p:=⟨w.heap.size,0,none⟩) (by simp; omega)).trans hbox
        have hgl1:w.heap.size<w1.heap.size:=by have:=hb1.size; simp at this; omega
        clear hcc hff hb1 x0 x1 y0 y1 z0 z1 hbox;go_wp2;refine wp_region_held_drew (S:=fun _=>True) (by kernel_rfl) trivial (fun _ => ?_);refine take_held (i:=0) (d:=52) rfl rfl ?_;try simp only [Act.put,ly3]
        refine take_held (i:=1) (d:=53) rfl rfl ?_;try simp only [Act.put,ly3]
        refine take_held (i:=2) (d:=54) rfl rfl ?_;try simp only [Act.put,ly3]
        refine take_held (i:=3) (d:=55) (v := .bool false) rfl rfl ?_;try simp only [Act.put,ly3]
        refine take_held (i:=4) (d:=56) (v := .bool false) rfl rfl ?_;try simp only [Act.put,ly3]
        refine skip_held (i:=5) (d:=57) rfl rfl ?_;try simp only [Act.put,ly3]
        refine skip_held (i:=6) (d:=58) rfl rfl ?_;try simp only [Act.put,ly3]
        refine skip_held (i:=7) (d:=59) rfl rfl ?_;try simp only [Act.put,ly3]
        refine skip_held (i:=8) (d:=60) rfl rfl ?_;try simp only [Act.put,ly3]
        refine skip_held (i:=9) (d:=61) rfl rfl ?_;try simp only [Act.put,ly3]
        refine skip_held (i:=10) (d:=62) rfl rfl ?_;try simp only [Act.put,ly3]
        refine skip_held (i:=11) (d:=63) rfl rfl ?_;try simp only [Act.put,ly3]
        refine skip_held (i:=12) (d:=64) rfl rfl ?_;try simp only [Act.put,ly3]
        refine skip_held (i:=13) (d:=65) rfl rfl ?_;try simp only [Act.put,ly3]
        refine skip_held (i:=14) (d:=66) rfl rfl ?_;try simp only [Act.put,ly3]
        refine skip_held (i:=15) (d:=67) rfl rfl ?_;try simp only [Act.put,ly3]
        refine skip_held (i:=16) (d:=68) rfl rfl ?_;try simp only [Act.put,ly3]
        refine skip_held (i:=17) (d:=69) rfl rfl ?_;try simp only [Act.put,ly3]
        refine skip_held (i:=18) (d:=70) rfl rfl ?_;try simp only [Act.put,ly3]
        refine skip_held (i:=19) (d:=71) rfl rfl ?_;try simp only [Act.put,ly3]
        refine skip_held (i:=20) (d:=72) rfl rfl ?_;try simp only [Act.put,ly3]
        refine skip_held (i:=21) (d:=73) rfl rfl ?_;try simp only [Act.put,ly3]
        refine take_held (i:=22) (d:=74) rfl rfl ?_;try simp only [Act.put,ly3]
        refine wpAnyH_done (by kernel_rfl) ?_ _;clear r1 r2 i1 i2 i3 i4;go_wp2;go_roundw
        case rel=>exact ⟨j+1,by omega,by go_num,HS.out,HBX.out,HB1.out.drew⟩
        case measure=>first | (simp [intOf]; done) | (simp [intOf]; omega)
     ·obtain rfl:j=k:=by omega
      have HF:=Lib.hid (stoneB_t hB HPT.out hag);clear hb;go_wp2;go_ret;exact ⟨ret_bool HF.out.symm,HB.out⟩
end X
namespace X
open Go.RowKit
theorem stoneOk1_any (x y:Int) (w:World):Calls Tryzx.prog 154 #[.agg #[.int .i64 x,.int .i64 y]] w fun e w'=>e = .returned (.bool (!ptB x y))∧Below w.heap.size w w':=by
 go_enter Tryzx.func154,Tryz.ntmps154;go_wp2_with fail
 refine (ok_any _ _ _).mono ?_;rintro e w1 ⟨rfl,hb1⟩;go_wp2;go_ret;exact ⟨rfl,((Below.refl _ w).alloc (Nat.le_refl _) _).trans (hb1.mono (by simp))⟩
set_option maxHeartbeats 800000 in
theorem indexPts_any (A:Option Addr) (n c:Nat) (zs:List Int) (w:World) (h:RecsAt w w.heap.size 2 A n zs) (hn:n≤1048576) :
  Calls Tryzx.prog 170 #[.slice A n c,.func (.func 154) #[] #[]] w fun e w'=>∃ r:Int,e = .returned (.int .i64 r)∧(ptsTo zs n∧r = -1 ∨ ∃ k:Nat,k<n∧ptA zs k=false∧r=k)∧Below w.heap.size w w':=by
 have H:=Lib.hid h;clear h;go_enter Tryzx.func170,Tryz.ntmps170;go_wp2;go_loopw [8] (fun i wr=>∃ k:Nat,k≤n∧i = .int .i64 k∧ptsTo zs k∧Below w.heap.size w wr) (fun i _=>n - (intOf i).toNat)
 case atStart=>exact ⟨0,Nat.zero_le _,rfl,ptsTo_0 _,Below.refl _ _⟩
 case round =>
  obtain ⟨k,hk,rfl,hag,hb⟩:=hrel;have HB:=Lib.hid hb;by_cases hlt:k<n
  ·obtain ⟨b,off,rfl,hbB,hc⟩:=H.out.2 (by omega)
   obtain ⟨x0,x1⟩:=ptCells (fun i hi=>(hb.cell (by exact hbB)).trans (hc i hi)) hlt;clear hb hc;cases hp:ptA zs k
   ·have hp':ptB (nth zs (k*2)) (nth zs (k*2+1))=false:=hp
    have HP:=Lib.hid hp;clear hp;go_wp2_with fail
    refine (stoneOk1_any _ _ _).mono ?_;rw [hp'];rintro e w1 ⟨rfl,hb1⟩;have HB1:=Lib.hid (HB.out.trans (hb1.mono HB.out.size));go_wp2;go_ret;exact ⟨k,rfl,.inr ⟨k,hlt,HP.out,rfl⟩,HB1.out⟩
   ·have hp':ptB (nth zs (k*2)) (nth zs (k*2+1))=true:=hp
    have HS:=Lib.hid (ptsTo_step hag hp);clear hp;go_wp2_with fail
    refine (stoneOk1_any _ _ _).mono ?_;rw [hp'];rintro e w1 ⟨rfl,hb1⟩;have HB1:=Lib.hid (HB.out.trans (hb1.mono HB.out.size));clear hb1;go_wp2;go_roundw
    case rel=>exact ⟨k+1,by omega,by go_num,HS.out,HB1.out⟩
    case measure=>first | (simp [intOf]; done) | (simp [intOf]; omega)
  ·obtain rfl:k=n:=by omega
   have HS:=Lib.hid hag;clear hb hag;go_wp2;go_ret;exact ⟨-1,rfl,.inl ⟨HS.out,rfl⟩,HB.out⟩
def badB (zs:List Int) (n:Nat):Bool := !(List.range n).all (ptA zs)
theorem badB_f {zs:List Int} {n:Nat} (h:ptsTo zs n):badB zs n=false:=by
 have e2:(List.range n).all (ptA zs)=true:=by
  rw [List.all_eq_true];exact fun i hi=>h i (by simpa using hi)
 simp [badB,e2]
theorem badB_t {zs:List Int} {n k:Nat} (hk:k<n) (h:ptA zs k=false):badB zs n=true:=by
 have:(List.range n).all (ptA zs)=false:=by
  rw [List.all_eq_false];exact ⟨k,by simpa using hk,by simp [h]⟩
 simp [badB,this]
theorem badB_out {zs:List Int} {n:Nat} (h:badB zs n=false):ptsTo zs n:=by
 simp only [badB,Bool.not_eq_false',List.all_eq_true] at h;exact fun i hi=>h i (by simpa using hi)
theorem badB_stone {zs:List Int} {n:Nat} (h:badB zs n=true):stoneB zs n=false:=by
 simp only [badB,Bool.not_eq_true'] at h;simp [stoneB,h]
theorem containsPts_any (A:Option Addr) (n c:Nat) (zs:List Int) (w:World) (h:RecsAt w w.heap.size 2 A n zs) (hn:n≤1048576) :
  Calls Tryzx.prog 153 #[.slice A n c,.func (.func 154) #[] #[]] w fun e w'=>e = .returned (.bool (badB zs n))∧Below w.heap.size w w':=by
 go_enter Tryzx.func153,Tryz.ntmps153;go_wp2_with fail
 refine (indexPts_any _ _ _ zs _ h hn).mono ?_;rintro e w1 ⟨r,rfl,hr,hb1⟩;rcases hr with ⟨hp,rfl⟩ | ⟨k,hk,hp,rfl⟩
 ·have HF:=Lib.hid (badB_f hp)
  clear hp;go_wp2;go_ret;exact ⟨ret_bool HF.out.symm,hb1⟩
 ·have HF:=Lib.hid (badB_t hk hp)
  clear hp;have i1:(0:Int)≤(k:Int):=by omega
  go_wp2;go_ret;exact ⟨ret_bool HF.out.symm,hb1⟩
set_option maxHeartbeats 1000000 in
theorem iStoneOk_any (A:Option Addr) (n c:Nat) (zs:List Int) (w:World) (h:RecsAt w w.heap.size 2 A n zs) :
  Calls Tryzx.prog 120 #[.agg #[.slice A n c]] w fun e w'=>e = .returned (.bool (stoneB zs n))∧Below w.heap.size w w':=by
 cases hB:inB (n:Int) 3 6
 ·have HF:=Lib.hid (stoneB_f1 (zs:=zs) hB)
  go_enter Tryzx.func120,Tryz.ntmps120;go_wp2;go_region
  go_wp2_with (go_at_call 43; refine (within_any _ _ _ _).mono ?_; rintro e w' ⟨rfl,rfl⟩);go_ret;exact ⟨ret_bool HF.out.symm,((Below.refl _ w).alloc (Nat.le_refl _) _).drew⟩
 ·have hn:=inB_iff.1 hB
  have hn3:3≤n:=by omega
  have hn6:n≤6:=by omega
  clear hn;have HA:=Lib.hid ((Below.refl w.heap.size w).alloc (Nat.le_refl _) (.cells #[.slice A n c] 127)).drew;have H0:RecsAt (w.alloc (.cells #[.slice A n c] 127)).drew (w.alloc (.cells #[.slice A n c] 127)).drew.heap.size 2 A n zs:=(h.alloc (Nat.le_refl _) _).mono (by simp);cases hbad:badB zs n
  ·have HPT:=Lib.hid (badB_out hbad)
   obtain ⟨b,off,rfl,hbB,hc⟩:=h.2 (by omega);have HC:=Lib.hid hc;clear hc h;go_enter Tryzx.func120,Tryz.ntmps120;go_wp2;go_region
   go_wp2_with (go_at_call 43; refine (within_any _ _ _ _).mono ?_; rintro e w' ⟨rfl,rfl⟩);refine (containsPts_any _ _ _ zs _ H0 (by omega)).mono ?_;rw [hbad];rintro e w1 ⟨rfl,hb1⟩;have HB1:=Lib.hid (HA.out.trans (hb1.mono (by simp)));clear hb1 H0;go_wp2;go_loopw [19] (fun i wr=>∃ j:Nat,j≤n∧i = .int .i64 j∧turnTo zs n j∧Below w.heap.size w wr) (fun i _=>n - (intOf i).toNat)
   case atStart=>exact ⟨0,Nat.zero_le _,rfl,turnTo_0 _ _,HB1.out⟩
   case round =>
    clear HB1 HA;obtain ⟨j,hj,rfl,hag,hb⟩:=hrel;have HB:=Lib.hid hb;have hz0:=hb.size;by_cases hlt:j<n
    ·have hm1:(j+1) % n<n:=Nat.mod_lt _ (by omega)
     have hm2:(j+2) % n<n:=Nat.mod_lt _ (by omega);obtain ⟨x0,x1⟩:=ptCells (fun i hi=>(hb.cell (by exact hbB)).trans (HC.out i hi)) hlt;obtain ⟨y0,y1⟩:=ptCells (fun i hi=>(hb.cell (by exact hbB)).trans (HC.out i hi)) hm1;obtain ⟨z0,z1⟩:=ptCells (fun i hi=>(hb.cell (by exact hbB)).trans (HC.out i hi)) hm2;obtain ⟨o0,o1⟩:=ptCells (fun i hi=>(hb.cell (by exact hbB)).trans (HC.out i hi)) (show 0<n by omega);clear hb;have r1:Int.tmod ((j:Int)+1) (n:Int)=(((j+1) % n:Nat):Int):=rem_nat (j+1) n;have r2:Int.tmod ((j:Int)+2) (n:Int)=(((j+2) % n:Nat):Int):=rem_nat (j+2) n;have hpk:=HPT.out j hlt;have hp1:=HPT.out _ hm1;have hp2:=HPT.out _ hm2;have hp0:=HPT.out 0 (by omega);have HTA:=Lib.hid (turnB_f1 (zs:=zs) (n:=n) (k:=j));have HTB:=Lib.hid (turnB_f2 (zs:=zs) (n:=n) (k:=j));have HTC:=Lib.hid (turnB_t1 (zs:=zs) (n:=n) (k:=j));have HTD:=Lib.hid (turnB_t2 (zs:=zs) (n:=n) (k:=j));generalize (j+1) % n=j1 at *
     generalize (j+2) % n=j2 at *
     have hsd:sd zs j j1 j2=sideI (nth zs (j*2)) (nth zs (j*2+1)) (nth zs (j1*2)) (nth zs (j1*2+1)) (nth zs (j2*2)) (nth zs (j2*2+1)):=rfl;have hbd:=sideI_bd hpk hp1 hp2;unfold ptA at hpk hp1 hp2 hp0;have i1:IntKind.i64.wrap ((j:Int)+1)=(j:Int)+1:=IntWalk.i64_in _ (by omega);have i2:IntKind.i64.wrap ((j:Int)+2)=(j:Int)+2:=IntWalk.i64_in _ (by omega);have i3:IntKind.i64.wrap (j1:Int)=(j1:Int):=IntWalk.i64_in _ (by omega);have i4:IntKind.i64.wrap (j2:Int)=(j2:Int):=IntWalk.i64_in _ (by omega);have i5:(j:Int)<(n:Int):=by omega
     have i6:(j1:Int)<(n:Int):=by omega
     have i7:(j2:Int)<(n:Int):=by omega
     have i8:¬ n=0:=by omega
     have i9:¬ (n:Int)=0:=by omega
     have i10:((n:Int) == 0)=false:=by simp; omega
     by_cases hneg:sd zs j j1 j2≤0
     ·have HF:=Lib.hid (stoneB_f3 hlt (HTA.out hneg))
      rw [hsd] at hneg;clear hsd;go_wp2;go_region_held3 (fun w'=>(w'.cell? ⟨b,off+j*2,none⟩=some (.int .i64 (nth zs (j*2)))∧w'.cell? ⟨b,off+j*2+1,none⟩=some (.int .i64 (nth zs (j*2+1))))∧(w'.cell? ⟨b,off+j1*2,none⟩=some (.int .i64 (nth zs (j1*2)))∧w'.cell? ⟨b,off+j1*2+1,none⟩=some (.int .i64 (nth zs (j1*2+1))))∧(w'.cell? ⟨b,off+j2*2,none⟩=some (.int .i64 (nth zs (j2*2)))∧w'.cell? ⟨b,off+j2*2+1,none⟩=some (.int .i64 (nth zs (j2*2+1))))) (first | (simp [*]; done) | (refine ⟨⟨?_,?_⟩,⟨?_,?_⟩,⟨?_,?_⟩⟩ <;> (rw [hcc _ _ (by simp <;> omega)]; simp [*]))) ((go_at_call 156; refine (side_any _ _ _ _ _ _ _ hpk hp1 hp2).mono ?_; rintro e w1 ⟨rfl,hb1⟩; obtain ⟨hcc,hff⟩:=bcell hb1));have HB1:=Lib.hid (HB.out.drew.trans (hb1.mono (by have:=HB.out.size; simp; omega)))
      clear hcc hff hb1;go_wp2;go_ret;exact ⟨ret_bool HF.out.symm,HB1.out⟩
     ·have hpos:0<sd zs j j1 j2:=by omega
      by_cases hj0:j=0
      ·have HS:=Lib.hid (turnTo_step hag (HTD.out hpos (by omega) (by subst hj0; rw [sd_self]; exact Int.le_refl 0)))
       have i11:¬ (0:Int)<(j:Int):=by omega
       have i12:¬ 0<j:=by omega
       rw [hsd] at hneg hpos;clear hsd hj0;go_wp2;go_region_held3 (fun w'=>(w'.cell? ⟨b,off+j*2,none⟩=some (.int .i64 (nth zs (j*2)))∧w'.cell? ⟨b,off+j*2+1,none⟩=some (.int .i64 (nth zs (j*2+1))))∧(w'.cell? ⟨b,off+j1*2,none⟩=some (.int .i64 (nth zs (j1*2)))∧w'.cell? ⟨b,off+j1*2+1,none⟩=some (.int .i64 (nth zs (j1*2+1))))∧(w'.cell? ⟨b,off+j2*2,none⟩=some (.int .i64 (nth zs (j2*2)))∧w'.cell? ⟨b,off+j2*2+1,none⟩=some (.int .i64 (nth zs (j2*2+1))))) (first | (simp [*]; done) | (refine ⟨⟨?_,?_⟩,⟨?_,?_⟩,⟨?_,?_⟩⟩ <;> (rw [hcc _ _ (by simp <;> omega)]; simp [*]))) ((go_at_call 156; refine (side_any _ _ _ _ _ _ _ hpk hp1 hp2).mono ?_; rintro e w1 ⟨rfl,hb1⟩; obtain ⟨hcc,hff⟩:=bcell hb1));have HB1:=Lib.hid (HB.out.drew.trans (hb1.mono (by have:=HB.out.size; simp; omega)))
       clear hcc hff hb1 x0 x1 y0 y1 z0 z1 o0 o1;go_wp2;refine wp_region_held_drew (S:=fun _=>True) (by kernel_rfl) trivial (fun _ => ?_);refine take_held (i:=0) (d:=42) rfl rfl ?_;try simp only [Act.put,ly3]
       refine take_held (i:=1) (d:=43) (v := .bool false) rfl rfl ?_;try simp only [Act.put,ly3]
       refine take_held (i:=2) (d:=44) (v := .bool false) rfl rfl ?_;try simp only [Act.put,ly3]
       refine skip_held (i:=3) (d:=45) rfl rfl ?_;try simp only [Act.put,ly3]
       refine skip_held (i:=4) (d:=46) rfl rfl ?_;try simp only [Act.put,ly3]
       refine skip_held (i:=5) (d:=47) rfl rfl ?_;try simp only [Act.put,ly3]
       refine skip_held (i:=6) (d:=48) rfl rfl ?_;try simp only [Act.put,ly3]
       refine take_held (i:=7) (d:=49) (v := .bool false) rfl rfl ?_;try simp only [Act.put,ly3]
       refine take_held (i:=8) (d:=50) (v := .bool false) rfl rfl ?_;try simp only [Act.put,ly3]
       refine skip_held (i:=9) (d:=51) rfl rfl ?_;try simp only [Act.put,ly3]
       refine skip_held (i:=10) (d:=52) rfl rfl ?_;try simp only [Act.put,ly3]
       refine skip_held (i:=11) (d:=53) rfl rfl ?_;try simp only [Act.put,ly3]
       refine skip_held (i:=12) (d:=54) rfl rfl ?_;try simp only [Act.put,ly3]
       refine skip_held (i:=13) (d:=55) rfl rfl ?_;try simp only [Act.put,ly3]
       refine skip_held (i:=14) (d:=56) rfl rfl ?_;try simp only [Act.put,ly3]
       refine skip_held (i:=15) (d:=57) rfl rfl ?_;try simp only [Act.put,ly3]
       refine skip_held (i:=16) (d:=58) rfl rfl ?_;try simp only [Act.put,ly3]
       refine skip_held (i:=17) (d:=59) rfl rfl ?_;try simp only [Act.put,ly3]
       refine skip_held (i:=18) (d:=60) rfl rfl ?_;try simp only [Act.put,ly3]
       refine skip_held (i:=19) (d:=61) rfl rfl ?_;try simp only [Act.put,ly3]
       refine skip_held (i:=20) (d:=62) rfl rfl ?_;try simp only [Act.put,ly3]
       refine skip_held (i:=21) (d:=63) rfl rfl ?_;try simp only [Act.put,ly3]
       refine skip_held (i:=22) (d:=64) rfl rfl ?_;try simp only [Act.put,ly3]
       refine take_held (i:=23) (d:=65) (v := .bool false) rfl rfl ?_;try simp only [Act.put,ly3]
       refine wpAnyH_done (by kernel_rfl) ?_ _;clear r1 r2 i1 i2 i3 i4;go_wp2;go_roundw
       case rel=>exact ⟨j+1,by omega,by go_num,HS.out,HB1.out.drew⟩
       case measure=>first | (simp [intOf]; done) | (simp [intOf]; omega)
      ·have i11:(0:Int)<(j:Int):=by omega
       have i12:0<j:=by omega
       clear hj0;by_cases hlast:j+1<n
       ·obtain ⟨v0,v1⟩:=ptCells (fun i hi=>(HB.out.cell (by exact hbB)).trans (HC.out i hi)) hlast
        have hpn:=HPT.out _ hlast;unfold ptA at hpn;simp only [Nat.zero_mul,Nat.add_zero,Nat.zero_add] at o0 o1 hp0;have hsd2:sd zs 0 j (j+1)=sideI (nth zs 0) (nth zs 1) (nth zs (j*2)) (nth zs (j*2+1)) (nth zs ((j+1)*2)) (nth zs ((j+1)*2+1)):=rfl;have i13:(j:Int)+1<(n:Int):=by omega
        have i14:(0:Int)<(n:Int):=by omega
        have i15:((j:Int)+1).toNat=j+1:=by omega
        have i16:(0:Int)≤(j:Int)+1:=by omega
        have i17:0<n:=by omega
        by_cases hneg2:sd zs 0 j (j+1)<0
        ·have HF:=Lib.hid (stoneB_f3 hlt (HTB.out hlast hneg2))
         rw [hsd] at hneg hpos;rw [hsd2] at hneg2;clear hsd hsd2;go_wp2;go_region_held3 (fun w'=>(w'.cell? ⟨b,off+j*2,none⟩=some (.int .i64 (nth zs (j*2)))∧w'.cell? ⟨b,off+j*2+1,none⟩=some (.int .i64 (nth zs (j*2+1))))∧(w'.cell? ⟨b,off+j1*2,none⟩=some (.int .i64 (nth zs (j1*2)))∧w'.cell? ⟨b,off+j1*2+1,none⟩=some (.int .i64 (nth zs (j1*2+1))))∧(w'.cell? ⟨b,off+j2*2,none⟩=some (.int .i64 (nth zs (j2*2)))∧w'.cell? ⟨b,off+j2*2+1,none⟩=some (.int .i64 (nth zs (j2*2+1))))) (first | (simp [*]; done) | (refine ⟨⟨?_,?_⟩,⟨?_,?_⟩,⟨?_,?_⟩⟩ <;> (rw [hcc _ _ (by simp <;> omega)]; simp [*]))) ((go_at_call 156; refine (side_any _ _ _ _ _ _ _ hpk hp1 hp2).mono ?_; rintro e w1 ⟨rfl,hb1⟩; obtain ⟨hcc,hff⟩:=bcell hb1));have HB1:=Lib.hid (HB.out.drew.trans (hb1.mono (by have:=HB.out.size; simp; omega)))
         have hz1:w.heap.size≤wr.heap.size:=HB.out.size;replace o0:=(hb1.cell (p:=⟨b,off,none⟩) (by simp; omega)).trans o0
         replace o1:=(hb1.cell (p:=⟨b,off+1,none⟩) (by simp; omega)).trans o1
         replace x0:=(hb1.cell (p:=⟨b,off+j*2,none⟩) (by simp; omega)).trans x0
         replace x1:=(hb1.cell (p:=⟨b,off+j*2+1,none⟩) (by simp; omega)).trans x1
         replace v0:=(hb1.cell (p:=⟨b,off+(j+1)*2,none⟩) (by simp; omega)).trans v0
         replace v1:=(hb1.cell (p:=⟨b,off+(j+1)*2+1,none⟩) (by simp; omega)).trans v1
         have hz2:w.heap.size≤w1.heap.size:=HB1.out.size;clear hcc hff hb1 y0 y1 z0 z1;go_wp2;go_region_held3 (fun w'=>(w'.cell? ⟨b,off,none⟩=some (.int .i64 (nth zs 0))∧w'.cell? ⟨b,off+1,none⟩=some (.int .i64 (nth zs 1)))∧(w'.cell? ⟨b,off+j*2,none⟩=some (.int .i64 (nth zs (j*2)))∧w'.cell? ⟨b,off+j*2+1,none⟩=some (.int .i64 (nth zs (j*2+1))))∧(w'.cell? ⟨b,off+(j+1)*2,none⟩=some (.int .i64 (nth zs ((j+1)*2)))∧w'.cell? ⟨b,off+(j+1)*2+1,none⟩=some (.int .i64 (nth zs ((j+1)*2+1))))) (first | (simp [*]; done) | (refine ⟨⟨?_,?_⟩,⟨?_,?_⟩,⟨?_,?_⟩⟩ <;> (rw [hcc _ _ (by simp <;> omega)]; simp [*]))) ((go_at_call 156; refine (side_any _ _ _ _ _ _ _ hp0 hpk hpn).mono ?_; rintro e w2 ⟨rfl,hb2⟩; obtain ⟨hcc,hff⟩:=bcell hb2));have HB2:=Lib.hid (HB1.out.drew.trans (hb2.mono (by have:=HB1.out.size; simp; omega)))
         clear hcc hff hb2;go_wp2;go_ret;exact ⟨ret_bool HF.out.symm,HB2.out⟩
        ·have HS:=Lib.hid (turnTo_step hag (HTD.out hpos hlast (by omega)))
         rw [hsd] at hneg hpos;rw [hsd2] at hneg2;clear hsd hsd2;go_wp2;go_region_held3 (fun w'=>(w'.cell? ⟨b,off+j*2,none⟩=some (.int .i64 (nth zs (j*2)))∧w'.cell? ⟨b,off+j*2+1,none⟩=some (.int .i64 (nth zs (j*2+1))))∧(w'.cell? ⟨b,off+j1*2,none⟩=some (.int .i64 (nth zs (j1*2)))∧w'.cell? ⟨b,off+j1*2+1,none⟩=some (.int .i64 (nth zs (j1*2+1))))∧(w'.cell? ⟨b,off+j2*2,none⟩=some (.int .i64 (nth zs (j2*2)))∧w'.cell? ⟨b,off+j2*2+1,none⟩=some (.int .i64 (nth zs (j2*2+1))))) (first | (simp [*]; done) | (refine ⟨⟨?_,?_⟩,⟨?_,?_⟩,⟨?_,?_⟩⟩ <;> (rw [hcc _ _ (by simp <;> omega)]; simp [*]))) ((go_at_call 156; refine (side_any _ _ _ _ _ _ _ hpk hp1 hp2).mono ?_; rintro e w1 ⟨rfl,hb1⟩; obtain ⟨hcc,hff⟩:=bcell hb1));have HB1:=Lib.hid (HB.out.drew.trans (hb1.mono (by have:=HB.out.size; simp; omega)))
         have hz1:w.heap.size≤wr.heap.size:=HB.out.size;replace o0:=(hb1.cell (p:=⟨b,off,none⟩) (by simp; omega)).trans o0
         replace o1:=(hb1.cell (p:=⟨b,off+1,none⟩) (by simp; omega)).trans o1
         replace x0:=(hb1.cell (p:=⟨b,off+j*2,none⟩) (by simp; omega)).trans x0
         replace x1:=(hb1.cell (p:=⟨b,off+j*2+1,none⟩) (by simp; omega)).trans x1
         replace v0:=(hb1.cell (p:=⟨b,off+(j+1)*2,none⟩) (by simp; omega)).trans v0
         replace v1:=(hb1.cell (p:=⟨b,off+(j+1)*2+1,none⟩) (by simp; omega)).trans v1
         have hz2:w.heap.size≤w1.heap.size:=HB1.out.size;clear hcc hff hb1 y0 y1 z0 z1;go_wp2;go_region_held3 (fun w'=>(w'.cell? ⟨b,off,none⟩=some (.int .i64 (nth zs 0))∧w'.cell? ⟨b,off+1,none⟩=some (.int .i64 (nth zs 1)))∧(w'.cell? ⟨b,off+j*2,none⟩=some (.int .i64 (nth zs (j*2)))∧w'.cell? ⟨b,off+j*2+1,none⟩=some (.int .i64 (nth zs (j*2+1))))∧(w'.cell? ⟨b,off+(j+1)*2,none⟩=some (.int .i64 (nth zs ((j+1)*2)))∧w'.cell? ⟨b,off+(j+1)*2+1,none⟩=some (.int .i64 (nth zs ((j+1)*2+1))))) (first | (simp [*]; done) | (refine ⟨⟨?_,?_⟩,⟨?_,?_⟩,⟨?_,?_⟩⟩ <;> (rw [hcc _ _ (by simp <;> omega)]; simp [*]))) ((go_at_call 156; refine (side_any _ _ _ _ _ _ _ hp0 hpk hpn).mono ?_; rintro e w2 ⟨rfl,hb2⟩; obtain ⟨hcc,hff⟩:=bcell hb2));have HB2:=Lib.hid (HB1.out.drew.trans (hb2.mono (by have:=HB1.out.size; simp; omega)))
         clear hcc hff hb2;clear i15 r1 r2 i1 i2 i3 i4;go_wp2;go_roundw
         case rel=>exact ⟨j+1,by omega,by go_num,HS.out,HB2.out⟩
         case measure=>first | (simp [intOf]; done) | (simp [intOf]; omega)
       ·have HS:=Lib.hid (turnTo_step hag (HTC.out hpos hlast))
        have i13:¬ (j:Int)+1<(n:Int):=by omega
        rw [hsd] at hneg hpos;clear hsd;go_wp2;go_region_held3 (fun w'=>(w'.cell? ⟨b,off+j*2,none⟩=some (.int .i64 (nth zs (j*2)))∧w'.cell? ⟨b,off+j*2+1,none⟩=some (.int .i64 (nth zs (j*2+1))))∧(w'.cell? ⟨b,off+j1*2,none⟩=some (.int .i64 (nth zs (j1*2)))∧w'.cell? ⟨b,off+j1*2+1,none⟩=some (.int .i64 (nth zs (j1*2+1))))∧(w'.cell? ⟨b,off+j2*2,none⟩=some (.int .i64 (nth zs (j2*2)))∧w'.cell? ⟨b,off+j2*2+1,none⟩=some (.int .i64 (nth zs (j2*2+1))))) (first | (simp [*]; done) | (refine ⟨⟨?_,?_⟩,⟨?_,?_⟩,⟨?_,?_⟩⟩ <;> (rw [hcc _ _ (by simp <;> omega)]; simp [*]))) ((go_at_call 156; refine (side_any _ _ _ _ _ _ _ hpk hp1 hp2).mono ?_; rintro e w1 ⟨rfl,hb1⟩; obtain ⟨hcc,hff⟩:=bcell hb1));have HB1:=Lib.hid (HB.out.drew.trans (hb1.mono (by have:=HB.out.size; simp; omega)))
        clear hcc hff hb1 x0 x1 y0 y1 z0 z1 o0 o1;go_wp2;refine wp_region_held_drew (S:=fun _=>True) (by kernel_rfl) trivial (fun _ => ?_);refine take_held (i:=0) (d:=42) rfl rfl ?_;try simp only [Act.put,ly3]
        refine take_held (i:=1) (d:=43) (v := .bool true) rfl rfl ?_;try simp only [Act.put,ly3]
        refine take_held (i:=2) (d:=44) (v := .bool true) rfl rfl ?_;try simp only [Act.put,ly3]
        refine take_held (i:=3) (d:=45) rfl rfl ?_;try simp only [Act.put,ly3]
        refine take_held (i:=4) (d:=46) rfl rfl ?_;try simp only [Act.put,ly3]
        refine take_held (i:=5) (d:=47) rfl rfl ?_;try simp only [Act.put,ly3]
        refine take_held (i:=6) (d:=48) (v := .bool false) rfl rfl ?_;try simp only [Act.put,ly3]
        refine take_held (i:=7) (d:=49) (v := .bool false) rfl rfl ?_;try simp only [Act.put,ly3]
        refine take_held (i:=8) (d:=50) (v := .bool false) rfl rfl ?_;try simp only [Act.put,ly3]
        refine skip_held (i:=9) (d:=51) rfl rfl ?_;try simp only [Act.put,ly3]
        refine skip_held (i:=10) (d:=52) rfl rfl ?_;try simp only [Act.put,ly3]
        refine skip_held (i:=11) (d:=53) rfl rfl ?_;try simp only [Act.put,ly3]
        refine skip_held (i:=12) (d:=54) rfl rfl ?_;try simp only [Act.put,ly3]
        refine skip_held (i:=13) (d:=55) rfl rfl ?_;try simp only [Act.put,ly3]
        refine skip_held (i:=14) (d:=56) rfl rfl ?_;try simp only [Act.put,ly3]
        refine skip_held (i:=15) (d:=57) rfl rfl ?_;try simp only [Act.put,ly3]
        refine skip_held (i:=16) (d:=58) rfl rfl ?_;try simp only [Act.put,ly3]
        refine skip_held (i:=17) (d:=59) rfl rfl ?_;try simp only [Act.put,ly3]
        refine skip_held (i:=18) (d:=60) rfl rfl ?_;try simp only [Act.put,ly3]
        refine skip_held (i:=19) (d:=61) rfl rfl ?_;try simp only [Act.put,ly3]
        refine skip_held (i:=20) (d:=62) rfl rfl ?_;try simp only [Act.put,ly3]
        refine skip_held (i:=21) (d:=63) rfl rfl ?_;try simp only [Act.put,ly3]
        refine skip_held (i:=22) (d:=64) rfl rfl ?_;try simp only [Act.put,ly3]
        refine take_held (i:=23) (d:=65) (v := .bool false) rfl rfl ?_;try simp only [Act.put,ly3]
        refine wpAnyH_done (by kernel_rfl) ?_ _;clear r1 r2 i1 i2 i3 i4;go_wp2;go_roundw
        case rel=>exact ⟨j+1,by omega,by go_num,HS.out,HB1.out.drew⟩
        case measure=>first | (simp [intOf]; done) | (simp [intOf]; omega)
    ·obtain rfl:j=n:=by omega
     have HF:=Lib.hid (stoneB_t hB HPT.out hag);clear hb;go_wp2;go_ret;exact ⟨ret_bool HF.out.symm,HB.out⟩
  ·have HF:=Lib.hid (badB_stone hbad)
   go_enter Tryzx.func120,Tryz.ntmps120;go_wp2;go_region
   go_wp2_with (go_at_call 43; refine (within_any _ _ _ _).mono ?_; rintro e w' ⟨rfl,rfl⟩);refine (containsPts_any _ _ _ zs _ H0 (by omega)).mono ?_;rw [hbad];rintro e w1 ⟨rfl,hb1⟩;go_wp2;go_ret;exact ⟨ret_bool HF.out.symm,HA.out.trans (hb1.mono (by simp))⟩
end X
end Go.Proofs.YtjcgklifabcfkaaGreat
