/-
  Texts that the law stands on, part 11.
-/
import Derived.Test.YtjcgklifabcfkaaGreatV1
import Derived.Test.YtjcgklifabcfkaaGreatV9
import Derived.Test.YtjcgklifabcfkaaGreatV10
import Derived.Deep.RegionHeld3
import Derived.KernelRfl
import Derived.Deep.RegionLaw
import Derived.WalkMore
import Derived.Deep.DeepCutAuto
import Derived.ScopeJumps
set_option maxRecDepth 100000
set_option linter.unusedVariables false
set_option linter.unusedSimpArgs false
namespace Go.Proofs.YtjcgklifabcfkaaGreat
namespace Rn
open Go.Conc Go.RowKit Go.Conc.Lib Go.ConcR.Gen Go.ConcN.Gen
open Go.ConcN (WgLive PayAt Has)
open Go.ConcR (KK WgAt Payload)
def proL:List Nat := [43,104,124]
def proF:Nat→Bool:=fun k=>proL.contains k
theorem pro_all : proL.all (fun f => match Tryz.prog.funcs[f]? with | some fn => (fn.name != "runtime.NumGoroutine") && (match fn.body with | some c => okC Tryz.prog.toTables proF (fun _ => true) c | none => false) | none => false) = true := by decide +kernel
theorem pro_one {f : Nat} (h : proF f = true) : ∃ fn c, Tryz.prog.funcs[f]? = some fn ∧ (fn.name == "runtime.NumGoroutine") = false ∧ fn.body = some c ∧ okC Tryz.prog.toTables proF (fun _ => true) c = true := by
 have hm : f ∈ proL := by simpa [proF] using h
 have := List.all_eq_true.1 pro_all f hm;cases hf : Tryz.prog.funcs[f]? with
 | none => rw [hf] at this; cases this
 | some fn =>
  rw [hf] at this;dsimp only at this;cases hb : fn.body with
  | none => rw [hb] at this; simp at this
  | some c =>
   rw [hb] at this;simp only [Bool.and_eq_true] at this;exact ⟨fn, c, rfl, by simpa using this.1, hb, this.2⟩
noncomputable def pctx (noT:TypeId) (off:Nat):Ctx where
 tb:=Tryz.prog.toTables
 fx:=Tryz.prog.funcs
 fs:=Tryz.prog.funcs
 F:=proF
 RO:=fun a=>a=Tryz.prog.globals.size
 sh:=fun a=>if a=Tryz.prog.globals.size then off else 0
 noT:=noT
 suf:=fun c k=>c = .block 0 (.loop cloop)∧k = [.code ctail]
theorem pro_fine (noT:TypeId) (off:Nat):∀ f,(pctx noT off).F f=true→Fine (pctx noT off) f:=fun f h=>by
 obtain ⟨fn,c,h1,_,h3,h4⟩:=pro_one h;exact ⟨rfl,fn,c,h1,h3,h4⟩
theorem pro_ok (noT : TypeId) (off : Nat) : CtxOk (pctx noT off) := by
 have k : ∀ f, proF f = true → ∃ fn, Tryz.prog.funcs[f]? = some fn ∧ (fn.name == "runtime.NumGoroutine") = false ∧ fn.body.isNone = false := fun f h => by
  obtain ⟨fn, c, h1, h2, h3, _⟩ := pro_one h;exact ⟨fn, h1, h2, by rw [h3]; rfl⟩
 exact ⟨k, k, fun f fn _ => resD_all fn, fun k f h => (by cases h), fun k f h => (by cases h)⟩
theorem pWR {noT:TypeId} {off blk:Nat} {v:World} {cells c':Array Value} {T:TypeId} {z:Nat × Nat} (hno:Tryz.prog.toTables.info? noT=none) (hG:Tryz.prog.globals.size≤v.heap.size) (hb:v.heap[blk]?=some (.cells c' T z))
  (hc:∀ (i:Nat) u,cells[i]?=some u→c'[i+off]?=some u∧∃ x,u = .int .i64 x):WR (pctx noT off) (winR Tryz.prog.globals.size blk) (winWorld v Tryz.prog.globals.size cells noT) v where
 lt:=by
  rintro a b ⟨rfl,rfl⟩;exact ⟨by simp [winWorld],(Array.getElem?_eq_some_iff.1 hb).1⟩
 fn:=by rintro a b b' ⟨_,rfl⟩ ⟨_,rfl⟩; rfl
 inj:=by rintro a a' b ⟨rfl,_⟩ ⟨rfl,_⟩; exact .inl rfl
 obj:=by rintro a b ⟨rfl,_⟩ h; exact absurd rfl h
 win:=by
  rintro a b ⟨rfl,rfl⟩ _;refine ⟨cells,cells.size,c',T,z,?_,Nat.le_refl _,hb,fun i u hu => ?_⟩
  ·exact win_at _ _ _ _
  ·obtain ⟨h1,x,rfl⟩:=hc i u hu
   exact ⟨_,by simpa [pctx] using h1,.int _ _⟩
 winG:=by rintro a b ⟨rfl,_⟩ _; exact Nat.le_refl _
 glob:=by rintro a b ⟨rfl,_⟩ h; exact absurd rfl h
 big:=⟨by show Tryz.prog.globals.size≤_; simp [winWorld],hG⟩;shz:=by intro a h; show (if a=Tryz.prog.globals.size then off else 0)=0; exact if_neg (fun e=>h e)
 roLt:=by intro a h; subst h; simp [winWorld]
 noInfo:=hno
theorem proIL (noT : TypeId) (off : Nat) {r0 pr r3 r4 r5 l tl : Code} (e : pbody = .seq r0 (.seq pr (.seq r3 (.seq r4 (.seq (.seq r5 l) tl))))) :
  IL (pctx noT off) (fun _ => true) [.code (.seq r0 (.seq pr (.seq r3 (.seq r4 (.seq (.seq r5 (.refuse "")) .skip)))))] [.code pbody] := by
 have e0 := e;simp only [pbody, Tryz.f87, Option.getD, Code.seq.injEq] at e0;obtain ⟨e1, e2, e3, e4, ⟨e5, e6⟩, e7⟩ := e0;have h1 : okI (pctx noT off).tb (pctx noT off).F (fun _ => true) (.code r0) = true := by rw [← e1]; show okC Tryz.prog.toTables proF (fun _ => true) _ = true; decide +kernel
 have h2 : okI (pctx noT off).tb (pctx noT off).F (fun _ => true) (.code pr) = true := by rw [← e2]; show okC Tryz.prog.toTables proF (fun _ => true) _ = true; decide +kernel
 have h3 : okI (pctx noT off).tb (pctx noT off).F (fun _ => true) (.code r3) = true := by rw [← e3]; show okC Tryz.prog.toTables proF (fun _ => true) _ = true; decide +kernel
 have h4 : okI (pctx noT off).tb (pctx noT off).F (fun _ => true) (.code r4) = true := by rw [← e4]; show okC Tryz.prog.toTables proF (fun _ => true) _ = true; decide +kernel
 have h5 : okI (pctx noT off).tb (pctx noT off).F (fun _ => true) (.code r5) = true := by rw [← e5]; show okC Tryz.prog.toTables proF (fun _ => true) _ = true; decide +kernel
 rw [e];have i1 : IL (pctx noT off) (fun _ => true) [.code r5, .code (.refuse ""), .code .skip] [.code r5, .code l, .code tl] := .cons h5 (.stop ⟨by rw [← e6]; rfl, by rw [← e7]; rfl⟩ (fun id => rfl))
 have i2 : IL (pctx noT off) (fun _ => true) [.code (.seq (.seq r5 (.refuse "")) .skip)] [.code (.seq (.seq r5 l) tl)] := .part (.part i1);have i3 : IL (pctx noT off) (fun _ => true) [.code (.seq r4 (.seq (.seq r5 (.refuse "")) .skip))] [.code (.seq r4 (.seq (.seq r5 l) tl))] := .part (.cons h4 i2);have i4 : IL (pctx noT off) (fun _ => true) [.code (.seq r3 (.seq r4 (.seq (.seq r5 (.refuse "")) .skip)))] [.code (.seq r3 (.seq r4 (.seq (.seq r5 l) tl)))] := .part (.cons h3 i3);have i5 : IL (pctx noT off) (fun _ => true) [.code (.seq pr (.seq r3 (.seq r4 (.seq (.seq r5 (.refuse "")) .skip))))] [.code (.seq pr (.seq r3 (.seq r4 (.seq (.seq r5 l) tl))))] := .part (.cons h2 i4);exact .part (.cons h1 i5)
section
variable {C : Ctx} {r : Ren} {w v : World}
theorem ptr_inv (hw:WR C r w v) {a:Nat} {y:Value} (hr:¬ C.RO a) (h:VR C r (.pointer (some ⟨a,0,none⟩)) y):∃ b,y = .pointer (some ⟨b,0,none⟩)∧r a b:=by
 cases h with
 | @ptr _ b ab =>
  obtain ⟨k,e1,e2⟩:=ab;obtain ⟨b0,b1,b2⟩:=b;simp only at k e1 e2;rw [hw.shz _ hr] at e1;subst e1; subst e2;exact ⟨b0,rfl,k⟩
theorem undef_inv {y:Value} (h:VR C r undef y):y=undef:=by
 cases h with
 | @tuple _ ys e k =>
  have:ys = #[]:=Array.eq_empty_of_size_eq_zero e.symm;rw [this];rfl
theorem int_inv {k:IntKind} {n:Int} {y:Value} (h:VR C r (.int k n) y):y = .int k n:=by cases h; rfl
theorem cells_inv (hw:WR C r w v) {a b:Nat} (ab:r a b) (hr:¬ C.RO a) {c:Array Value} {t:TypeId} {z:Nat × Nat} (h:w.heap[a]?=some (.cells c t z)):∃ c',v.heap[b]?=some (.cells c' t z)∧VAll C r c c':=by
 have ho:=hw.obj a b ab hr;rw [h] at ho;cases hv:v.heap[b]? with
 | none=>rw [hv] at ho; cases ho
 | some o=>rw [hv] at ho; cases ho with | cells va=>exact ⟨_,rfl,va⟩
end
structure AtNew (own:Bl) (n c:Nat) (rb fb blk off wg C:Nat) (T:Array Value) (w:World):Prop where
 tc:TC T rb fb wg n
 s24:T[24]?=some (.int .i64 n)
 s25:T[25]?=some (.int .i64 0)
 own:own rb∧own fb∧own wg∧own C
 ne:rb ≠ fb∧rb ≠ wg∧rb ≠ C∧fb ≠ wg∧fb ≠ C∧wg ≠ C
 rbx:w.cell? ⟨rb,0,none⟩=some (.slice (some ⟨blk,off,none⟩) n c)
 fbx:w.cell? ⟨fb,0,none⟩=some (.slice (some ⟨C,0,none⟩) n n)
 cb:∃ cs:Array Value,w.heap[C]?=some (.cells cs 71)∧cs.size=n
 wgb:w.heap[wg]?=some (Go.ConcR.wgBlock wgLink.tWg 0 0)
theorem PF.real {noT:TypeId} {off blk n c:Nat} (hn1:1≤n) {w0 wl v:World} {ts ts':Array Value} {r:Ren} {own:Bl} (hP:PF n c (some ⟨Tryz.prog.globals.size,0,none⟩) w0 ts wl) (hw0:w0.heap.size=Tryz.prog.globals.size+1)
  (hv:VAll (pctx noT off) r ts ts') (hw:WR (pctx noT off) r wl v) (hin:Within2 (pctx noT off) r own (fun b=>b=blk)):∃ rb fb wg Cb,AtNew own n c rb fb blk off wg Cb ts' v:=by
 obtain ⟨rb,fb,wg,C,hs,hfr,h1,h3,h4,h24,h25,⟨l1,l2,l3,l4⟩,⟨n1,n2,n3,n4,n5,n6⟩,o1,o2,o3,o4⟩:=hP;have nr:∀ a,w0.heap.size≤a→¬ (pctx noT off).RO a:=fun a h e=>by have e':a=Tryz.prog.globals.size:=e; omega
 have hfr':Fresh ts':=by
  refine ⟨?_,fun i hi => ?_⟩
  ·obtain ⟨y,hy,k⟩:=hv.get? hfr.1
   cases k;exact hy
  ·obtain ⟨y,hy,k⟩:=hv.get? (hfr.2 i hi)
   rw [hy,undef_inv k]
 obtain ⟨y1,hy1,v1⟩:=hv.get? h1;obtain ⟨rb',rfl,r1⟩:=ptr_inv hw (nr _ l1) v1;obtain ⟨y3,hy3,v3⟩:=hv.get? h3;obtain ⟨fb',rfl,r3⟩:=ptr_inv hw (nr _ l2) v3;obtain ⟨y4,hy4,v4⟩:=hv.get? h4;obtain ⟨wg',rfl,r4⟩:=ptr_inv hw (nr _ l3) v4;obtain ⟨y5,hy5,v5⟩:=hv.get? h24;obtain rfl:=int_inv v5;obtain ⟨y6,hy6,v6⟩:=hv.get? h25;obtain rfl:=int_inv v6;obtain ⟨c1,q1,a1⟩:=cells_inv hw r1 (nr _ l1) o1;obtain ⟨c2,q2,a2⟩:=cells_inv hw r3 (nr _ l2) o2;obtain ⟨c4,q4,a4⟩:=cells_inv hw r4 (nr _ l3) o4;obtain ⟨z1,hz1,u1⟩:=a1.get? (i:=0) rfl;obtain ⟨z2,hz2,u2⟩:=a2.get? (i:=0) rfl;obtain ⟨x1,rfl,hx1⟩:∃ x,z1 = .slice (some x) n c∧x = ⟨blk,off,none⟩:=by
  cases u1 with
  | slE=>omega
  | @sl _ b _ _ ab =>
   obtain ⟨k,e1,e2⟩:=ab;obtain ⟨b0,b1,b2⟩:=b;simp only at k e1 e2;have hb0:b0=blk:=(hin _ _ k).2 rfl;have hsh:(pctx noT off).sh Tryz.prog.globals.size=off:=by show (if Tryz.prog.globals.size=Tryz.prog.globals.size then off else 0)=off; simp
   rw [hsh] at e1;subst hb0; subst e2;exact ⟨_,rfl,by rw [e1]; simp⟩
 subst hx1;obtain ⟨C',rfl,r5⟩:∃ C',z2 = .slice (some ⟨C',0,none⟩) n n∧r C C':=by
  cases u2 with
  | slE=>omega
  | @sl _ b _ _ ab =>
   obtain ⟨k,e1,e2⟩:=ab;obtain ⟨b0,b1,b2⟩:=b;simp only at k e1 e2;rw [hw.shz _ (nr _ l4)] at e1;subst e1; subst e2;exact ⟨b0,rfl,k⟩
 obtain ⟨c3,q3,a3⟩:=cells_inv hw r5 (nr _ l4) o3;have ne:∀ a a' b b',r a b→r a' b'→w0.heap.size≤a→a ≠ a'→b ≠ b':=fun a a' b b' k k' l hne e=>by
  rcases hw.inj a a' b k (by rw [e]; exact k') with e' | ⟨e',_⟩
  ·exact hne e'
  ·exact nr _ l e'
 refine ⟨rb',fb',wg',C',⟨⟨by rw [← hv.size,hs],hy1,hy3,hy4,hfr'⟩,hy5,hy6,⟨(hin _ _ r1).1 (nr _ l1),(hin _ _ r3).1 (nr _ l2),(hin _ _ r4).1 (nr _ l3),(hin _ _ r5).1 (nr _ l4)⟩,⟨ne _ _ _ _ r1 r3 l1 n1,ne _ _ _ _ r1 r4 l1 n2,ne _ _ _ _ r1 r5 l1 n3,ne _ _ _ _ r3 r4 l2 n4,ne _ _ _ _ r3 r5 l2 n5,ne _ _ _ _ r4 r5 l3 n6⟩,?_,?_,⟨c3,q3,?_⟩,?_⟩⟩
 ·simp [World.cell?,q1,hz1]
 ·simp [World.cell?,q2,hz2]
 ·rw [← a3.size]; simp [size_madeCells]
 ·rw [q4]
  have e:c4 = #[.int .u64 0,.int .u32 0]:=by
   obtain ⟨g0,hg0,k0⟩:=a4.get? (i:=0) rfl;obtain ⟨g1,hg1,k1⟩:=a4.get? (i:=1) rfl;obtain rfl:=int_inv k0;obtain rfl:=int_inv k1;have hsz:c4.size=2:=a4.size.symm;refine Array.ext (by rw [hsz]; rfl) fun i h1 h2 => ?_
   match i,h1 with
   | 0,_=>exact (Array.getElem?_eq_some_iff.1 hg0).2
   | 1,_=>exact (Array.getElem?_eq_some_iff.1 hg1).2
   | i+2,h=>omega
  rw [e];rfl
theorem frR_stop {C : Ctx} {r : Ren} {g : FuncId} {ts : Array Value} {k0 : List Item} {f' : Frame} (h : FrR C r (fra g ts (.code (.refuse "") :: k0) false) f') : ∃ ts' c k, f' = fra g ts' (.code c :: k) false ∧ VOn C r (C.D g) ts ts' ∧ C.suf c k := by
 generalize hx : fra g ts (.code (.refuse "") :: k0) false = x at h;cases h with
 | @mk f ts1 ts' todo todo' m hF hv hk =>
  have e : g = f ∧ ts = ts1 ∧ (.code (.refuse "") :: k0) = todo ∧ false = m := by
   have e1 := congrArg Frame.fn hx;have e2 := congrArg Frame.tmps hx;have e3 := congrArg Frame.todo hx;have e4 := congrArg Frame.mode hx;refine ⟨e1, e2, e3, ?_⟩;cases m with
   | false => rfl
   | true => cases e4
  obtain ⟨rfl, rfl, rfl, rfl⟩ := e;cases hk with
  | cons h0 hk => cases h0
  | stop hs _ => exact ⟨ts', _, _, rfl, hv, hs⟩
theorem Pro.mono {P:Program} {c:Code} {Q Qr Q' Qr':Act→World→Prop} {a:Act} {w:World} (h:Pro P c Q Qr a w) (hq:∀ a w,Q a w→Q' a w) (hr:∀ a w,Qr a w→Qr' a w):Pro P c Q' Qr' a w:=fun b k cs =>
 (h b k cs).imp (fun ⟨a',w',k0,x,y⟩=>⟨a',w',k0,hq _ _ x,y⟩) fun ⟨a',w',todo,x,y⟩=>⟨a',w',todo,hr _ _ x,y⟩
theorem pbody_body:Tryz.f87.body=some pbody:=by simp only [pbody,Tryz.f87,Option.getD]
theorem enterC (x:Value):Frame.enter Tryz.prog 87 #[x] .normal=fra 87 (#[x] ++ Array.replicate 54 undef) [.code pbody] false:=by
 rw [enter_at (P:=Tryz.prog) #[x] Tryz.func87 pbody_body,Tryz.ntmps87,fra_run];rfl
theorem sameC (noT:TypeId) (off:Nat):SameF (pctx noT off) 87:=⟨rfl,_,_,Tryz.func87,pbody_body⟩
theorem pbody_form:∃ r0 pr r3 r4 r5 l tl,pbody = .seq r0 (.seq pr (.seq r3 (.seq r4 (.seq (.seq r5 l) tl)))):=⟨_,_,_,_,_,_,_,rfl⟩
def StopP (cf:Frame) (cs:List Frame) (n c blk off:Nat) (xs:List Int) (own:Bl) (g:Goroutine) (w:World):Prop :=
 (rowsB n xs=false∧g=G (cf.finish (.slice none 0 0)) cs) ∨
 (rowsB n xs=true∧∃ T rb fb wg C,g=G ((base 87).at ⟨T,[]⟩ [.code (.block 0 (.loop cloop)),.code ctail]) (cf :: cs)∧AtNew own n c rb fb blk off wg C T w)
section
variable {n c blk off : Nat} {xs : List Int}
theorem pro_way {noT : TypeId} (hno : Tryz.prog.toTables.info? noT = none) {w : World} (cf : Frame) (cs : List Frame) (hn : 1 ≤ n) (hn2 : n ≤ 1048576) (hxs : xs.length = n * 4)
  (hrows : ∀ k, k < 4 * n → w.cell? ⟨blk, off + k, none⟩ = some (.int .i64 (nth xs k))) (hG : Tryz.prog.globals.size ≤ w.heap.size) :
  WayG Tryz.prog true (fun own => Stays (fun b => own b ∨ b = blk)) (fun own => Did own (fun b => b = blk)) (StopP cf cs n c blk off xs) (fun _ => False) (G (Frame.enter Tryz.prog 87 #[.slice (some ⟨blk, off, none⟩) n c] .normal) (cf :: cs)) w := by
 have h0 := hrows 0 (by omega);obtain ⟨c', T, z, hb⟩ : ∃ c' T z, w.heap[blk]? = some (.cells c' T z) := by
  unfold World.cell? at h0;revert h0
  cases w.heap[blk]? with
  | none => intro h0; cases h0
  | some o => cases o <;> intro h0 <;> first | exact ⟨_, _, _, rfl⟩ | cases h0
 have hcs : ∀ (j : Nat) u, ((Array.range (4 * n)).map fun k => Value.int .i64 (nth xs k))[j]? = some u → c'[j + off]? = some u ∧ ∃ x, u = .int .i64 x := by
  intro j u hu;rw [Array.getElem?_map] at hu;obtain ⟨y, hy, rfl⟩ := Option.map_eq_some_iff.1 hu;obtain ⟨hlt, rfl⟩ := Array.getElem?_eq_some_iff.1 hy;simp only [Array.size_range] at hlt;have := hrows j hlt;simp only [World.cell?, hb] at this;refine ⟨?_, _, rfl⟩;rw [Nat.add_comm];simpa using this
 have hWR := pWR (noT := noT) (off := off) (v := w) hno hG hb hcs;obtain ⟨r0, pr, r3, r4, r5, l, tl, e⟩ := pbody_form;have hrec : ∀ t d, RecsAt ((winW w n xs noT).tp t d) ((winW w n xs noT).tp t d).heap.size 4 (some ⟨Tryz.prog.globals.size, 0, none⟩) n xs := fun t d => ⟨hxs, fun _ => ⟨_, 0, rfl, by rw [win_size]; omega, fun i hi => by rw [Nat.zero_add, win_cell]; simp [show i < 4 * n by omega]⟩⟩
 have hres : Res (pctx noT off).Px (fun b v w' => ∃ t d, PR n c (some ⟨Tryz.prog.globals.size, 0, none⟩) xs ((winW w n xs noT).tp t d) b v w') ⟨fra 87 (#[.slice (some ⟨Tryz.prog.globals.size, 0, none⟩) n c] ++ Array.replicate 54 undef) [.code (.seq r0 (.seq pr (.seq r3 (.seq r4 (.seq (.seq r5 (.refuse "")) .skip)))))] false, [Xb], winW w n xs noT⟩ :=
  Res.of_pro (fn := Tryz.f87) Tryz.func87 fun t d => (proW _ n c xs _ (hrec t d) hn2 r0 pr r3 r4 r5 l tl e).mono (fun a w' x => ⟨x.1, t, d, x.2⟩) fun a w' x => ⟨x.1, x.2.imp fun v y => ⟨y.1, t, d, y.2⟩⟩
 have henter := enterC (.slice (some ⟨blk, off, none⟩) n c);have hv1 : VR (pctx noT off) (winR Tryz.prog.globals.size blk) (.slice (some ⟨Tryz.prog.globals.size, 0, none⟩) n c) (.slice (some ⟨blk, off, none⟩) n c) := .sl n c ⟨⟨rfl, rfl⟩, by simp [pctx], rfl⟩;have hva := (VAll.one hv1).append (VAll.replicate 54 (vr_undef (C := pctx noT off) (r := winR Tryz.prog.globals.size blk)));have hfr : FrR (pctx noT off) (winR Tryz.prog.globals.size blk) (fra 87 (#[.slice (some ⟨Tryz.prog.globals.size, 0, none⟩) n c] ++ Array.replicate 54 undef) [.code (.seq r0 (.seq pr (.seq r3 (.seq r4 (.seq (.seq r5 (.refuse "")) .skip)))))] false) (fra 87 (#[.slice (some ⟨blk, off, none⟩) n c] ++ Array.replicate 54 undef) [.code pbody] false) :=
  .mk false (sameC noT off) hva.on (proIL noT off e)
 have hway := way_of_res (main := true) (bs := cf :: cs) (ro := fun b => b = blk) (own := fun _ => False) (pro_ok noT off) (by rintro ⟨k, h⟩; cases h) (fun _ _ => rfl) (pro_fine noT off) hres _ hres.acc (Path.refl _ _) hfr (LR.nil) hWR (by
  rintro a b ⟨rfl, rfl⟩;exact ⟨fun h => absurd rfl h, fun _ => rfl⟩)
 rw [henter];have hway2 := hway.toG.bind' (R' := fun own => Stays (fun b => own b ∨ b = blk)) (D' := fun own => Did own (fun b => b = blk)) (Stop' := fun o g w1 => ∀ w2, Stays (fun b => o b ∨ b = blk) w1 w2 → AtEnd (pctx noT off) (fun b v w' => ∃ t d, PR n c (some ⟨Tryz.prog.globals.size, 0, none⟩) xs ((winW w n xs noT).tp t d) b v w') (fun b => b = blk) (cf :: cs) o g w2)
  (fun _ _ _ x => x) (fun _ _ _ _ x => x) fun o g w x => .stop fun w1 h1 w2 h2 => x w2 (h1.trans h2)
 refine hway2.bind (fun _ _ => .refl _ _) (fun _ _ _ x => x) (fun _ _ _ _ x => x) ?_;intro o g w2 hend;have hrun : g.status = .running := by
  obtain ⟨_, _, _, _, _, _, rfl, _⟩ := hend w2 (.refl _ _);rfl
 cases hB : rowsB n xs
 ·refine .next hrun fun w3 h3 => ?_
  obtain ⟨r, wl, f, f', eb, x, rfl, hf, hwr, hte, hin, ⟨t, d, hbel, hpr⟩, hends⟩ := hend w3 h3;cases eb with
  | true => exact absurd hpr.1 (by rw [hB]; simp)
  | false =>
   obtain ⟨rfl, _⟩ := hpr;have hlv : f.leaving Tryz.prog wl (.returned (.slice none 0 0)) := by
    rcases hends with ⟨_, h⟩ | ⟨e, _⟩
    ·exact h
    ·cases e
   obtain ⟨y, v1, es, r1, hs, hext, hw1, hev, hvr⟩ := ret_step (pro_ok noT off) hf hwr hte hlv cf cs true;have hd := hext.did (by rintro ⟨k, h⟩; cases h) hwr hw1 hin hev;cases hvr;exact ⟨_, v1, es, hs, hd, .stop fun w4 h4 => .inl ⟨hB, rfl⟩⟩
 ·refine .stop fun w3 h3 => .inr ⟨hB, ?_⟩
  obtain ⟨r, wl, f, f', eb, x, rfl, hf, hwr, hte, hin, ⟨t, d, hbel, hpr⟩, hends⟩ := hend w3 h3;cases eb with
  | false => exact absurd hpr.2 (by rw [hB]; simp)
  | true =>
   obtain ⟨_, ts, rfl, hPF⟩ := hpr;rcases hends with ⟨e, _⟩ | ⟨_, g0, ts0, k0, rfl, e⟩
   ·cases e
   simp at e;obtain ⟨eg, rfl⟩ := e;have eg2 : g0 = (87 : Nat) := by first | exact eg.symm | exact (Int.ofNat.inj eg).symm | exact (Int.ofNat_inj.1 eg).symm
   subst eg2;obtain ⟨ts', c1, k1, rfl, hv, rfl, rfl⟩ := frR_stop hf;obtain ⟨rb, fb, wg, Cb, hA⟩ := PF.real hn hPF (win_size t d) (VOn.all hv) hwr hin;exact ⟨ts', rb, fb, wg, Cb, rfl, hA⟩
end
end Rn
section
open Go.RowKit
def mkBd (h v m d:Int):Bool:=inB h (-4000000000000000000) 4000000000000000000 && (inB v (-4000000000000000000) 4000000000000000000 && (inB m (-4000000000000000000) 4000000000000000000 && inB d (-4000000000000000000) 4000000000000000000))
def mkG (h v m d:Int):Int:=if d<0 then -(gcd4 h v m d:Int) else gcd4 h v m d
def mkT (h v m d:Int):Bool:=thrB (Int.tdiv h (mkG h v m d)) (Int.tdiv v (mkG h v m d)) (Int.tdiv m (mkG h v m d)) (Int.tdiv d (mkG h v m d))
def mkB (h v m d:Int):Bool := !decide (d=0) && (mkBd h v m d && mkT h v m d)
def mkI (h v m d x:Int):Int:=if mkB h v m d=true then Int.tdiv x (mkG h v m d) else 0
theorem mkB_0 (h v m:Int) {d:Int} (hd:d=0):mkB h v m d=false:=by simp [mkB,hd]
theorem mkB_1 {h v m d:Int} (hb:mkBd h v m d=false):mkB h v m d=false:=by simp [mkB,hb]
theorem mkB_2 {h v m d:Int} (hb:mkT h v m d=false):mkB h v m d=false:=by simp [mkB,hb]
theorem mkB_t {h v m d:Int} (hd:¬ d=0) (hb:mkBd h v m d=true) (ht:mkT h v m d=true):mkB h v m d=true:=by simp [mkB,hb,hd,ht]
theorem mkI_f {h v m d:Int} (hb:mkB h v m d=false) (x:Int):mkI h v m d x=0:=by simp [mkI,hb]
theorem mkI_t {h v m d:Int} (hb:mkB h v m d=true) (x:Int):mkI h v m d x=Int.tdiv x (mkG h v m d):=by simp [mkI,hb]
theorem mkI_thr {h v m d:Int} (hb:mkB h v m d=true):thrB (mkI h v m d h) (mkI h v m d v) (mkI h v m d m) (mkI h v m d d)=true:=by
 simp only [mkI_t hb];simp only [mkB,Bool.and_eq_true] at hb;exact hb.2.2
theorem mkBd_out {h v m d:Int} (hb:mkBd h v m d=true):okG h∧okG v∧okG m∧okG d:=by
 simp only [mkBd,Bool.and_eq_true,inB_iff] at hb;exact hb
theorem mkG_ne (h v m:Int) {d:Int} (hd:¬ d=0):mkG h v m d ≠ 0:=by
 have:=gcd4_pos (a:=h) (b:=v) (c:=m) hd;unfold mkG;split <;> omega
theorem tdiv_bd {x g:Int} (h:okG x):okG (Int.tdiv x g):=by
 have h1:(Int.tdiv x g).natAbs≤x.natAbs:=by
  rw [Int.natAbs_tdiv];exact Nat.div_le_self _ _
 unfold okG at *
 omega
theorem okG_wrap {x:Int} (h:okG x):IntKind.i64.wrap x=x:=by
 unfold okG at h;exact IntWalk.i64_in _ (by omega)
def det9 (a0 a1 a2 b0 b1 b2 c0 c1 c2:Int):Int:=a0*(b1*c2 - b2*c1) - a1*(b0*c2 - b2*c0)+a2*(b0*c1 - b1*c0)
structure DetBd (a0 a1 a2 b0 b1 b2 c0 c1 c2:Int):Prop where
 p1 : -1000000000000000000≤b1*c2∧b1*c2≤1000000000000000000
 p2 : -1000000000000000000≤b2*c1∧b2*c1≤1000000000000000000
 p3 : -1000000000000000000≤b0*c2∧b0*c2≤1000000000000000000
 p4 : -1000000000000000000≤b2*c0∧b2*c0≤1000000000000000000
 p5 : -1000000000000000000≤b0*c1∧b0*c1≤1000000000000000000
 p6 : -1000000000000000000≤b1*c0∧b1*c0≤1000000000000000000
 q1 : -1000000000000000000≤a0*(b1*c2 - b2*c1)∧a0*(b1*c2 - b2*c1)≤1000000000000000000
 q2 : -1000000000000000000≤a1*(b0*c2 - b2*c0)∧a1*(b0*c2 - b2*c0)≤1000000000000000000
 q3 : -1000000000000000000≤a2*(b0*c1 - b1*c0)∧a2*(b0*c1 - b1*c0)≤1000000000000000000
structure DetW (a0 a1 a2 b0 b1 b2 c0 c1 c2:Int):Prop where
 w1:IntKind.i64.wrap (b1*c2)=b1*c2
 w2:IntKind.i64.wrap (b2*c1)=b2*c1
 w3:IntKind.i64.wrap (b0*c2)=b0*c2
 w4:IntKind.i64.wrap (b2*c0)=b2*c0
 w5:IntKind.i64.wrap (b0*c1)=b0*c1
 w6:IntKind.i64.wrap (b1*c0)=b1*c0
 s1:IntKind.i64.wrap (b1*c2 - b2*c1)=b1*c2 - b2*c1
 s2:IntKind.i64.wrap (b0*c2 - b2*c0)=b0*c2 - b2*c0
 s3:IntKind.i64.wrap (b0*c1 - b1*c0)=b0*c1 - b1*c0
 m1:IntKind.i64.wrap (a0*(b1*c2 - b2*c1))=a0*(b1*c2 - b2*c1)
 m2:IntKind.i64.wrap (a1*(b0*c2 - b2*c0))=a1*(b0*c2 - b2*c0)
 m3:IntKind.i64.wrap (a2*(b0*c1 - b1*c0))=a2*(b0*c1 - b1*c0)
 t1:IntKind.i64.wrap (a0*(b1*c2 - b2*c1) - a1*(b0*c2 - b2*c0))=a0*(b1*c2 - b2*c1) - a1*(b0*c2 - b2*c0)
 t2:IntKind.i64.wrap (a0*(b1*c2 - b2*c1) - a1*(b0*c2 - b2*c0)+a2*(b0*c1 - b1*c0))=a0*(b1*c2 - b2*c1) - a1*(b0*c2 - b2*c0)+a2*(b0*c1 - b1*c0)
theorem DetBd.wraps {a0 a1 a2 b0 b1 b2 c0 c1 c2:Int} (h:DetBd a0 a1 a2 b0 b1 b2 c0 c1 c2):DetW a0 a1 a2 b0 b1 b2 c0 c1 c2:=by
 obtain ⟨p1,p2,p3,p4,p5,p6,q1,q2,q3⟩:=h;exact ⟨IntWalk.i64_in _ (by omega),IntWalk.i64_in _ (by omega),IntWalk.i64_in _ (by omega),IntWalk.i64_in _ (by omega),IntWalk.i64_in _ (by omega),IntWalk.i64_in _ (by omega),IntWalk.i64_in _ (by omega),IntWalk.i64_in _ (by omega),IntWalk.i64_in _ (by omega),IntWalk.i64_in _ (by omega),IntWalk.i64_in _ (by omega),IntWalk.i64_in _ (by omega),IntWalk.i64_in _ (by omega),IntWalk.i64_in _ (by omega)⟩
theorem DetBd.out {a0 a1 a2 b0 b1 b2 c0 c1 c2:Int} (h:DetBd a0 a1 a2 b0 b1 b2 c0 c1 c2):okG (det9 a0 a1 a2 b0 b1 b2 c0 c1 c2):=by
 obtain ⟨p1,p2,p3,p4,p5,p6,q1,q2,q3⟩:=h;unfold okG det9;omega
def solD (pa pb pc pd qa qb qc qd ra rb rc rd:Int):Int:=if (rowB pa pb pc pd && (rowB qa qb qc qd && rowB ra rb rc rd))=true then det9 pa pb pc qa qb qc ra rb rc else 0
end
section
open Go.RowKit
def thrV (h v m d:Int) (b:Bool):Value := .tuple #[.agg #[.int .i64 h,.int .i64 v,.int .i64 m,.int .i64 d],.bool b]
def mkV (h v m d:Int):Value:=thrV (mkI h v m d h) (mkI h v m d v) (mkI h v m d m) (mkI h v m d d) (mkB h v m d)
theorem mkV_f {h v m d:Int} (hb:mkB h v m d=false):mkV h v m d=thrV 0 0 0 0 false:=by simp only [mkV,mkI_f hb,hb]
theorem mkV_t {h v m d:Int} (hb:mkB h v m d=true):mkV h v m d=thrV (Int.tdiv h (mkG h v m d)) (Int.tdiv v (mkG h v m d)) (Int.tdiv m (mkG h v m d)) (Int.tdiv d (mkG h v m d)) true:=by simp only [mkV,mkI_t hb,hb]
theorem below_dr {B:Nat} {a w:World} (h:Below B a w):Below B a w.drew:=⟨h.os,h.tape,h.output,h.size,h.block⟩
theorem below_set4 {B:Nat} {a w:World} (h:Below B a w) {b:Nat} (hb:B≤b) (x y z u:Value):Below B a ((((w.setCell ⟨b,0,none⟩ x).setCell ⟨b,1,none⟩ y).setCell ⟨b,2,none⟩ z).setCell ⟨b,3,none⟩ u) :=
 ((((h.setCell hb _).setCell hb _).setCell hb _).setCell hb _)
end
section
section
variable {P : Program} {ops : Array Oper} {Q : Exit → Act → World → Prop} {md : Region.Mode} {S : World → Prop}
theorem take_heldS {i d:Nat} {oi:Oper} {v:Value} {fuel:Nat} {listed:Array Bool} {a:Act} {w:World} (hi:ops[i]?=some oi) (hd:oi.dst=some d)
  (h:wpAnyH P md ops Q S fuel (listed.setIfInBounds i true) (a.put (some d) v) w)
  (hs:Region.noSelect ops=true:=by kernel_rfl) (hf:Region.free md ops listed i=true:=by kernel_rfl) (hr:(Region.ready md ops listed).contains i=true:=by kernel_rfl) (hQ:∀ c a w,Q (.panic c) (a.put (some d) v) w→Q (.panic c) a w:=by exact fun _ _ _ h=>h)
  (hw:Region.wanted oi (yielded ops a.tmps)=true:=by kernel_rfl) (hy:∀ w,S w→(execOp a.eval oi).run P w = .ok (.value v) w:=by intro w hSw; (try dsimp only at hSw); go_simp; try rfl) (hS:S w:=by assumption):wpAnyH P md ops Q S (fuel+1) listed a w :=
 wpAnyH_take (v:=v) hi hs hf hr (by rw [hd]; exact hQ) (Or.inl ⟨hw,hy⟩) hS (by rw [hd]; exact h)
end
end
section
open Go.RowKit
structure R3 (w wr:World) (pa pb pc pd qa qb qc qd ra rb rc rd:Int):Prop where
 p:Box4 wr w.heap.size pa pb pc pd
 q:Box4 wr (w.heap.size+1) qa qb qc qd
 r:Box4 wr (w.heap.size+1+1) ra rb rc rd
 below:Below w.heap.size w wr
theorem R3.after {w wr w1:World} {pa pb pc pd qa qb qc qd ra rb rc rd:Int} (h:R3 w wr pa pb pc pd qa qb qc qd ra rb rc rd) (hb:Below wr.heap.size wr w1):R3 w w1 pa pb pc pd qa qb qc qd ra rb rc rd:=⟨h.p.after hb,h.q.after hb,h.r.after hb,h.below.trans (hb.mono h.below.size)⟩
theorem R3.start (w:World) (pa pb pc pd qa qb qc qd ra rb rc rd:Int) (T:TypeId):R3 w (((w.alloc (.cells #[.int .i64 pa,.int .i64 pb,.int .i64 pc,.int .i64 pd] T)).alloc (.cells #[.int .i64 qa,.int .i64 qb,.int .i64 qc,.int .i64 qd] T)).alloc (.cells #[.int .i64 ra,.int .i64 rb,.int .i64 rc,.int .i64 rd] T)) pa pb pc pd qa qb qc qd ra rb rc rd:=by
 have h2:=Box4.new (w.alloc (.cells #[.int .i64 pa,.int .i64 pb,.int .i64 pc,.int .i64 pd] T)) qa qb qc qd T;have h3:=Box4.new ((w.alloc (.cells #[.int .i64 pa,.int .i64 pb,.int .i64 pc,.int .i64 pd] T)).alloc (.cells #[.int .i64 qa,.int .i64 qb,.int .i64 qc,.int .i64 qd] T)) ra rb rc rd T;simp only [World.size_alloc] at h2 h3;exact ⟨((Box4.new w pa pb pc pd T).after ((Below.refl _ _).alloc (Nat.le_refl _) _)).after ((Below.refl _ _).alloc (Nat.le_refl _) _),h2.after ((Below.refl _ _).alloc (Nat.le_refl _) _),h3,(((Below.refl _ _).alloc (Nat.le_refl _) _).alloc (by simp) _).alloc (by simp; omega) _⟩
def solOk (pa pb pc pd qa qb qc qd ra rb rc rd:Int):Bool:=rowB pa pb pc pd && (rowB qa qb qc qd && rowB ra rb rc rd)
theorem solD_f {pa pb pc pd qa qb qc qd ra rb rc rd:Int} (h:solOk pa pb pc pd qa qb qc qd ra rb rc rd=false):solD pa pb pc pd qa qb qc qd ra rb rc rd=0:=by
 unfold solOk at h; simp [solD,h]
theorem solD_t {pa pb pc pd qa qb qc qd ra rb rc rd:Int} (h:solOk pa pb pc pd qa qb qc qd ra rb rc rd=true):solD pa pb pc pd qa qb qc qd ra rb rc rd=det9 pa pb pc qa qb qc ra rb rc:=by
 unfold solOk at h; simp [solD,h]
def solB (pa pb pc pd qa qb qc qd ra rb rc rd:Int):Bool:=mkB (det9 pd pb pc qd qb qc rd rb rc) (det9 pa pd pc qa qd qc ra rd rc) (det9 pa pb pd qa qb qd ra rb rd) (solD pa pb pc pd qa qb qc qd ra rb rc rd)
def solI (pa pb pc pd qa qb qc qd ra rb rc rd x:Int):Int:=mkI (det9 pd pb pc qd qb qc rd rb rc) (det9 pa pd pc qa qd qc ra rd rc) (det9 pa pb pd qa qb qd ra rb rd) (solD pa pb pc pd qa qb qc qd ra rb rc rd) x
def solV (pa pb pc pd qa qb qc qd ra rb rc rd:Int):Value:=mkV (det9 pd pb pc qd qb qc rd rb rc) (det9 pa pd pc qa qd qc ra rd rc) (det9 pa pb pd qa qb qd ra rb rd) (solD pa pb pc pd qa qb qc qd ra rb rc rd)
theorem solV_0 {pa pb pc pd qa qb qc qd ra rb rc rd:Int} (h:solD pa pb pc pd qa qb qc qd ra rb rc rd=0):solV pa pb pc pd qa qb qc qd ra rb rc rd=thrV 0 0 0 0 false:=mkV_f (mkB_0 _ _ _ h)
theorem solD_ne {pa pb pc pd qa qb qc qd ra rb rc rd:Int} (h:¬ solD pa pb pc pd qa qb qc qd ra rb rc rd=0):rowB pa pb pc pd=true∧rowB qa qb qc qd=true∧rowB ra rb rc rd=true:=by
 cases e:solOk pa pb pc pd qa qb qc qd ra rb rc rd
 ·exact absurd (solD_f e) h
 ·simp only [solOk,Bool.and_eq_true] at e
  exact ⟨e.1,e.2.1,e.2.2⟩
end
section
open Go.RowKit
def hasAt (xs:List Int) (H V M D:Int) (k:Nat):Bool:=decide (nth xs (k*4)=H) && (decide (nth xs (k*4+1)=V) && (decide (nth xs (k*4+2)=M) && decide (nth xs (k*4+3)=D)))
def hasTo (xs:List Int) (H V M D:Int):Nat→Bool
 | 0=>false
 | k+1=>hasTo xs H V M D k || hasAt xs H V M D k
theorem hasTo_mem {xs:List Int} {H V M D:Int} {k:Nat} (h:hasAt xs H V M D k=true):∀ {n:Nat},k<n→hasTo xs H V M D n=true
 | n+1,hk=>by
  by_cases e:k=n
  ·subst e; simp [hasTo,h]
  ·simp [hasTo,hasTo_mem h (n:=n) (by omega)]
theorem hasTo_step {xs:List Int} {H V M D:Int} {k:Nat} (h0:hasTo xs H V M D k=false) (h:hasAt xs H V M D k=false):hasTo xs H V M D (k+1)=false:=by simp [hasTo,h0,h]
section
variable (rs : List Int) (n : Nat)
def crB (i k m:Nat):Bool:=solB (nth rs (i*4)) (nth rs (i*4+1)) (nth rs (i*4+2)) (nth rs (i*4+3)) (nth rs (k*4)) (nth rs (k*4+1)) (nth rs (k*4+2)) (nth rs (k*4+3)) (nth rs (m*4)) (nth rs (m*4+1)) (nth rs (m*4+2)) (nth rs (m*4+3))
def crI (i k m:Nat) (x:Int):Int:=solI (nth rs (i*4)) (nth rs (i*4+1)) (nth rs (i*4+2)) (nth rs (i*4+3)) (nth rs (k*4)) (nth rs (k*4+1)) (nth rs (k*4+2)) (nth rs (k*4+3)) (nth rs (m*4)) (nth rs (m*4+1)) (nth rs (m*4+2)) (nth rs (m*4+3)) x
def crH (i k m:Nat):Int:=crI rs i k m (det9 (nth rs (i*4+3)) (nth rs (i*4+1)) (nth rs (i*4+2)) (nth rs (k*4+3)) (nth rs (k*4+1)) (nth rs (k*4+2)) (nth rs (m*4+3)) (nth rs (m*4+1)) (nth rs (m*4+2)))
def crV (i k m:Nat):Int:=crI rs i k m (det9 (nth rs (i*4)) (nth rs (i*4+3)) (nth rs (i*4+2)) (nth rs (k*4)) (nth rs (k*4+3)) (nth rs (k*4+2)) (nth rs (m*4)) (nth rs (m*4+3)) (nth rs (m*4+2)))
def crM (i k m:Nat):Int:=crI rs i k m (det9 (nth rs (i*4)) (nth rs (i*4+1)) (nth rs (i*4+3)) (nth rs (k*4)) (nth rs (k*4+1)) (nth rs (k*4+3)) (nth rs (m*4)) (nth rs (m*4+1)) (nth rs (m*4+3)))
def crD (i k m:Nat):Int:=crI rs i k m (solD (nth rs (i*4)) (nth rs (i*4+1)) (nth rs (i*4+2)) (nth rs (i*4+3)) (nth rs (k*4)) (nth rs (k*4+1)) (nth rs (k*4+2)) (nth rs (k*4+3)) (nth rs (m*4)) (nth rs (m*4+1)) (nth rs (m*4+2)) (nth rs (m*4+3)))
theorem crV_eq (i k m:Nat):solV (nth rs (i*4)) (nth rs (i*4+1)) (nth rs (i*4+2)) (nth rs (i*4+3)) (nth rs (k*4)) (nth rs (k*4+1)) (nth rs (k*4+2)) (nth rs (k*4+3)) (nth rs (m*4)) (nth rs (m*4+1)) (nth rs (m*4+2)) (nth rs (m*4+3))=thrV (crH rs i k m) (crV rs i k m) (crM rs i k m) (crD rs i k m) (crB rs i k m):=rfl
theorem cr_thr {i k m:Nat} (h:crB rs i k m=true):thrB (crH rs i k m) (crV rs i k m) (crM rs i k m) (crD rs i k m)=true:=mkI_thr h
def metAt (H V M D:Int) (x:Nat):Bool:=metB (nth rs (x*4)) (nth rs (x*4+1)) (nth rs (x*4+2)) (nth rs (x*4+3)) H V M D
def crAll (i k m:Nat):Bool:=allB (metAt rs (crH rs i k m) (crV rs i k m) (crM rs i k m) (crD rs i k m)) n
def crHas (acc:List Int) (i k m:Nat):Bool:=hasTo acc (crH rs i k m) (crV rs i k m) (crM rs i k m) (crD rs i k m) (acc.length / 4)
def crStep (i k m:Nat) (acc:List Int):List Int:=if (crB rs i k m && (!crHas rs acc i k m && crAll rs n i k m))=true then acc ++ [crH rs i k m,crV rs i k m,crM rs i k m,crD rs i k m] else acc
def foldN (f:Nat→List Int→List Int):Nat→List Int→List Int
 | 0,a=>a
 | j+1,a=>f j (foldN f j a)
def corM (i k:Nat) (acc:List Int) (t:Nat):List Int:=foldN (fun j a=>crStep rs n i k (k+1+j) a) t acc
def corK (i:Nat) (acc:List Int) (t:Nat):List Int:=foldN (fun j a=>corM rs n i (i+1+j) a (n - (i+1+j+1))) t acc
def corI (t:Nat):List Int:=foldN (fun i a=>corK rs n i a (n - (i+1))) t []
def cornB:Bool:=allB (rowAt rs) n && inB (n:Int) 3 20
def cornL:List Int:=if cornB rs n=true then corI rs n n else []
end
variable {rs : List Int} {n : Nat}
theorem corM_s (i k:Nat) (acc:List Int) (t:Nat):corM rs n i k acc (t+1)=crStep rs n i k (k+1+t) (corM rs n i k acc t):=rfl
theorem corK_s (i:Nat) (acc:List Int) (t:Nat):corK rs n i acc (t+1)=corM rs n i (i+1+t) (corK rs n i acc t) (n - (i+1+t+1)):=rfl
theorem corI_s (t:Nat):corI rs n (t+1)=corK rs n t (corI rs n t) (n - (t+1)):=rfl
theorem cornL_f (h:cornB rs n=false):cornL rs n = []:=by simp [cornL,h]
theorem cornL_t (h:cornB rs n=true):cornL rs n=corI rs n n:=by simp [cornL,h]
structure CorAcc (acc:List Int) (q b:Nat):Prop where
 len:acc.length=q*4
 few:q≤b
theorem crStep_acc {i k m:Nat} {acc:List Int} {q b:Nat} (h:CorAcc acc q b):∃ q',CorAcc (crStep rs n i k m acc) q' (b+1):=by
 unfold crStep;split
 ·exact ⟨q+1,by simp [h.len]; omega,by have:=h.few; omega⟩
 ·exact ⟨q,h.len,by have:=h.few; omega⟩
theorem corM_acc {i k:Nat} {acc:List Int} {q b:Nat} (h:CorAcc acc q b):∀ t,∃ q',CorAcc (corM rs n i k acc t) q' (b+t)
 | 0=>⟨q,h⟩
 | t+1=>by obtain ⟨q',h'⟩:=corM_acc h t; rw [corM_s]; exact crStep_acc h'
theorem corK_acc {i:Nat} {acc:List Int} {q b:Nat} (hn:n≤20) (h:CorAcc acc q b):∀ t,∃ q',CorAcc (corK rs n i acc t) q' (b+20*t)
 | 0=>⟨q,h⟩
 | t+1=>by
  obtain ⟨q',h'⟩:=corK_acc hn h t;obtain ⟨q2,h2⟩:=corM_acc (rs:=rs) (n:=n) (i:=i) (k:=i+1+t) h' (n - (i+1+t+1));rw [corK_s];exact ⟨q2,h2.len,by have:=h2.few; omega⟩
theorem corI_acc (hn:n≤20):∀ t,∃ q',CorAcc (corI rs n t) q' (400*t)
 | 0=>⟨0,rfl,Nat.le_refl _⟩
 | t+1=>by
  obtain ⟨q',h'⟩:=corI_acc hn t;obtain ⟨q2,h2⟩:=corK_acc (rs:=rs) (n:=n) (i:=t) hn h' (n - (t+1));rw [corI_s];exact ⟨q2,h2.len,by have:=h2.few; omega⟩
def cornN (rs:List Int) (n:Nat):Nat:=(cornL rs n).length / 4
theorem corn_acc (rs:List Int) (n:Nat):CorAcc (cornL rs n) (cornN rs n) 8000:=by
 cases e:cornB rs n
 ·rw [cornN,cornL_f e]; exact ⟨rfl,by simp⟩
 ·have hn:n≤20:=by simp only [cornB,Bool.and_eq_true,inB_iff] at e; omega
  obtain ⟨q,h⟩:=corI_acc (rs:=rs) hn n;rw [cornN,cornL_t e];have h1:=h.len;exact ⟨by omega,by have:=h.few; omega⟩
end
section
open Go.RowKit
def OwnR (w:World) (base:Nat) (E:TypeId) (K:Nat) (v:Value) (n:Nat) (xs:List Int):Prop:=w.ownsRow base E K v n (xs.map (Value.int .i64))∧xs.length=n*K
section
variable {w w' : World} {base : Nat} {E : TypeId} {K n : Nat} {v : Value} {xs : List Int}
theorem OwnR.nil (w:World) (base:Nat) (E:TypeId) (K:Nat):OwnR w base E K (.slice none 0 0) 0 []:=⟨World.ownsRow_nil _ _ _ _,by simp⟩
theorem OwnR.alloc (h:OwnR w base E K v n xs) (o:Obj):OwnR (w.alloc o) base E K v n xs:=⟨World.ownsRow.alloc h.1 o,h.2⟩
theorem OwnR.drew (h:OwnR w base E K v n xs):OwnR w.drew base E K v n xs:=h
theorem OwnR.drewN (h:OwnR w base E K v n xs) (k:Nat):OwnR (w.drewN k) base E K v n xs:=h
theorem OwnR.ownLt (h:OwnR w base E K v n xs):∀ k,v.ownBlock=some k→base≤k:=fun k hk=>(World.ownsRow.lt h.1 k hk).1
theorem OwnR.form (h:OwnR w base E K v n xs):(v = .slice none 0 0∧n=0∧xs = []) ∨ ∃ g cap,v = .slice (some ⟨g,0,none⟩) n cap∧base≤g∧n≤cap∧RowF w g E (n*K) (ints xs):=by
 rcases h.1.2 with ⟨h1,h2⟩ | ⟨g,cap,cur,h1,h2,h3,h4,h5,h6,h7⟩
 ·refine .inl ⟨h1,h2,List.eq_nil_of_length_eq_zero ?_⟩
  rw [h.2,h2,Nat.zero_mul]
 ·refine .inr ⟨g,cap,h1,h2,h4,cur,h3,by rw [h6]; exact Nat.mul_le_mul_right _ h4,fun i hi => ?_⟩
  have hil:i<xs.length:=by rw [h.2]; exact hi
  have e:(cur.toList.take (n*K))[i]?=(xs.map (Value.int .i64))[i]?:=by rw [h7]
  rw [List.getElem?_take,if_pos hi,List.getElem?_map,List.getElem?_eq_getElem hil] at e;simp at e;simp [ints,nth_get xs i hil,e]
theorem OwnR.slice (h:OwnR w base E K v n xs):∃ A c,v = .slice A n c∧n≤c:=by
 rcases h.form with ⟨rfl,rfl,_⟩ | ⟨g,cap,rfl,_,hc,_⟩
 ·exact ⟨_,_,rfl,Nat.le_refl _⟩
 ·exact ⟨_,_,rfl,hc⟩
theorem OwnR.recs {A:Option Addr} {c:Nat} (h:OwnR w base E K (.slice A n c) n xs):RecsAt w w.heap.size K A n xs:=by
 rcases h.form with ⟨e,rfl,rfl⟩ | ⟨g,cap,e,_,_,hr⟩
 ·exact RecsAt.nil
 ·simp at e
  obtain ⟨rfl,rfl⟩:=e;exact hr.recs h.2
theorem OwnR.below (h:OwnR w base E K v n xs) (hb:Below w.heap.size w w'):OwnR w' base E K v n xs:=by
 refine ⟨⟨h.1.1,?_⟩,h.2⟩;rcases h.1.2 with h2 | ⟨g,cap,cur,h1,h2,h3,hr⟩
 ·exact .inl h2
 ·refine .inr ⟨g,cap,cur,h1,h2,(hb.block g ?_).trans h3,hr⟩
  exact (Array.getElem?_eq_some_iff.1 h3).1
theorem OwnR.new (w:World) (E:TypeId) (K:Nat):OwnR (w.alloc (.cells #[] E)) w.heap.size E K (.slice (some ⟨w.heap.size,0,none⟩) 0 0) 0 [] :=
 ⟨World.ownsRow_lit (base:=w.heap.size) (e:=E) (size:=K) w #[] 0 (Nat.le_refl _) (by simp [maxLen]) (by simp),by simp⟩
end
theorem wpList_appR {P:Program} (w:World) {ops:Array Oper} {rest:List Oper} {o:Oper} {a:Act} {Q:Exit→Act→World→Prop} (hgd:o.guard=none) (s x:Operand) (t:TypeId)
  (ho:o.op = .call { callee := .builtin .append,args := #[s,x],argTypes := #[t,t] })
  (base:Nat) (E:TypeId) (K bytes:Nat) (zc:Array Value) (ht:P.underlying t=some (.slice E)) (hinfo:(P.info? E).map (fun i=>(i.zero,i.size,i.bytes))=some (some (.agg zc),K,bytes)) (hzc:zc.size=K) (hK:0<K) (hby:bytes≤1024)
  (v:Value) (n:Nat) (xs:List Int) (hs:a.eval s=v) (hown:OwnR w base E K v n xs) (g m c:Nat) (ys:List Int) (hx:a.eval x = .slice (some ⟨g,0,none⟩) m c) (hy:ys.length=m*K)
  (hg:∀ i,i<m*K→w.cell? ⟨g,i,none⟩=some (.int .i64 (nth ys i))) (hn:n+m≤1048576) (B:Nat) (w0:World) (hb:Below B w0 w) (hB:B≤base) (hbase:base≤w.heap.size) (xs':List Int) (hxs:xs ++ ys=xs')
  (h:∀ g' cap' w',OwnR w' base E K (.slice (some ⟨g',0,none⟩) (n+m) cap') (n+m) xs'→Below B w0 w'→wpList P ops Q rest (a.put o.dst (.slice (some ⟨g',0,none⟩) (n+m) cap')) w') (hm:1≤m):wpList P ops Q (o :: rest) a w:=by
 subst hxs;obtain ⟨i0,hi0,hz0,hz1,hz2⟩:=info_parts hinfo;have hbb:(n+m)*bytes≤1048576*1024:=Nat.mul_le_mul hn hby;refine wpList_append_own (P:=P) w hgd s x t ho base E i0 (.agg zc) K bytes ht hi0 hz0 hz1 hz2 (by simpa [Value.cells] using hzc) hK v n _ hs hown.1 ⟨g,0,none⟩ m c (ys.map (Value.int .i64)) hx (by simpa using hy) ?_ ?_ (by unfold maxLen; omega) (by omega) hbase ?_
 ·intro j u hj
  have hjl:j<ys.length:=by
   have:=(List.getElem?_eq_some_iff.1 hj).1;simpa using this
  rw [List.getElem?_map,List.getElem?_eq_getElem hjl] at hj;simp at hj;subst hj;rw [Go.WideShapes.add_plain,Nat.zero_add,hg j (by rw [← hy]; exact hjl),nth_get ys j hjl]
 ·intro u hu
  obtain ⟨z,_,rfl⟩:=List.mem_map.1 hu;rfl
 ·intro v' w' hown' hgr _
  have h':OwnR w' base E K v' (n+m) (xs ++ ys):=⟨by rw [List.map_append]; exact hown',by rw [List.length_append,hown.2,hy,Nat.add_mul]⟩;rcases h'.form with ⟨_,h2,_⟩ | ⟨g',cap',rfl,_⟩
  ·omega
  ·exact h g' cap' w' h' (hb.grown hgr (by omega) (fun k hk=>by have:=hown.ownLt k hk; omega))
theorem grown_block {w w':World} {row:Option Nat} (h:w.grownBy w' row) (k:Nat) (hk:k<w.heap.size) (hne:some k ≠ row):w'.heap[k]?=w.heap[k]?:=by
 obtain ⟨_,_,_,_,hgg⟩:=h;exact hgg k hk hne
theorem OwnR.typeOf {w:World} {base:Nat} {E:TypeId} {K n:Nat} {v:Value} {xs:List Int} (h:OwnR w base E K v n xs) (g:Nat) (hg:v.ownBlock=some g) {T:TypeId} {m:Nat} {f:Nat→Value} (hr:RowF w g T m f):T=E:=by
 rcases h.form with ⟨rfl,_⟩ | ⟨g',cap,rfl,_,_,hr'⟩
 ·simp [Value.ownBlock] at hg
 ·simp [Value.ownBlock] at hg
  subst hg;obtain ⟨c,hb,_⟩:=hr;obtain ⟨c',hb',_⟩:=hr';rw [hb] at hb';simp at hb';exact hb'.2
def ApartV (u v:Value):Prop:=∀ k,u.ownBlock=some k→v.ownBlock ≠ some k
theorem ApartV.nil (v:Value):ApartV (.slice none 0 0) v:=fun k h=>by simp [Value.ownBlock] at h
theorem ApartV.symm {u v:Value} (h:ApartV u v):ApartV v u:=fun k h1 h2=>h k h2 h1
theorem OwnR.blockLt {w:World} {base:Nat} {E:TypeId} {K n:Nat} {v:Value} {xs:List Int} (h:OwnR w base E K v n xs):∀ k,v.ownBlock=some k→k<w.heap.size:=fun k hk=>(World.ownsRow.lt h.1 k hk).2
theorem OwnR.other {w w':World} {base:Nat} {E:TypeId} {K n:Nat} {u:Value} {xs:List Int} {row:Option Nat} (h:OwnR w base E K u n xs) (hg:w.grownBy w' row) (hne:∀ k,u.ownBlock=some k→row ≠ some k):OwnR w' base E K u n xs:=by
 refine ⟨⟨h.1.1,?_⟩,h.2⟩;rcases h.1.2 with h2 | ⟨g,cap,cur,h1,h2,h3,hr⟩
 ·exact .inl h2
 ·obtain ⟨_,_,_,_,hgg⟩:=hg
  refine .inr ⟨g,cap,cur,h1,h2,(hgg g (Array.getElem?_eq_some_iff.1 h3).1 (fun e=>hne g (by rw [h1]; rfl) e.symm)).trans h3,hr⟩
end
section
open Go.RowKit
theorem step_appR {P:Program} {ops:Array Oper} {o:Oper} {a:Act} {w:World} {K:Act→World→Prop} {Q:Exit→Act→World→Prop} {F:Prop} (hgd:o.guard=none) (s x:Operand) (t:TypeId)
  (ho:o.op = .call { callee := .builtin .append,args := #[s,x],argTypes := #[t,t] })
  (base:Nat) (E:TypeId) (Kr bytes:Nat) (zc:Array Value) (ht:P.underlying t=some (.slice E)) (hinfo:(P.info? E).map (fun i=>(i.zero,i.size,i.bytes))=some (some (.agg zc),Kr,bytes)) (hzc:zc.size=Kr) (hK:0<Kr) (hby:bytes≤1024)
  (v:Value) (n:Nat) (xs:List Int) (hs:a.eval s=v) (hown:OwnR w base E Kr v n xs) (g m c:Nat) (ys:List Int) (hx:a.eval x = .slice (some ⟨g,0,none⟩) m c) (hy:ys.length=m*Kr)
  (hg:∀ i,i<m*Kr→w.cell? ⟨g,i,none⟩=some (.int .i64 (nth ys i))) (hn:n+m≤1048576) (B:Nat) (w0:World) (hb:Below B w0 w) (hB:B≤base) (hbase:base≤w.heap.size) (xs':List Int) (hxs:xs ++ ys=xs') (hm:1≤m)
  (h:∀ g' cap' w',OwnR w' base E Kr (.slice (some ⟨g',0,none⟩) (n+m) cap') (n+m) xs'→Below B w0 w'→K (a.put o.dst (.slice (some ⟨g',0,none⟩) (n+m) cap')) w'):if Region.wanted o (yielded ops a.tmps)=true then Oper.wp P o a w K Q else F:=by
 have hw:Region.wanted o (yielded ops a.tmps)=true:=by simp [Region.wanted,hgd]
 rw [if_pos hw];subst hxs;obtain ⟨i0,hi0,hz0,hz1,hz2⟩:=info_parts hinfo;have hbb:(n+m)*bytes≤1048576*1024:=Nat.mul_le_mul hn hby;refine wp_append_own (P:=P) w s x t ho base E i0 (.agg zc) Kr bytes ht hi0 hz0 hz1 hz2 (by simpa [Value.cells] using hzc) hK v n _ hs hown.1 ⟨g,0,none⟩ m c (ys.map (Value.int .i64)) hx (by simpa using hy) ?_ ?_ (by unfold maxLen; omega) (by omega) hbase ?_
 ·intro j u hj
  have hjl:j<ys.length:=by
   have:=(List.getElem?_eq_some_iff.1 hj).1;simpa using this
  rw [List.getElem?_map,List.getElem?_eq_getElem hjl] at hj;simp at hj;subst hj;rw [Go.WideShapes.add_plain,Nat.zero_add,hg j (by rw [← hy]; exact hjl),nth_get ys j hjl]
 ·intro u hu
  obtain ⟨z,_,rfl⟩:=List.mem_map.1 hu;rfl
 ·intro v' w' hown' hgr _
  have h':OwnR w' base E Kr v' (n+m) (xs ++ ys):=⟨by rw [List.map_append]; exact hown',by rw [List.length_append,hown.2,hy,Nat.add_mul]⟩;rcases h'.form with ⟨_,h2,_⟩ | ⟨g',cap',rfl,_⟩
  ·omega
  ·exact h g' cap' w' h' (hb.grown hgr (by omega) (fun k hk=>by have:=hown.ownLt k hk; omega))
theorem step_appRT {P:Program} {ops:Array Oper} {o:Oper} {a:Act} {w:World} {K:Act→World→Prop} {Q:Exit→Act→World→Prop} {F:Prop} (hgd:o.guard=none) (s x:Operand) (t:TypeId)
  (ho:o.op = .call { callee := .builtin .append,args := #[s,x],argTypes := #[t,t] })
  (base:Nat) (E:TypeId) (Kr bytes:Nat) (zc:Array Value) (ht:P.underlying t=some (.slice E)) (hinfo:(P.info? E).map (fun i=>(i.zero,i.size,i.bytes))=some (some (.agg zc),Kr,bytes)) (hzc:zc.size=Kr) (hK:0<Kr) (hby:bytes≤1024)
  (v:Value) (n:Nat) (xs:List Int) (hs:a.eval s=v) (hown:OwnR w base E Kr v n xs) (g m c:Nat) (ys:List Int) (hx:a.eval x = .slice (some ⟨g,0,none⟩) m c) (hy:ys.length=m*Kr)
  (hg:∀ i,i<m*Kr→w.cell? ⟨g,i,none⟩=some (.int .i64 (nth ys i))) (hn:n+m≤1048576) (B:Nat) (w0:World) (hb:Below B w0 w) (hB:B≤base) (hbase:base≤w.heap.size) (xs':List Int) (hxs:xs ++ ys=xs') (hm:1≤m)
  (h:∀ g' cap' w',OwnR w' base E Kr (.slice (some ⟨g',0,none⟩) (n+m) cap') (n+m) xs'→Below B w0 w'→(∀ g2 T m2 f,T ≠ E→RowF w g2 T m2 f→RowF w' g2 T m2 f)→K (a.put o.dst (.slice (some ⟨g',0,none⟩) (n+m) cap')) w'):if Region.wanted o (yielded ops a.tmps)=true then Oper.wp P o a w K Q else F:=by
 have hw:Region.wanted o (yielded ops a.tmps)=true:=by simp [Region.wanted,hgd]
 rw [if_pos hw];subst hxs;obtain ⟨i0,hi0,hz0,hz1,hz2⟩:=info_parts hinfo;have hbb:(n+m)*bytes≤1048576*1024:=Nat.mul_le_mul hn hby;refine wp_append_own (P:=P) w s x t ho base E i0 (.agg zc) Kr bytes ht hi0 hz0 hz1 hz2 (by simpa [Value.cells] using hzc) hK v n _ hs hown.1 ⟨g,0,none⟩ m c (ys.map (Value.int .i64)) hx (by simpa using hy) ?_ ?_ (by unfold maxLen; omega) (by omega) hbase ?_
 ·intro j u hj
  have hjl:j<ys.length:=by
   have:=(List.getElem?_eq_some_iff.1 hj).1;simpa using this
  rw [List.getElem?_map,List.getElem?_eq_getElem hjl] at hj;simp at hj;subst hj;rw [Go.WideShapes.add_plain,Nat.zero_add,hg j (by rw [← hy]; exact hjl),nth_get ys j hjl]
 ·intro u hu
  obtain ⟨z,_,rfl⟩:=List.mem_map.1 hu;rfl
 ·intro v' w' hown' hgr _
  have h':OwnR w' base E Kr v' (n+m) (xs ++ ys):=⟨by rw [List.map_append]; exact hown',by rw [List.length_append,hown.2,hy,Nat.add_mul]⟩;rcases h'.form with ⟨_,h2,_⟩ | ⟨g',cap',rfl,_⟩
  ·omega
  ·exact h g' cap' w' h' (hb.grown hgr (by omega) (fun k hk=>by have:=hown.ownLt k hk; omega)) (fun g2 T m2 f hT hr=>hr.of_block (grown_block hgr g2 hr.lt (fun e=>hT (hown.typeOf g2 e.symm hr))))
end
section
open Go.RowKit
theorem infoThr:(Tryz.prog.info? 66).map (fun i=>(i.zero,i.size,i.bytes))=some (some (.agg #[.int .i64 0,.int .i64 0,.int .i64 0,.int .i64 0]),4,32):=by kernel_rfl
theorem keep12 {w1 w2:World} {b off i k m:Nat} {pa pb pc pd qa qb qc qd ra rb rc rd:Int} (h:(w1.cell? ⟨b,off+i*4,none⟩=some (.int .i64 pa)∧w1.cell? ⟨b,off+i*4+1,none⟩=some (.int .i64 pb)∧w1.cell? ⟨b,off+i*4+2,none⟩=some (.int .i64 pc)∧w1.cell? ⟨b,off+i*4+3,none⟩=some (.int .i64 pd))∧(w1.cell? ⟨b,off+k*4,none⟩=some (.int .i64 qa)∧w1.cell? ⟨b,off+k*4+1,none⟩=some (.int .i64 qb)∧w1.cell? ⟨b,off+k*4+2,none⟩=some (.int .i64 qc)∧w1.cell? ⟨b,off+k*4+3,none⟩=some (.int .i64 qd))∧(w1.cell? ⟨b,off+m*4,none⟩=some (.int .i64 ra)∧w1.cell? ⟨b,off+m*4+1,none⟩=some (.int .i64 rb)∧w1.cell? ⟨b,off+m*4+2,none⟩=some (.int .i64 rc)∧w1.cell? ⟨b,off+m*4+3,none⟩=some (.int .i64 rd))) (e:∀ x,w2.cell? ⟨b,x,none⟩=w1.cell? ⟨b,x,none⟩) :
  (w2.cell? ⟨b,off+i*4,none⟩=some (.int .i64 pa)∧w2.cell? ⟨b,off+i*4+1,none⟩=some (.int .i64 pb)∧w2.cell? ⟨b,off+i*4+2,none⟩=some (.int .i64 pc)∧w2.cell? ⟨b,off+i*4+3,none⟩=some (.int .i64 pd))∧(w2.cell? ⟨b,off+k*4,none⟩=some (.int .i64 qa)∧w2.cell? ⟨b,off+k*4+1,none⟩=some (.int .i64 qb)∧w2.cell? ⟨b,off+k*4+2,none⟩=some (.int .i64 qc)∧w2.cell? ⟨b,off+k*4+3,none⟩=some (.int .i64 qd))∧(w2.cell? ⟨b,off+m*4,none⟩=some (.int .i64 ra)∧w2.cell? ⟨b,off+m*4+1,none⟩=some (.int .i64 rb)∧w2.cell? ⟨b,off+m*4+2,none⟩=some (.int .i64 rc)∧w2.cell? ⟨b,off+m*4+3,none⟩=some (.int .i64 rd)):=by
 simp only [e];exact h
end
section
open Go.RowKit
set_option maxHeartbeats 1600000 in
theorem indexThr_any (A:Option Addr) (n c:Nat) (xs:List Int) (H V M D:Int) (w:World) (h:RecsAt w w.heap.size 4 A n xs) (hn:n≤1048576) :
  Calls Tryz.prog 145 #[.slice A n c,.agg #[.int .i64 H,.int .i64 V,.int .i64 M,.int .i64 D]] w fun e w'=>(∃ r:Int,e = .returned (.int .i64 r)∧((hasTo xs H V M D n=false∧r = -1) ∨ (hasTo xs H V M D n=true∧0≤r)))∧Below w.heap.size w w':=by
 have HL:=Lib.hid h;have BX:=Lib.hid (Box4.new w H V M D 66);have B0:=Lib.hid ((Below.refl w.heap.size w).alloc (Nat.le_refl _) (.cells #[.int .i64 H,.int .i64 V,.int .i64 M,.int .i64 D] 66));clear h;go_enter Tryz.func145,Tryz.ntmps145;go_wp2;go_loopw [8] (fun i wr=>∃ k:Nat,k≤n∧i = .int .i64 k∧Hid (hasTo xs H V M D k=false)∧Hid (Box4 wr w.heap.size H V M D)∧Hid (Below w.heap.size w wr)) (fun i _=>n - (intOf i).toNat)
 case atStart=>exact ⟨0,Nat.zero_le _,rfl,Lib.hid rfl,BX,B0⟩
 case round =>
  clear BX B0;obtain ⟨k,hk,rfl,HP,HX,HB⟩:=hrel;by_cases hlt:k<n
  ·obtain ⟨b,off,rfl,hbB,hc⟩:=HL.out.2 (by omega)
   obtain ⟨x0,x1,x2,x3⟩:=rwCells (fun i hi=>(HB.out.cell (by exact hbB)).trans (hc i hi)) hlt;have HT:=Lib.hid (fun e=>hasTo_mem (xs:=xs) (H:=H) (V:=V) (M:=M) (D:=D) e hlt);have HS:=Lib.hid (fun e=>hasTo_step HP.out (k:=k) e);have HE:Hid (hasAt xs H V M D k=(decide (nth xs (k*4)=H) && (decide (nth xs (k*4+1)=V) && (decide (nth xs (k*4+2)=M) && decide (nth xs (k*4+3)=D))))):=Lib.hid rfl;clear hc;generalize nth xs (k*4)=y0 at *
   generalize nth xs (k*4+1)=y1 at *
   generalize nth xs (k*4+2)=y2 at *
   generalize nth xs (k*4+3)=y3 at *
   obtain ⟨c0,c1,c2,c3⟩:=HX.out.1;have ki:(k:Int)<(n:Int):=by omega
   by_cases e0:H=y0
   rotate_left
   ·have HS1:=Lib.hid (HS.out (HE.out.trans (by simp [Ne.symm e0])))
    go_wp2;go_region
    go_wp2;go_roundw
    case rel=>exact ⟨k+1,by omega,by go_num,HS1,HX.out.after (below_dr (Below.refl _ _)) |> Lib.hid,Lib.hid (below_dr HB.out)⟩
    case measure=>simp [intOf]; omega
   by_cases e1:V=y1
   rotate_left
   ·have HS1:=Lib.hid (HS.out (HE.out.trans (by simp [e0,Ne.symm e1])))
    go_wp2;go_region
    go_wp2;go_roundw
    case rel=>exact ⟨k+1,by omega,by go_num,HS1,HX.out.after (below_dr (Below.refl _ _)) |> Lib.hid,Lib.hid (below_dr HB.out)⟩
    case measure=>simp [intOf]; omega
   by_cases e2:M=y2
   rotate_left
   ·have HS1:=Lib.hid (HS.out (HE.out.trans (by simp [e0,e1,Ne.symm e2])))
    go_wp2;go_region
    go_wp2;go_roundw
    case rel=>exact ⟨k+1,by omega,by go_num,HS1,HX.out.after (below_dr (Below.refl _ _)) |> Lib.hid,Lib.hid (below_dr HB.out)⟩
    case measure=>simp [intOf]; omega
   by_cases e3:D=y3
   rotate_left
   ·have HS1:=Lib.hid (HS.out (HE.out.trans (by simp [e0,e1,e2,Ne.symm e3])))
    go_wp2;go_region
    go_wp2;go_roundw
    case rel=>exact ⟨k+1,by omega,by go_num,HS1,HX.out.after (below_dr (Below.refl _ _)) |> Lib.hid,Lib.hid (below_dr HB.out)⟩
    case measure=>simp [intOf]; omega
   have HT1:=Lib.hid (HT.out (HE.out.trans (by simp [e0,e1,e2,e3])));go_wp2;go_region
   go_wp2;go_ret;exact ⟨⟨k,rfl,.inr ⟨HT1.out,by omega⟩⟩,below_dr HB.out⟩
  ·obtain rfl:k=n:=by omega
   go_wp2;go_ret;exact ⟨⟨-1,rfl,.inl ⟨HP.out,rfl⟩⟩,HB.out⟩
set_option maxHeartbeats 1600000 in
theorem containsThr_any (A:Option Addr) (n c:Nat) (xs:List Int) (H V M D:Int) (w:World) (h:RecsAt w w.heap.size 4 A n xs) (hn:n≤1048576) :
  Calls Tryz.prog 110 #[.slice A n c,.agg #[.int .i64 H,.int .i64 V,.int .i64 M,.int .i64 D]] w fun e w'=>e = .returned (.bool (hasTo xs H V M D n))∧Below w.heap.size w w':=by
 have HB:=Lib.hid ((Below.refl w.heap.size w).alloc (Nat.le_refl _) (.cells #[.int .i64 H,.int .i64 V,.int .i64 M,.int .i64 D] 66));have HL:=Lib.hid (RecsAt.after h HB.out);clear h;go_enter Tryz.func110,Tryz.ntmps110;go_wp2_with fail
 refine (indexThr_any _ _ _ xs _ _ _ _ _ HL.out hn).mono ?_;rintro e w1 ⟨⟨r,rfl,hr⟩,hb⟩;have HB1:=Lib.hid (HB.out.trans (hb.mono HB.out.size));clear hb;rcases hr with ⟨hp,rfl⟩ | ⟨hp,hr⟩
 ·have HF:=Lib.hid hp
  clear hp;go_wp2;go_ret;exact ⟨ret_bool HF.out.symm,HB1.out⟩
 ·have HF:=Lib.hid hp
  clear hp;go_wp2;go_ret;exact ⟨ret_bool HF.out.symm,HB1.out⟩
end
section
open Go.RowKit
def RestZ (w:World) (E:TypeId) (K:Nat) (v:Value):Prop:=∀ g n c cur,v = .slice (some ⟨g,0,none⟩) n c→w.heap[g]?=some (.cells cur E (0,0))→∀ i,n*K≤i→i<cur.size→cur[i]?=some (.int .i64 0)
structure OwnZ (w:World) (base:Nat) (E:TypeId) (K:Nat) (v:Value) (n:Nat) (xs:List Int):Prop where
 own:OwnR w base E K v n xs
 rest:RestZ w E K v
 nz:xs = []→v = .slice none 0 0
section
variable {w w' : World} {base : Nat} {E : TypeId} {K n : Nat} {v : Value} {xs : List Int}
theorem RestZ.block (h:RestZ w E K v) (hb:∀ g,v.ownBlock=some g→w'.heap[g]?=w.heap[g]?):RestZ w' E K v:=fun g n c cur e hh=>by
 subst e;rw [hb g rfl] at hh;exact h g n c cur rfl hh
theorem OwnZ.nil (w:World) (base:Nat) (E:TypeId) (K:Nat):OwnZ w base E K (.slice none 0 0) 0 []:=⟨OwnR.nil _ _ _ _,fun g n c cur e=>by simp at e,fun _=>rfl⟩
theorem OwnZ.alloc (h:OwnZ w base E K v n xs) (o:Obj):OwnZ (w.alloc o) base E K v n xs:=⟨h.own.alloc o,h.rest.block fun g hg=>heap_alloc_old w o (World.ownsRow.lt h.own.1 g hg).2,h.nz⟩
theorem OwnZ.below (h:OwnZ w base E K v n xs) (hb:Below w.heap.size w w'):OwnZ w' base E K v n xs:=⟨h.own.below hb,h.rest.block fun g hg=>hb.block g (World.ownsRow.lt h.own.1 g hg).2,h.nz⟩
theorem OwnZ.slice (h:OwnZ w base E K v n xs):∃ A c,v = .slice A n c∧n≤c:=h.own.slice
theorem OwnZ.recs {A:Option Addr} {c:Nat} (h:OwnZ w base E K (.slice A n c) n xs):RecsAt w w.heap.size K A n xs:=h.own.recs
end
theorem zeroCells_at {zc:Array Value} (hzz:∀ j,j<zc.size→zc[j]?=some (.int .i64 0)) {n i:Nat} (hi:i<(Builtin.zeroCells zc n).size):(Builtin.zeroCells zc n)[i]?=some (.int .i64 0):=by
 have hs:=size_zeroCells zc n;have hz:0<zc.size:=by
  rcases Nat.eq_zero_or_pos zc.size with e | e
  ·rw [hs,e,Nat.mul_zero] at hi; omega
  ·exact e
 have hm:=Nat.mod_lt i hz;have h1:=hzz _ hm;rw [hs] at hi;simp only [Builtin.zeroCells,Array.getElem?_map,Array.getElem?_range,if_pos hi,Option.map_some,Option.some.injEq];rw [getElem!_def,h1]
theorem append_rest {P:Program} (w:World) (base:Nat) (t ty e:TypeId) (i:TypeInfo) (zc:Array Value) (size bytes:Nat) (ht:P.underlying t=some (.slice e)) (hi:P.info? e=some i) (hz:i.zero=some (.agg zc))
  (hsize:i.size=size) (hby:i.bytes=bytes) (hzs:zc.size=size) (hzz:∀ j,j<zc.size→zc[j]?=some (.int .i64 0))
  (v:Value) (n:Nat) (xs:List Value) (hown:w.ownsRow base e size v n xs) (hrest:RestZ w e size v)
  (a:Addr) (m c:Nat) (news:List Value) (hl:news.length=m*size) (hnews:∀ j u,news[j]?=some u→w.cell? (a.add j)=some u) (h1:∀ u ∈ news,u.oneCell'=true)
  (h63:n+m≤maxLen) (hbytes:(n+m)*bytes≤140737488355328) (hm:1≤m) {v':Value} {w':World}
  (hr:(Builtin.append_ #[t,t] ty #[v,.slice (some a) m c]).run P w = .ok v' w'):RestZ w' e size v':=by
 subst hsize;subst hby;have hsmall:n+m≤9223372036854775807:=by simp only [maxLen] at h63; omega
 have fin:∀ (ys:List Value) (k cap:Nat),ys.length=k*i.size→RestZ (w.drew.alloc (.cells (ys.toArray ++ Builtin.zeroCells zc (cap - k)) e)) e i.size (.slice (some ⟨w.heap.size,0,none⟩) k cap):=by
  intro ys k cap hys g n c cur e1 hh j hj1 hj2;simp only [Value.slice.injEq,Option.some.injEq,Addr.mk.injEq] at e1;obtain ⟨⟨rfl,_,_⟩,rfl,rfl⟩:=e1;have hh2:=heap_alloc_new w.drew (.cells (ys.toArray ++ Builtin.zeroCells zc (cap - k)) e);have hh3:=hh.symm.trans hh2;simp only [Option.some.injEq,Obj.cells.injEq] at hh3;obtain ⟨rfl,_,_⟩:=hh3;rw [Array.getElem?_append,if_neg (by simp [hys]; omega)]
  refine zeroCells_at hzz ?_;simp only [Array.size_append,List.size_toArray,hys] at hj2 ⊢;omega
 rcases hown.2 with ⟨rfl,rfl⟩ | ⟨g,cap,cur,rfl,hbg,hg,hnc,hcm,hcs,htake⟩
 ·have hr2:=run_append_nil (P:=P) w t ty e i (.agg zc) ht hi hz a m c news hl hnews (by omega) (by omega) (by have hb:=hbytes; simp only [Nat.zero_add] at hb; omega)
  rw [hr2] at hr;cases hr;exact fin news m _ hl
 ·by_cases hroom:n+m≤cap
  ·have hfit:n*i.size+news.length≤cur.size:=by rw [hl,hcs,← Nat.add_mul]; exact Nat.mul_le_mul_right _ hroom
   have hr2:=run_append_room (P:=P) w t ty e i ht hi g n cap cur hg a m c news hl hnews h1 hroom hfit;rw [hr2] at hr;cases hr;intro g2 n2 c2 cur2 e1 hh j hj1 hj2;simp only [Value.slice.injEq,Option.some.injEq,Addr.mk.injEq] at e1;obtain ⟨⟨rfl,_,_⟩,rfl,rfl⟩:=e1;rw [setRow_heap w g cur _ e _ hg] at hh;simp only [Option.some.injEq,Obj.cells.injEq] at hh;obtain ⟨rfl,_,_⟩:=hh;have hk:=hrest g n cap cur rfl hg j (by rw [Nat.add_mul] at hj1; omega)
   have hnn:n*i.size+news.length=(n+m)*i.size:=by rw [hl,Nat.add_mul]
   simp only [List.size_toArray,List.length_append,List.length_take,List.length_drop,Array.length_toList] at hj2;have hj3:j<cur.size:=by omega
   have hk2:=hk hj3;simp only [List.getElem?_toArray];rw [List.getElem?_append_right (by simp; omega),List.getElem?_drop]
   simp only [List.length_append,List.length_take,Array.length_toList];rw [show n*i.size+news.length+(j - (min (n*i.size) cur.size+news.length))=j by omega];simpa using hk2
  ·have holds:∀ j u,xs[j]?=some u→w.cell? ((⟨g,0,none⟩:Addr).add j)=some u:=hown.cells (g:=g) rfl
   have hr2:=run_append_grow (P:=P) w t ty e i (.agg zc) ht hi hz ⟨g,0,none⟩ n cap xs hown.1 holds a m c news hl hnews (by omega) (by omega) (growslice_fits (by omega) hbytes);rw [hr2] at hr;cases hr;have:=fin (xs ++ news) (n+m) (grownCap w (n+m) cap e) (by rw [List.length_append,hown.1,hl,Nat.add_mul]);simpa [Value.cells] using this
theorem wpList_appZ {P:Program} (w:World) {ops:Array Oper} {rest:List Oper} {o:Oper} {a:Act} {Q:Exit→Act→World→Prop} (hgd:o.guard=none) (s x:Operand) (t:TypeId)
  (ho:o.op = .call { callee := .builtin .append,args := #[s,x],argTypes := #[t,t] })
  (base:Nat) (E:TypeId) (K bytes:Nat) (zc:Array Value) (ht:P.underlying t=some (.slice E)) (hinfo:(P.info? E).map (fun i=>(i.zero,i.size,i.bytes))=some (some (.agg zc),K,bytes)) (hzc:zc.size=K) (hzz:∀ j,j<zc.size→zc[j]?=some (.int .i64 0)) (hK:0<K) (hby:bytes≤1024)
  (v:Value) (n:Nat) (xs:List Int) (hs:a.eval s=v) (hown:OwnZ w base E K v n xs) (g m c:Nat) (ys:List Int) (hx:a.eval x = .slice (some ⟨g,0,none⟩) m c) (hy:ys.length=m*K)
  (hg:∀ i,i<m*K→w.cell? ⟨g,i,none⟩=some (.int .i64 (nth ys i))) (hn:n+m≤1048576) (B:Nat) (w0:World) (hb:Below B w0 w) (hB:B≤base) (hbase:base≤w.heap.size) (xs':List Int) (hxs:xs ++ ys=xs')
  (h:∀ g' cap' w',OwnZ w' base E K (.slice (some ⟨g',0,none⟩) (n+m) cap') (n+m) xs'→Below B w0 w'→wpList P ops Q rest (a.put o.dst (.slice (some ⟨g',0,none⟩) (n+m) cap')) w') (hm:1≤m):wpList P ops Q (o :: rest) a w:=by
 subst hxs;obtain ⟨i0,hi0,hz0,hz1,hz2⟩:=info_parts hinfo;have hbb:(n+m)*bytes≤1048576*1024:=Nat.mul_le_mul hn hby;have hnews:∀ j u,(ys.map (Value.int .i64))[j]?=some u→w.cell? ((⟨g,0,none⟩:Addr).add j)=some u:=by
  intro j u hj;have hjl:j<ys.length:=by
   have:=(List.getElem?_eq_some_iff.1 hj).1;simpa using this
  rw [List.getElem?_map,List.getElem?_eq_getElem hjl] at hj;simp at hj;subst hj;rw [Go.WideShapes.add_plain,Nat.zero_add,hg j (by rw [← hy]; exact hjl),nth_get ys j hjl]
 have hone:∀ u ∈ ys.map (Value.int .i64),u.oneCell'=true:=by
  intro u hu;obtain ⟨z,_,rfl⟩:=List.mem_map.1 hu;rfl
 refine wpList_plain hgd fun _ hK' => ?_
 obtain ⟨v',w',hr,h2,h3,h4⟩:=run_append_own (P:=P) w base t o.type E i0 (.agg zc) K bytes ht hi0 hz0 hz1 hz2 (by simpa [Value.cells] using hzc) hK v n _ hown.own.1 ⟨g,0,none⟩ m c (ys.map (Value.int .i64)) (by simpa using hy) hnews hone (by unfold maxLen; omega) (by omega) hbase
 have hrz:=append_rest (P:=P) w base t o.type E i0 zc K bytes ht hi0 hz0 hz1 hz2 hzc hzz v n _ hown.own.1 hown.rest ⟨g,0,none⟩ m c (ys.map (Value.int .i64)) (by simpa using hy) hnews hone (by unfold maxLen; omega) (by omega) hm hr
 unfold Oper.wp execOp;simp only [ho,resolve,invoke,builtin,Sem.run_bind,Sem.run_pure,Result.andThen_ok,List.map_toArray,List.map_cons,List.map_nil,hs,hx,hr];refine hK' _ _ ?_;have h':OwnR w' base E K v' (n+m) (xs ++ ys):=⟨by rw [List.map_append]; exact h2,by rw [List.length_append,hown.own.2,hy,Nat.add_mul]⟩;rcases h'.form with ⟨_,h2,_⟩ | ⟨g',cap',rfl,_⟩
 ·omega
 ·exact h g' cap' w' ⟨h',hrz,fun e=>by have:=congrArg List.length e; rw [List.length_append,hy,List.length_nil] at this; have:0<m*K:=Nat.mul_pos (by omega) hK; omega⟩ (hb.grown h3 (by omega) (fun k hk=>by have:=hown.own.ownLt k hk; omega))
end
end Go.Proofs.YtjcgklifabcfkaaGreat
